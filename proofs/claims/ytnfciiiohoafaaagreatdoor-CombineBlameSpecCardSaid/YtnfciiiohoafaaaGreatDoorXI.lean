/-
  Part of the proof: XI.
-/
import Derived.Test.YtnfciiiohoafaaaGreatDoorXH
import Derived.Test.YtnfciiiohoafaaaGreatDoorXG
import Derived.Test.YtnfciiiohoafaaaGreatDoorXE
import Derived.Test.YtnfciiiohoafaaaGreatDoorXD
import Derived.Test.YtnfciiiohoafaaaGreatDoorXF
open True renaming intro->aY
open Option renaming some->aa
open Go renaming FuncId->bq
open Bool renaming true->ah,false->aB,and_eq_true->bI
open List renaming foldl_cons->v9,getElem?_map->ey,getElem?_eq_some_iff->aW,length_map->bF,range->bO,take_length->fN,getElem?_eq_getElem->aU,mem_of_getElem?->dy,take_of_length_le->gK,getElem?_range->y8,length_cons->jd,length_take->fm,length_singleton->N3,append_nil->jC,nil_append->mh,all_eq_false->Es,cons_append->lO
open Go.Proofs.Tryz renaming prog->aq,underlying23->dY,func148->aeG
open Nat renaming le_of_ble_eq_true->jS,reduceEqDiff->aS,zero_le->cD,le_refl->aL,le_trans->fG
open Int renaming toNat_natCast->dW
open And renaming intro->az
set_option maxHeartbeats 64000000
set_option maxRecDepth 100000
set_option linter.unusedSimpArgs false
set_option linter.unusedVariables false
set_option linter.constructorNameAsVariable false
set_option linter.defProp false
section
namespace Go.Proofs.YtnfciiiohoafaaaGreatDoor
open Go.AE Go.NT
section
variable (R:Rec)
def Az:Prop:=∀n h,R.call 59 [im n] h=aa (.ret (.v (.bool (cA n))),h)
def Ay:Prop:=∀x l aA,PL x l->l.length<=1000000->∃i,J7 l aA i/\∀h,R.call 58 [x,im aA] h=aa (.ret (im i),h)
def AD:Prop:=∀x y ae ag aA,RL x ae->IL y ag->ag.length<=1000000->∃X,IL X (bW (ga ag aA))/\∀h,R.call 60 [.agg [x,y],im aA] h=aa (.ret X,h)
end
section
variable {R:Rec} {L:List bq}
def Az.up(hg:L.contains 59=ah)(c:Az R):Az (up R L):=λn=>bm hg rfl rfl (c n _) rfl rfl
def Ay.up(hg:L.contains 58=ah)(c:Ay R):Ay (up R L):=λx l aA hx hl=>by obtain⟨h1,h2⟩:=hx.fD;obtain⟨i,hi,c⟩:=c _ l aA h1 hl;exact⟨i,hi,bm (b7:=[aD x,im aA]) hg rfl (by simp[aR,aK,h2,im]) (c _) rfl rfl⟩
def AD.up(hg:L.contains 60=ah)(c:AD R):AD (up R L):=λx y ae ag aA hx hy hl=>by obtain⟨h1,h2⟩:=hx.fD;obtain⟨h3,h4⟩:=hy.hold;obtain⟨X,hX,c⟩:=c _ _ ae ag aA h1 h3 hl;obtain⟨h5,h6⟩:=hX.Dx ⟨[],[],0,[]⟩;exact⟨_,h5,bm (b7:=[.agg [aD x,aD y],im aA]) hg rfl (by simp[aR,aK,h2,h4,im]) (c _) rfl h6⟩
end
def ahY:Az qE:=Az.up (L:=tZ) rfl (Az.up (L:=L9) rfl (Az.up (L:=L8) rfl (Az.up (L:=L7) rfl λn h=>an8 n h)))
def ahX:Ay W7:=λx l aA hx hl=>by obtain⟨h1,h2⟩:=hx.fD;obtain⟨r,h',c,-,i,rfl,hi⟩:=amn ⟨[],[],0,[]⟩ _ l aA h1 hl;exact⟨i,hi,bm (L:=L7) (b7:=[aD x,im aA]) rfl rfl (by simp[aR,aK,h2,im]) c rfl rfl⟩
def ahW:Ay qE:=Ay.up (L:=tZ) rfl (Ay.up (L:=L9) rfl (Ay.up (L:=L8) rfl ahX))
def aiL:AD W7:=λx y ae ag aA hx hy hl=>by obtain⟨h1,h2⟩:=hx.fD;obtain⟨h3,h4⟩:=hy.hold;obtain⟨r,h',c,t,rfl⟩:=ash ⟨[],[],0,[]⟩ rfl _ _ ae ag aA h1 h3 hl;obtain⟨h5,h6⟩:=IL.Dx (x:=.list t 1 (ints (bW (ga ag aA)))) ⟨_,_,rfl,λ_=>rfl⟩ h';exact⟨_,h5,bm (L:=L7) (b7:=[.agg [aD x,aD y],im aA]) rfl rfl (by simp[aR,aK,h2,h4,im]) c rfl h6⟩
def aiK:AD qE:=AD.up (L:=tZ) rfl (AD.up (L:=L9) rfl (AD.up (L:=L8) rfl aiL))
def Mh:xx qE 62:=aa3.up rfl
def amI:AA qE:=AA.up (L:=tZ) rfl (AA.up (L:=L9) rfl ZT)
def aeZ:xw qE:=xw.up (L:=tZ) rfl (xw.up (L:=L9) rfl U6)
def aso{ag}{aA}{r}(h:r∈ga ag aA):r<ag.length:=by unfold ga at h;exact List.mem_range.1 (List.mem_filter.1 h).1
def nX.ai2{X Y C T L}{ae}{ag aj}{ep}{text}{l}(g:nX X Y C T L ae ag aj text l)(h:cP ae ag ep aj text l=0)(hr:ae.length<=1000000)(hc:aj.length<=1000000):yU X Y C ae ag aj:=by obtain⟨h1,h2,h3,-⟩:=Cq h;exact⟨g.x,g.y,g.c,h1,h2,h3,hr,hc⟩
def as9:Tryz.f74.results.toList=[.tmp 6,.tmp 7]:=by kernel_rfl
def apQ(h:ar)(x y z:AV)(ae:List (List Int))(ag aj:List Int)(g:yU x y z ae ag aj)(row:Nat)(hr:row<ae.length):
 ∃r h',W8.call 74 [.agg [x,y],z,im (row:Nat)] h=aa (r,h')/\r=.ret (.tuple [im (ja aj (ae.getD row []):Nat),im 0]):=by
 have bx:=tU g.x g.y;have c1:=Wd x y ae ag g.x g.y g.rl;rw[g.pe] at c1;have c2:=aim x y z ae ag aj g.x g.y g.z g.cb;rw[b8 g.cl,g.el,Bool.and_self] at c2;have c4:=apR x y z ae ag aj row g hr;have l0:=uM (bg h [x,y]);have l1:=qS (bg h [x,y]);have lx:=g.x.dQ;have zA:¬((row:Nat):Int)<0:=by omega
 have QY:¬((ae.length:Nat):Int)<=((row:Nat):Int):=by omega
 obtain⟨H0,hH⟩:∃H0,h.push [x,y]=H0:=⟨_,rfl⟩;rw[hH] at l0 l1;clear g hr;generalize ((ja aj (ae.getD row []):Nat):Int)=p2 at *
 unfold im at *
 refine di rfl Tryz.func74 rfl ?_;refine bK @as9 @bu @hH @dK ?_;exact⟨_,_,rfl,rfl⟩
def Ej(R:Rec):Prop:=∀x y z ae ag aj,yU x y z ae ag aj->∀row:Nat,row<ae.length->∀h,R.call 74 [.agg [x,y],z,im (row:Nat)] h=aa (.ret (.tuple [im (ja aj (ae.getD row []):Nat),im 0]),h)
def Ej.up{R}{L}(hg:L.contains 74=ah)(c:Ej R):Ej (up R L):=λx y z ae ag aj g row hr=>by obtain⟨g2,f1,f2,f3⟩:=g.hold;exact bm (b7:=[.agg [aD x,aD y],aD z,im (row:Nat)]) hg rfl (by simp[aR,aK,f1,f2,f3,im]) (c _ _ _ ae ag aj g2 row hr _) rfl rfl
def aiE:Ej W9:=λx y z ae ag aj g row hr=>by obtain⟨g2,f1,f2,f3⟩:=g.hold;obtain⟨r,h',c,rfl⟩:=apQ ⟨[],[],0,[]⟩ _ _ _ ae ag aj g2 row hr;exact bm (L:=L9) (b7:=[.agg [aD x,aD y],aD z,im (row:Nat)]) rfl rfl (by simp[aR,aK,f1,f2,f3,im]) c rfl rfl
def aiD:Ej qE:=Ej.up (L:=tZ) rfl aiE
def aaq:AB qE 73:=RP.up rfl
def Xh{α:Type}(f:α->Nat):∀(l:List α) (n k:Nat),n * (l.foldl (λx p=>x * f p%P) k)%P=l.foldl (λx p=>x * f p%P) (n * k%P)
 | [],_,_=>rfl
 |a::l,n,k=>by rw[v9,v9,Xh f l n,Nat.mul_mod_mod,Nat.mod_mul_mod,Nat.mul_assoc]
def an4(c0)(text)(l)(p):iZ c0 text l p * 1%P=iZ c0 text l p:=by unfold iZ;rw[Nat.mul_one,Nat.mod_mod]
def uV(ae:List (List Int))(aj W:List Int)(ch:Int)(n:Nat)(l:List Nat):Nat:=l.foldl (λa i=>a * bH (ja aj (ae.getD i [])) (al W i * ch)%P) n
def Xb{ae}{ag aj}{text}{l}{aA z}(h:nu l aA=none∨cA z=aB):uq ae ag aj text l aA z=(aB,1):=by
 unfold uq;cases qP:nu l aA with
 |none=>rfl|some x=>
  rcases h with q|q
  ·rw[qP] at q;cases q
  ·simp only[q];rfl
def ajW{ae}{ag aj}{text}{l}{aA z}{x}(h:nu l aA=aa x)(hz:cA z=ah)(hk:x.aA=aA):uq ae ag aj text l aA z=(decide (((bH Gn z:Nat):Int)=((uV ae aj (ff ae ag l) ((ek (al aj 0) text l:Nat):Int) (iZ (al aj 0) text l x) (ga ag aA):Nat):Int)),0):=by
 unfold uq;rw[h];simp only[hz];have e:vW ae ag aj text l x=uV ae aj (ff ae ag l) ((ek (al aj 0) text l:Nat):Int) (iZ (al aj 0) text l x) (ga ag aA):=by unfold vW uV;rw[Xh,an4,hk]
 rw[e];have e2:∀a b:Nat,decide (a=b)=decide ((a:Int)=(b:Int)):=λa b=>by rw[decide_eq_decide];omega
 rw[e2];rfl
def awx{ae}{aj W}{ch}{n}{l:List Nat}{i r}(h:l[i]?=aa r):uV ae aj W ch n (l.take (i+1))=uV ae aj W ch n (l.take i) * bH (ja aj (ae.getD r [])) (al W r * ch)%P:=by unfold uV;rw[fE h,List.foldl_append];rfl
def aww{ae}{aj W}{ch}{n}{l}(hc:aj.all bN=ah)(hn:elem n=ah):elem (uV ae aj W ch n l)=ah:=BN (λi _=>xd (I9 hc) _) hn
def afR{l}{i r:Nat}(h:l[i]?=aa r):al (bW l) i=(r:Int):=by unfold bW al;rw[List.getD_eq_getElem?_getD,ey,h];rfl
def BS:Tryz.f23.results.toList=[.tmp 10,.tmp 11]:=by kernel_rfl
def ajP(h:ar)(ep:Int)(X Y C T L:AV)(ae:List (List Int))(ag aj:List Int)(text:List UInt8)(l:List Pr)(aA z:Int)(g:nX X Y C T L ae ag aj text l)(cU:ae.length<=1000000)(oP:ag.length<=1000000)(db:aj.length<=1000000)(dG:l.length<=1000000):
 ∃r h',qE.call 23 [.agg (aN ep X Y C),T,L,im aA,im z] h=aa (r,h')/\Ext h h'/\r=.ret (.tuple [.v (.bool (ki ae ag ep aj text l aA z).1),im (ki ae ag ep aj text l aA z).2]):=by
 have bx:=g.cells ep;have c1:=V8 ep X Y C T L ae ag aj text l g cU db dG;have b0:=bg h (aN ep X Y C);have kX:=ao.mk (Ext.push h (aN ep X Y C));have l0:aI aq Gt (h.push (aN ep X Y C)) 27 (.ptr (.box h.boxes.length) 0)=aa (.agg (aN ep X Y C)):=zZ b0 rfl;have l1:aI aq Gt (h.push (aN ep X Y C)) 25 (.ptr (.box h.boxes.length) 1)=aa (.agg [X,Y]):=by rw[iP xL D0 b0 (jS rfl)];rfl
 have l3:aI aq Gt (h.push (aN ep X Y C)) 23 (.ptr (.box h.boxes.length) 3)=aa C:=tN b0 rfl;obtain⟨H0,hH⟩:∃H0,h.push (aN ep X Y C)=H0:=⟨_,rfl⟩;rw[hH] at l0 l1 l3 kX;have kE1:ao (cP ae ag ep aj text l≠0->ki ae ag ep aj text l aA z=(aB,cP ae ag ep aj text l)):=⟨λq=>by unfold ki;rw[aH q]⟩;have kE2:ao (cP ae ag ep aj text l=0->ki ae ag ep aj text l aA z=uq ae ag aj text l aA z):=⟨λq=>by unfold ki;rw[aJ (by simp[q])]⟩;generalize ki ae ag ep aj text l aA z=res at *
 clear b0;unfold im at c1;refine di rfl Tryz.func23 rfl ?_;by_cases q1:cP ae ag ep aj text l=0;rotate_left 1
 ·have kf:=ao.mk (kE1.out q1);have bE:decide (cP ae ag ep aj text l=0)=aB:=cS q1;generalize cP ae ag ep aj text l=be at *
  clear q1 g kE1 kE2;generalize aN ep X Y C=K at *
  unfold im;refine cX @BS @bu @hH ?_;exact⟨_,_,rfl,kX.out,by rw[kf.out]⟩
 have fi:=ajM q1;have gd:=g.ai2 q1 cU db;have km:=ao.mk (kE2.out q1);obtain⟨yw,w1,w2,w3⟩:=TV q1;rw[q1] at c1;obtain⟨i,hi,c2⟩:=ahW L l aA g.p dG;have c3:=ahY z;clear kE1 kE2 q1;rcases hi with⟨hn,rfl⟩|⟨j,q,rfl,hj,Lv⟩
 ·have kf:ao (res=(aB,1)):=⟨by rw[km.out];exact Xb (.inl hn)⟩;clear hn km g gd fi w1 w2 w3 c3;generalize aN ep X Y C=K at *
  unfold im at *
  refine cX @BS @bu @hH ?_;exact⟨_,_,rfl,kX.out,by rw[kf.out]⟩
 have ov:j<l.length:=(aW.1 hj).1;have Ih:(j:Int)<(l.length:Int):=by omega
 cases hz:cA z with
 |false=>
  have kf:ao (res=(aB,1)):=⟨by rw[km.out];exact Xb (.inr hz)⟩;rw[hz] at c3;clear hz km g gd fi w1 w2 w3 hj Lv ov;generalize aN ep X Y C=K at *
  unfold im at *
  refine cX @BS @bu @hH ?_;exact⟨_,_,rfl,kX.out,by rw[kf.out]⟩
 |true=>
 rw[hz] at c3;obtain⟨qj,oR⟩:=Sb Lv;have km2:=ao.mk (km.out.trans (ajW Lv hz oR));rw[w2] at km2;obtain⟨Wo,hW,c5⟩:=aiK X Y ae ag aA g.x g.y oP;obtain⟨w5,-⟩:=qp gd.pe;obtain⟨-,-,ld2,me⟩:=BA (s:=4) hj;have akR:dS aq 29 L (.v (.int .i64 (j:Nat)))=aa (.elem 4 (eY l) j 0):=by obtain⟨kp,sp,rfl,mb⟩:=g.p;have bD:sp=4:=mb fi.ne;subst bD;have:=bp (k:=kp) (kk:=.i64) (es:=eY l) (a:=((j:Nat):Int)) Tryz.underlying29 sT ai (by rw[vK];omega);rw[this,dW]
 obtain⟨Z,hZ,c9⟩:=amI L l g.p dG;have c10:=aeZ X Y Z ae ag (l.map Pr.aA) g.x g.y hZ cU (by rw[bF];omega);rw[w1] at c10;rcases c10 with⟨_,e,-⟩|⟨y',e,-,c10⟩
 ·simp at e
 simp only[Prod.mk.injEq] at e;obtain rfl:=e.1;have vy:=fi.ok q qj q.aA bJ;rw[oR] at vy;have c11:=ahA ep X Y C T L ae ag aj text l aA g fi vy;have c12:=ahG ep X Y C T L ae ag aj text l g fi;obtain⟨fT,zI⟩:=fi.el q qj;have c13:=Mh q.e ((fC (al aj 0) text l aA:Nat):Int);have c14:=aaq q.d (fH q.e ((fC (al aj 0) text l aA:Nat):Int));have hN:jL q.d (fH q.e ((fC (al aj 0) text l aA:Nat):Int))=((iZ (al aj 0) text l q:Nat):Int):=by rw[zx fT (wy zI _),qK zI];unfold iZ;rw[dW,oR];unfold fC;rw[I7]
 rw[hN] at c14;have bG:=DI (c0:=al aj 0) (text:=text) (l:=l) fT zI;have c15:=Mh 4 z;rw[qK vm,show(4:Int).toNat=Gn from rfl] at c15;have kg:=ao.mk (az gd (az bG (az w3 w5)));obtain⟨kw,sw,rfl,Ra⟩:=hW;have ksw:=ao.mk Ra;have cY:=dE (bW (ga ag aA));have yn:(bW (ga ag aA)).length=(ga ag aA).length:=by unfold bW;rw[bF]
 rw[yn] at cY;have QR:=ao.mk yn;have lW:=IL.dQ (x:=.list kw sw (ints (bW (ga ag aA)))) ⟨_,_,rfl,Ra⟩;rw[yn] at lW;have u23:=dY;have z3:=fR;have vw:=dE yw;have wP:(ga ag aA).length<=1000000:=by have:=List.length_filter_le (λi=>decide (al ag i=aA)) (bO ag.length);rw[List.length_range] at this;unfold ga;omega
 have kS:ao (∀r∈ga ag aA,r<ae.length):=⟨λr hr=>by have:=aso hr;omega⟩;have k15:=ao.mk c15;generalize ((fC (al aj 0) text l aA:Nat):Int)=bi at *
 generalize ((ek (al aj 0) text l:Nat):Int)=ch at *
 generalize iZ (al aj 0) text l q=no at *
 generalize fH q.e bi=pw at *
 generalize ga ag aA=R at *
 clear km g fi w1 w2 hj Lv ov hz qj oR gd w3 hZ e vy fT zI hN bG Ra yn c15 w5;have k12:=ao.mk c12;clear c12;generalize aN ep X Y C=K at *
 unfold im at *
 refine bK @BS @bu @hH (az @gv (az @il @oc)) ?_
 repeat' (first|simp(maxSteps:=999999)(disch:=first|exact dZ|fail)only[gW,reduceIte,aS,aO,BS,bu,hH,gv,il,oc, *]|(refine dX ?_ ?_<;>(intro _;try omega))|refine eJ VS jr ?_)
 refine bM.gen λe0 aG bE cZ cV=>?_;have f1:e0.get 1=T:=by rw[aG];exact gS
 have f2:e0.get 2=L:=by rw[aG];exact gS
 have f4:e0.get 4=.v (.int .i64 z):=by rw[aG];exact gS
 have f5:e0.get 5=.ptr (.box h.boxes.length) 0:=by rw[aG];exact gS
 have f14:e0.get 14=.list .held 1 (ints yw):=by rw[aG];exact gS
 have f17:e0.get 17=.v (.int .i64 (uV ae aj yw ch no (R.take 0):Nat)):=by rw[aG];exact gR
 have f18:e0.get 18=.list kw sw (ints (bW R)):=by rw[aG];exact gS
 have f19:e0.get 19=.v (.int .i64 (0:Nat)):=by rw[aG];exact gR
 have fd:e0.defers=[]:=by rw[bE];exact gS
 clear aG bE cZ cV bx hH;clear c1 c2 c3 c5 c9 c10 c11 c13 c14 ld2 me akR Ih;refine cH (λm e H=>∃i:Nat,i<=R.length/\m=R.length - i/\e.get 1=T/\e.get 2=L/\e.get 4=.v (.int .i64 z)/\e.get 5=.ptr (.box h.boxes.length) 0/\e.get 14=.list .held 1 (ints yw)/\e.get 17=.v (.int .i64 (uV ae aj yw ch no (R.take i):Nat))/\e.get 18=.list kw sw (ints (bW R))/\e.get 19=.v (.int .i64 (i:Nat))/\e.defers=[]/\H=H0) ?_ R.length _ _ ?_;rotate_left 1
 ·exact⟨0,cD _,rfl,f1,f2,f4,f5,f14,f17,f18,f19,fd,rfl⟩
 clear f1 f2 f4 f5 f14 f17 f18 f19 fd;rintro m e H ⟨i,hi,rfl,g1,g2,g4,g5,g14,g17,g18,g19,hd,rfl⟩;by_cases aC:i<R.length;rotate_left 1
 ·have:i=R.length:=by omega
  subst this;rw[fN] at g17;have c15:=k15.out;generalize ((uV ae aj yw ch no R:Nat):Int)=wv at *
  generalize ((bH Gn z:Nat):Int)=pz at *
  clear k15 k12;unfold im at *
  refine bC @BS ?_;exact⟨_,_,rfl,kX.out,by rw[km2.out]⟩
 have bD:sw=1:=ksw.out (by intro q;have:=QR.out;rw[q] at this;simp at this;omega);subst bD;obtain⟨r,hr⟩:∃r,R[i]?=aa r:=⟨_,aU aC⟩;have Fz:=kS.out r (dy hr);obtain⟨gd,bG,w3,w5⟩:=kg.out;have lw:=λH=>ev (H:=H) (l:=bW R) (i:=i) (s:=1) (by have:=QR.out;omega);rw[afR hr] at lw;have ly:=λH=>ev (H:=H) (l:=yw) (i:=r) (s:=1) ai;have cp:=aiD X Y C ae ag aj gd r Fz;have uF:=I9 (row:=ae.getD r []) gd.el;have p1:=Mh ((ja aj (ae.getD r []):Nat):Int) (al yw r);rw[qK (rq uF),dW] at p1;have p2:=Mh ((bH (ja aj (ae.getD r [])) (al yw r):Nat):Int) ch;rw[qK (rq (xd uF _)),dW,<-F5 uF] at p2;have p3:=aaq ((uV ae aj yw ch no (R.take i):Nat):Int) ((bH (ja aj (ae.getD r [])) (al yw r * ch):Nat):Int);rw[K3 (aww gd.el bG) (xd uF _),<-awx hr] at p3;obtain⟨wn,Rg⟩:∃w,((uV ae aj yw ch no (R.take (i+1)):Nat):Int)=w:=⟨_,rfl⟩;rw[Rg] at p3;have kwn:=ao.mk Rg;have c12:=k12.out;have fw:(i:Int)<(R.length:Int):=by omega
 have QY:(r:Int)<(yw.length:Int):=by omega
 clear Rg hr Fz gd bG w3 w5 uF k12 k15;generalize ((uV ae aj yw ch no (R.take i):Nat):Int)=wo at *
 generalize ((bH (ja aj (ae.getD r [])) (al yw r * ch):Nat):Int)=pa at *
 generalize ((bH (ja aj (ae.getD r [])) (al yw r):Nat):Int)=pb at *
 generalize ((ja aj (ae.getD r []):Nat):Int)=pc at *
 generalize al yw r=yr at *
 unfold im at *
 refine bK @BS @gv @il @bp ?_
 repeat' (first|simp(maxSteps:=999999)(disch:=first|exact dZ|fail)only[gW,reduceIte,aS,aO,BS,gv,il,bp, *]|(refine dX ?_ ?_<;>(intro _;try omega))|refine eJ VS jr ?_)
 exact⟨R.length - (i+1),by omega,i+1,by omega,rfl,by simp[kwn.out]⟩
section
variable (R:Rec)
def NH:Prop:=∀h,R.call 15 [] h=aa (.ret (.v (.bool ah)),h)
def ND:Prop:=∀ep X Y C T L ae ag aj text l,nX X Y C T L ae ag aj text l->aj.length<=1000000->l.length<=1000000->
 (cP ae ag ep aj text l≠0/\∀h,R.call 17 [.agg (aN ep X Y C),T,L] h=aa (.ret (.tuple [.list .nil 0 [],im 0,im 0,im (cP ae ag ep aj text l)]),h))∨
  (cP ae ag ep aj text l=0/\∃Z,IL Z (wm (al aj 0) text l)/\∀h,R.call 17 [.agg (aN ep X Y C),T,L] h=aa (.ret (.tuple [Z,im ((iQ (al aj 0) text l:Nat):Int),im ((ek (al aj 0) text l:Nat):Int),im 0]),h))
end
section
variable {R:Rec} {L:List bq}
def NH.up(hg:L.contains 15=ah)(c:NH R):NH (up R L):=bm hg rfl rfl (c _) rfl rfl
def ND.up(hg:L.contains 17=ah)(c:ND R):ND (up R L):=λep X Y C T L' ae ag aj text l g q1 q2=>by
 obtain⟨g2,f1,f2,f3,f4,f5⟩:=g.hold;rcases c ep _ _ _ _ _ ae ag aj text l g2 q1 q2 with⟨q,c⟩|⟨q,Z,hZ,c⟩
 ·exact .inl ⟨q,bm (b7:=[.agg (aN ep (aD X) (aD Y) (aD C)),aD T,aD L']) hg rfl (by simp[aN,aR,aK,f1,f2,f3,f4,f5]) (c _) rfl rfl⟩
 ·obtain⟨z1,z2⟩:=hZ.Dx ⟨[],[],0,[]⟩;exact .inr ⟨q,_,z1,bm (b7:=[.agg (aN ep (aD X) (aD Y) (aD C)),aD T,aD L']) hg rfl (by simp[aN,aR,aK,f1,f2,f3,f4,f5]) (c _) rfl (by simp[im,uJ,aK,aR,z2,gX])⟩
end
def oD:Tryz.f38.results.toList=[.cell 12 66,.tmp 13,.tmp 14]:=aw
def gL(ep:Int)(X Y C T L Z:AV):List AV:=[im ep,X,Y,C,T,L,Z]
def adb:(iB aq 66).bind AV.cd=aa (gL 0 nl nl nl nl nl nl):=aw
def TG:dJ aq 66=aa 7:=aw
def aft:gY aq 66=aa ah:=aw
def CC:(∀b,gH aq 66 (.ptr (.box b) 0) 0=aa (.ptr (.box b) 0))/\(∀b,gH aq 66 (.ptr (.box b) 0) 1=aa (.ptr (.box b) 4))/\(∀b,gH aq 66 (.ptr (.box b) 0) 2=aa (.ptr (.box b) 5))/\∀b,gH aq 66 (.ptr (.box b) 0) 3=aa (.ptr (.box b) 6):=
 ⟨λb=>aw,λb=>aw,λb=>aw,λb=>aw⟩
def WL:(∀b,gH aq 81 (.ptr (.box b) 0) 0=aa (.ptr (.box b) 0))/\∀b,gH aq 81 (.ptr (.box b) 0) 1=aa (.ptr (.box b) 1):=⟨λb=>aw,λb=>aw⟩
def aw2:(iB aq 81).bind AV.cd=aa (mg (0,0)):=aw
def avm{H:ar}(p):cE aq (H.push (mg (0,0))) 81 (.ptr (.box H.boxes.length) 0) (.agg (mg p))=aa (H.push (mg p)):=lq rfl Nj rfl rfl
def amS{H}{b}{p}(hb:H.boxes[b]?=aa (mg p)):aI aq Gt H 81 (.ptr (.box b) 0)=aa (.agg (mg p)):=by rw[iP Vg Nj hb (aL 2)];rfl
section
variable {H:ar} {b:Nat} {ep:Int} {X Y C S L Z x:AV}
def ZX{T:List AV}(hb:H.boxes[b]?=aa T)(hl:T.length=7):aI aq Gt H 66 (.ptr (.box b) 0)=aa (.agg T):=by rw[iP aft TG hb ai];rw[List.drop_zero,gK ai]
def acr{T T2:List AV}(hb:H.boxes[b]?=aa T)(hl:T.length=7)(hx:(AV.agg T2).cd=aa T2)(kU:T2.length=7):cE aq H 66 (.ptr (.box b) 0) (.agg T2)=aa (H.put b T2):=by rw[fK (off:=0) (cs:=T) (xs:=T2) hx TG hb kU ai,xo ai]
def auO{ep2:Int}{X2 Y2 C2:AV}(hb:H.boxes[b]?=aa (gL ep X Y C S L Z))(hx:(AV.agg (aN ep2 X2 Y2 C2)).cd=aa (aN ep2 X2 Y2 C2)):cE aq H 27 (.ptr (.box b) 0) (.agg (aN ep2 X2 Y2 C2))=aa (H.put b (gL ep2 X2 Y2 C2 S L Z)):=
 fK (off:=0) (cs:=gL ep X Y C S L Z) (xs:=aN ep2 X2 Y2 C2) hx TF hb rfl (jS rfl)
def auQ(hb:H.boxes[b]?=aa (gL ep X Y C S L Z))(hx:x.cd=aa [x]):cE aq H 28 (.ptr (.box b) 4) x=aa (H.put b (gL ep X Y C x L Z)):=
 fK (off:=4) (cs:=gL ep X Y C S L Z) (xs:=[x]) hx acU hb rfl (jS rfl)
def auP(hb:H.boxes[b]?=aa (gL ep X Y C S L Z))(hx:x.cd=aa [x]):cE aq H 29 (.ptr (.box b) 5) x=aa (H.put b (gL ep X Y C S x Z)):=
 fK (off:=5) (cs:=gL ep X Y C S L Z) (xs:=[x]) hx avK hb rfl (jS rfl)
def auR(hb:H.boxes[b]?=aa (gL ep X Y C S L Z))(hx:x.cd=aa [x]):cE aq H 23 (.ptr (.box b) 6) x=aa (H.put b (gL ep X Y C S L x)):=
 fK (off:=6) (cs:=gL ep X Y C S L Z) (xs:=[x]) hx iA hb rfl (jS rfl)
def ZY(hb:H.boxes[b]?=aa (gL ep X Y C S L Z)):aI aq Gt H 27 (.ptr (.box b) 0)=aa (.agg (aN ep X Y C)):=by rw[iP aw TF hb (jS rfl)];rfl
def V7{ae:List (List Int)}{ag aj z:List Int}{text:List UInt8}{l:List Pr}(hx:RL X ae)(hy:IL Y ag)(hc:IL C aj)(hs:BL S text)(hl:PL L l)(hn:IL Z z):
 (AV.agg (gL ep X Y C S L Z)).cd=aa (gL ep X Y C S L Z):=by
 obtain⟨_,_,_,rfl,-⟩:=hx.form;obtain⟨_,_,rfl,-⟩:=hy;obtain⟨_,_,rfl,-⟩:=hc;obtain⟨_,_,rfl,-⟩:=hs;obtain⟨_,_,rfl,-⟩:=hl;obtain⟨_,_,rfl,-⟩:=hn;rfl
end
structure xI(h H:ar)(X Y:AV)(T:List AV)(tz to:Tok):Prop where
 ti:TI h H X Y T tz
 co:du h.tn H to
 ne:∀a,tz=.free a->to≠ .free a
def xI.start{h H}{X Y}{T}{tz}(b:TI h H X Y T tz):xI h H X Y T tz .nil:=⟨b,.inl rfl,λ_ _ q=>by cases q⟩
def xI.push{h H}{X Y}{T}{tz to}(b:xI h H X Y T tz to)(cs):xI h (H.push cs) X Y T tz to:=⟨b.ti.push cs,by rw[AZ];exact b.co,b.ne⟩
def xI.app{h H}{X Y}{T}{tz to}(b:xI h H X Y T tz to):xI h (H.app to) X Y T tz (.free H.tn):=by
 have gr:=Grown.one b.co b.ti.ok b.ti.ext.tn;refine⟨⟨gr.ext b.ti.ext (aL _),gr.ok,HA b.ti.can λa ha he=>b.ne a he ha,by rw[eC];exact b.ti.pb,by rw[eC];exact b.ti.tb⟩,gr.can,λa ha he=>?_⟩;injection he with he;subst he;rcases b.ti.can with q|q|⟨m,q,-,q2⟩
 ·rw[q] at ha;cases ha
 ·rw[q] at ha;cases ha
 ·rw[q] at ha;injection ha with ha;have:=vi q2;omega
def jZ(au N:List Int):List Pr:=(bO au.length).map λi=>⟨al au i,(i:Int),(bH Gn (al N (2 * i)):Nat),(bH Gn (al N (2 * i+1)):Nat)⟩
def Sd(au N):(jZ au N).length=au.length:=by unfold jZ;simp
def aiI(au N)(h1:N.length=2 * au.length)(h2:∀x∈N,okF x)(h3:au.length<=4096):pU au N (jZ au N):=
 ⟨Sd _ _,h1,h2,λi hi=>⟨(i:Int),by omega,by omega,by unfold jZ;rw[ey,y8 hi];rfl⟩⟩
def rJ(ae:List (List Int))(ag:List Int)(cC:Int)(cJ au N:List Int)(text:List UInt8):Bool:=
 yN ae ag&&(decide (1<=cC)&&(decide (cC<1073741789)&&(decide (cJ.length=bP ae - 1)&&(cJ.all cA&&(fU (-1) au&&(decide (au.length≠0)&&(decide (au.length<=7)&&(decide (N.length=2 * au.length)&&(N.all cA&&decide (text.length<=300))))))))))
def xq(ae:List (List Int))(ag:List Int)(cC:Int)(cJ au N:List Int)(text:List UInt8):Bool:=rJ ae ag cC cJ au N text&&(fV ae ag au).2.1
def acZ{ae}{ag}{cC}{cJ au N}{text}(h:xq ae ag cC cJ au N text=ah):
 ∃y,pV ae ag au N (cC::cJ) y (jZ au N) text 0/\ae.length<=16/\bP ae<=16/\1<=cC/\cC<1073741789/\au.length<=7/\text.length<=300/\de ae ag=0:=by
 unfold xq rJ at h;simp only[bI,decide_eq_true_eq] at h;obtain⟨⟨h1,h2,h3,h4,h5,h6,h7,h8,h9,ru,HJ⟩,h12⟩:=h;unfold yN at h1;simp only[bI,decide_eq_true_eq] at h1;have h13:=Va h1.1.2 h6;have Yr:=(tx h1.1.2).1;refine⟨(fV ae ag au).1,⟨aiI au N h9 (λx hx=>uK.1 (List.all_eq_true.1 ru x hx)) ai,?_,λq=>h7 (by rw[q];rfl),by omega,by omega,by decide,by rw[jd];omega⟩,h1.1.1,h1.2,h2,h3,h8,HJ,h1.1.2⟩;rw[<-h12,<-h13]
def J4(ae:List (List Int))(ag:List Int)(X Y T:AV)(cC:Int)(cJ au N:List Int)(text:List UInt8)(r:fg):Prop:=
 (xq ae ag cC cJ au N text=aB/\r=.ret (.tuple [.agg (gL 0 nl nl nl nl nl nl),.v (.bool aB),.v (.bool ah)]))∨
 (xq ae ag cC cJ au N text=ah/\∃C L Z,r=.ret (.tuple [.agg (gL 0 X Y C T L Z),.v (.bool ah),.v (.bool ah)])/\IL C (cO (cC::cJ))/\PL L (jZ au N)/\IL Z (oY ae ag (cC::cJ) au N (jZ au N) text))
def ahq(h:ar)(bB:cK h=ah)(X Y R W NV T:AV)(ae:List (List Int))(ag:List Int)(cC:Int)(cJ au N:List Int)(text:List UInt8)
 (hx:RL X ae) (hy:IL Y ag) (hr:IL R cJ) (hw:IL W au) (hn:IL NV N) (ht:BL T text) (cU:cJ.length<=9223372036854775807) (jG:au.length<=9223372036854775807) (pH:N.length<=9223372036854775807):
 ∃r h',W6.call 38 [.agg [X,Y],im cC,R,W,NV,T] h=aa (r,h')/\Ext h h'/\J4 ae ag X Y T cC cJ au N text r:=by
 have bx:=tU hx hy;have zc:=adb;have c1:=auz X Y ae ag hx hy;have c2:=Wn X Y ae ag hx hy;have c3:=aaF R cJ hr ai;have c4:=ao0 W au hw ai;have c5:=aaF NV N hn ai;have lnR:=hr.dQ;have lnW:=hw.dQ;have lnN:=hn.dQ;have lnT:=ht.dQ;have wO:TI h ((h.push [X,Y]).push (gL 0 nl nl nl nl nl nl)) X Y (gL 0 nl nl nl nl nl nl) .nil:=
  ⟨(Ext.push _ _).trans (.push _ _),bB,.inl rfl,bh (bg _ _),by
    have:=bg (h.push [X,Y]) (gL 0 nl nl nl nl nl nl)
    rwa [cR] at this⟩
 have jF:(h.push [X,Y]).boxes.length=h.boxes.length+1:=cR _ _;obtain⟨H0,fX⟩:∃H0,(h.push [X,Y]).push (gL 0 nl nl nl nl nl nl)=H0:=⟨_,rfl⟩;rw[fX] at wO;have l1:aI aq Gt H0 25 (.ptr (.box h.boxes.length) 0)=aa (.agg [X,Y]):=uM wO.pb;have l2:=ZX wO.tb rfl;have s2:=acr wO.tb rfl (T2:=gL 0 nl nl nl nl nl nl) rfl rfl;rw[oB wO.tb] at s2;have kT:=ao.mk wO;have kf:=ao.mk (az hx (az hy (az hr (az hw (az hn (az ht bB))))));have kd:ao (rJ ae ag cC cJ au N text=(yN ae ag&&(decide (1<=cC)&&(decide (cC<1073741789)&&(decide (cJ.length=bP ae - 1)&&(cJ.all cA&&(fU (-1) au&&(decide (au.length≠0)&&(decide (au.length<=7)&&(decide (N.length=2 * au.length)&&(N.all cA&&decide (text.length<=300)))))))))))):=⟨rfl⟩;have kno:ao (rJ ae ag cC cJ au N text=aB->J4 ae ag X Y T cC cJ au N text (.ret (.tuple [.agg (gL 0 nl nl nl nl nl nl),.v (.bool aB),.v (.bool ah)]))):=⟨λq=>.inl ⟨by unfold xq;rw[q];rfl,rfl⟩⟩;clear hx hy hr hw hn ht bB wO;refine di rfl Tryz.func38 rfl ?_;by_cases hs:yN ae ag=ah;rotate_left 1
 ·have kz:ao (rJ ae ag cC cJ au N text=aB):=⟨by rw[kd.out];simp[hs]⟩;have Dp:yN ae ag=aB:=by simpa using hs
  rw[Dp] at c1;clear hs Dp;clear kd;unfold im at *
  repeat' (first|simp(maxSteps:=999999)(disch:=first|exact dZ|fail)only[gW,reduceIte,aS,aO,oD,bu,jF,fX, *]|refine dX ?_ ?_<;>(intro _;try omega))
  exact⟨_,_,rfl,kT.out.ext,kno.out kz.out⟩
 rw[hs] at c1;have tJ:de ae ag=0/\ae.length<=16/\bP ae<=16:=by have:=hs;unfold yN at this;simp only[bI,decide_eq_true_eq] at this;exact⟨this.1.2,this.1.1,this.2⟩
 have Yr:0<bP ae:=(tx tJ.1).1;have axp:bP ae<=16:=tJ.2.2;have kpr:=ao.mk tJ;clear tJ;by_cases h2:1<=cC;rotate_left 1
 ·have kz:ao (rJ ae ag cC cJ au N text=aB):=⟨by rw[kd.out];simp[hs,h2]⟩;have g:cC<1:=by omega
  clear h2;clear kd;unfold im at *
  repeat' (first|simp(maxSteps:=999999)(disch:=first|exact dZ|fail)only[gW,reduceIte,aS,aO,oD,bu,jF,fX, *]|refine dX ?_ ?_<;>(intro _;try omega))
  exact⟨_,_,rfl,kT.out.ext,kno.out kz.out⟩
 by_cases h3:cC<1073741789;rotate_left 1
 ·have kz:ao (rJ ae ag cC cJ au N text=aB):=⟨by rw[kd.out];simp[hs,h2,h3]⟩;have g:1073741789<=cC:=by omega
  clear h3;clear kd;unfold im at *
  repeat' (first|simp(maxSteps:=999999)(disch:=first|exact dZ|fail)only[gW,reduceIte,aS,aO,oD,bu,jF,fX, *]|refine dX ?_ ?_<;>(intro _;try omega))
  exact⟨_,_,rfl,kT.out.ext,kno.out kz.out⟩
 by_cases h4:cJ.length=bP ae - 1;rotate_left 1
 ·have kz:ao (rJ ae ag cC cJ au N text=aB):=⟨by rw[kd.out];simp[hs,h2,h3,h4]⟩;have g:¬((cJ.length:Nat):Int)=((bP ae:Nat):Int) - 1:=by omega
  clear h4;clear kd;unfold im at *
  repeat' (first|simp(maxSteps:=999999)(disch:=first|exact dZ|fail)only[gW,reduceIte,aS,aO,oD,bu,jF,fX, *]|refine dX ?_ ?_<;>(intro _;try omega))
  exact⟨_,_,rfl,kT.out.ext,kno.out kz.out⟩
 by_cases h5:cJ.all cA=ah;rotate_left 1
 ·have kz:ao (rJ ae ag cC cJ au N text=aB):=⟨by rw[kd.out];simp[hs,h2,h3,h4,h5]⟩;have XA:cJ.all cA=aB:=by simpa using h5
  rw[XA] at c3;clear h5 XA;clear kd;unfold im at *
  repeat' (first|simp(maxSteps:=999999)(disch:=first|exact dZ|fail)only[gW,reduceIte,aS,aO,oD,bu,jF,fX, *]|refine dX ?_ ?_<;>(intro _;try omega))
  exact⟨_,_,rfl,kT.out.ext,kno.out kz.out⟩
 rw[h5] at c3;by_cases h6:fU (-1) au=ah;rotate_left 1
 ·have kz:ao (rJ ae ag cC cJ au N text=aB):=⟨by rw[kd.out];simp[hs,h2,h3,h4,h5,h6]⟩;have XB:fU (-1) au=aB:=by simpa using h6
  rw[XB] at c4;clear h6 XB;clear kd;unfold im at *
  repeat' (first|simp(maxSteps:=999999)(disch:=first|exact dZ|fail)only[gW,reduceIte,aS,aO,oD,bu,jF,fX, *]|refine dX ?_ ?_<;>(intro _;try omega))
  exact⟨_,_,rfl,kT.out.ext,kno.out kz.out⟩
 rw[h6] at c4;by_cases h7:au.length≠0;rotate_left 1
 ·have kz:ao (rJ ae ag cC cJ au N text=aB):=⟨by rw[kd.out];simp[hs,h2,h3,h4,h5,h6,h7]⟩;have g:((au.length:Nat):Int)=0:=by omega
  clear h7;clear kd;unfold im at *
  repeat' (first|simp(maxSteps:=999999)(disch:=first|exact dZ|fail)only[gW,reduceIte,aS,aO,oD,bu,jF,fX, *]|refine dX ?_ ?_<;>(intro _;try omega))
  exact⟨_,_,rfl,kT.out.ext,kno.out kz.out⟩
 by_cases h8:au.length<=7;rotate_left 1
 ·have kz:ao (rJ ae ag cC cJ au N text=aB):=⟨by rw[kd.out];simp[hs,h2,h3,h4,h5,h6,h7,h8]⟩;have g:(7:Int)<((au.length:Nat):Int):=by omega
  clear h8;clear kd;unfold im at *
  repeat' (first|simp(maxSteps:=999999)(disch:=first|exact dZ|fail)only[gW,reduceIte,aS,aO,oD,bu,jF,fX, *]|refine dX ?_ ?_<;>(intro _;try omega))
  exact⟨_,_,rfl,kT.out.ext,kno.out kz.out⟩
 by_cases h9:N.length=2 * au.length;rotate_left 1
 ·have kz:ao (rJ ae ag cC cJ au N text=aB):=⟨by rw[kd.out];simp[hs,h2,h3,h4,h5,h6,h7,h8,h9]⟩;have g:¬((N.length:Nat):Int)=2 * ((au.length:Nat):Int):=by omega
  clear h9;clear kd;unfold im at *
  repeat' (first|simp(maxSteps:=999999)(disch:=first|exact dZ|fail)only[gW,reduceIte,aS,aO,oD,bu,jF,fX, *]|refine dX ?_ ?_<;>(intro _;try omega))
  exact⟨_,_,rfl,kT.out.ext,kno.out kz.out⟩
 by_cases ru:N.all cA=ah;rotate_left 1
 ·have kz:ao (rJ ae ag cC cJ au N text=aB):=⟨by rw[kd.out];simp[hs,h2,h3,h4,h5,h6,h7,h8,h9,ru]⟩;have Xz:N.all cA=aB:=by simpa using ru
  rw[Xz] at c5;clear ru Xz;clear kd;unfold im at *
  repeat' (first|simp(maxSteps:=999999)(disch:=first|exact dZ|fail)only[gW,reduceIte,aS,aO,oD,bu,jF,fX, *]|refine dX ?_ ?_<;>(intro _;try omega))
  exact⟨_,_,rfl,kT.out.ext,kno.out kz.out⟩
 rw[ru] at c5;by_cases HJ:text.length<=300;rotate_left 1
 ·have kz:ao (rJ ae ag cC cJ au N text=aB):=⟨by rw[kd.out];simp[hs,h2,h3,h4,h5,h6,h7,h8,h9,ru,HJ]⟩;have g:(300:Int)<((text.length:Nat):Int):=by omega
  clear HJ;clear kd;unfold im at *
  repeat' (first|simp(maxSteps:=999999)(disch:=first|exact dZ|fail)only[gW,reduceIte,aS,aO,oD,bu,jF,fX, *]|refine dX ?_ ?_<;>(intro _;try omega))
  exact⟨_,_,rfl,kT.out.ext,kno.out kz.out⟩
 have kyes:ao (rJ ae ag cC cJ au N text=ah):=⟨by rw[kd.out];simp[hs,h2,h3,h4,h5,h6,h7,h8,h9,ru,HJ]⟩;clear kd kno;have gA:((cJ.length:Nat):Int)=((bP ae:Nat):Int) - 1:=by omega
 have gB:¬((au.length:Nat):Int)=0:=by omega
 have gC:((N.length:Nat):Int)=2 * ((au.length:Nat):Int):=by omega
 have P4:uj ae ag cC cJ=0:=by unfold uj;rw[aJ (by simp[kpr.out.1]),aH];rw[bI,bI];exact⟨⟨uK.2 ⟨ai,h3⟩,h5⟩,b8 ai⟩
 obtain⟨S,C,hS,hC,c6⟩:∃S C,SL S (qa ae (cC::cJ))/\IL C (cO (cC::cJ))/\∀h,W6.call 44 [.agg [X,Y],im cC,R] h=aa (.ret (.tuple [S,C,im 0]),h):=by
  rcases ai0 X Y R ae ag cJ cC kf.out.1 kf.out.2.1 kf.out.2.2.1 ai (by have:=kpr.out.2.1;omega) with⟨z,-⟩|⟨-,z⟩
  ·exact absurd P4 z
  ·exact z
 have XZ:(cC::cJ).length=bP ae:=by rw[jd];omega
 have PO:=ae4 X Y W ae ag au kf.out.1 kf.out.2.1 kf.out.2.2.2.1 ai;have hz:(fV ae ag au).2.2=0:=Va kpr.out.1 h6;have lnS:=hS.dQ;rw[Pa] at lnS;have lnC:=hC.dQ;rw[show(cO (cC::cJ)).length=bP ae by unfold cO;rw[bF,XZ]] at lnC;have kSC:=ao.mk (az hS hC);rcases PO with⟨er,q,c7⟩|⟨y,q,ql,Zy,-,c7⟩
 ·have her:er=0:=by rw[q] at hz;exact hz
  subst her;have ku:ao (J4 ae ag X Y T cC cJ au N text (.ret (.tuple [.agg (gL 0 nl nl nl nl nl nl),.v (.bool aB),.v (.bool ah)]))):=⟨.inl ⟨by unfold xq;rw[q];simp,rfl⟩⟩;clear q hz P4 hS hC;unfold im at *
  repeat' (first|simp(maxSteps:=999999)(disch:=first|exact dZ|fail)only[gW,reduceIte,aS,aO,oD,bu,jF,fX, *]|refine dX ?_ ?_<;>(intro _;try omega))
  exact⟨_,_,rfl,kT.out.ext,ku.out⟩
 have ku:ao (xq ae ag cC cJ au N text=ah):=⟨by unfold xq;rw[kyes.out,q];rfl⟩;obtain⟨_,cr,-⟩:=acZ ku.out;have kcr:=ao.mk cr;have bk:nH aq 27 [(1,.agg [X,Y]),(2,C)]=aa (.agg (aN 0 X Y C)):=by obtain⟨_,_,_,rfl,-⟩:=kf.out.1.form;obtain⟨_,_,rfl,-⟩:=kf.out.2.1;obtain⟨_,_,rfl,-⟩:=hC;kernel_rfl
 have s3:=auO kT.out.tb (uL (ep:=0) kf.out.1 kf.out.2.1 hC);have t1:=kT.out.put (gL 0 X Y C nl nl nl);have s4:=auQ t1.tb kf.out.2.2.2.2.2.1.A0;have t2:=t1.put (gL 0 X Y C T nl nl);have kT3:=ao.mk t2;clear q hz P4 hS hC t1 t2 cr kT h4;unfold im at *
 repeat' (first|simp(maxSteps:=999999)(disch:=first|exact dZ|fail)only[gW,reduceIte,aS,aO,oD,bu,jF,fX,CC, *]|refine dX ?_ ?_<;>(intro _;try omega))
 refine bM.gen λe0 aG bE cZ cV=>?_;have f4:e0.get 4=NV:=by rw[aG];exact gS
 have f5:e0.get 5=T:=by rw[aG];exact gS
 have f3:e0.get 3=W:=by rw[aG];exact gS
 have f6:e0.get 6=.ptr (.box h.boxes.length) 0:=by rw[aG];exact gS
 have f12:e0.get 12=.ptr (.box (h.boxes.length+1)) 0:=by rw[aG];simp only[gW,reduceIte,aS,aO,jF]
 have f15:e0.get 15=S:=by rw[aG];exact gS
 have f16:e0.get 16=C:=by rw[aG];exact gS
 have f123:e0.get 123=W:=by rw[aG];exact gS
 have f124:e0.get 124=.v (.int .i64 (au.length:Nat)):=by rw[aG];exact gS
 have f125:e0.get 125=.v (.int .i64 (0:Nat)):=by rw[aG];exact gR
 have fd:e0.defers=[]:=by rw[bE];exact gS
 clear aG bE cZ cV c1 c2 c4 c6 c7 l1 l2 s2 s3 s4 bk bx zc jF fX gA gB lnT;have h9:N.length=2 * au.length:=by omega
 have Fw:∀k<au.length,(jZ au N)[k]?=aa ⟨al au k,(k:Int),(bH Gn (al N (2 * k)):Nat),(bH Gn (al N (2 * k+1)):Nat)⟩:=λk hk=>by unfold jZ;rw[ey,y8 hk];rfl
 have kpk:=ao.mk Fw;clear Fw;refine cH (λm e H=>∃(i:Nat) (t:Tok) (sz:Nat),i<=au.length/\m=au.length - i/\ao (TI h H X Y (gL 0 X Y C T (.list t sz (eY ((jZ au N).take i))) nl) t)/\ao (sz=4∨((jZ au N).take i=[]/\t=.nil))/\
  e.get 3=W/\e.get 4=NV/\e.get 5=T/\e.get 6=.ptr (.box h.boxes.length) 0/\e.get 12=.ptr (.box (h.boxes.length+1)) 0/\e.get 15=S/\e.get 16=C/\e.get 123=W/\e.get 124=.v (.int .i64 (au.length:Nat))/\e.get 125=.v (.int .i64 (i:Nat))/\e.defers=[]) ?_ au.length _ _ ?_
 rotate_left 1
 ·exact⟨0,.nil,0,cD _,rfl,kT3,⟨.inr ⟨rfl,rfl⟩⟩,f3,f4,f5,f6,f12,f15,f16,f123,f124,f125,fd⟩
 clear f3 f4 f5 f6 f12 f15 f16 f123 f124 f125 fd kT3 H0;rintro m e H ⟨i,t,sz,hi,rfl,kT,ksz,g3,g4,g5,g6,g12,g15,g16,g123,g124,g125,hd⟩;by_cases aC:i<au.length
 ·have yu:=kf.out.2.2.2.1.ix aC;have ldW:=ev (H:=H) (s:=1) aC;have ixA:=kf.out.2.2.2.2.1.ix (i:=2 * i) ai;have ixB:=kf.out.2.2.2.2.1.ix (i:=2 * i+1) ai;have ldA:∀K:ar,aI aq Gt K 3 (.elem 1 (ints N) (2 * i) 0)=aa (.v (.int .i64 (al N (2 * i)))):=λK=>ev ai;have ldB:∀K:ar,aI aq Gt K 3 (.elem 1 (ints N) (2 * i+1) 0)=aa (.v (.int .i64 (al N (2 * i+1)))):=λK=>ev ai;rw[show((2 * i:Nat):Int)=2 * (i:Int) by omega] at ixA;rw[show((2 * i+1:Nat):Int)=2 * (i:Int)+1 by omega] at ixB;have hwA:IntKind.i64.wrap (2 * (i:Int))=2 * (i:Int):=gh ai ai;have hwB:IntKind.i64.wrap (2 * (i:Int)+1)=2 * (i:Int)+1:=gh ai ai;have sD:=kpk.out i aC;have c8:=Xv 4 (al N (2 * i));have c9:=Xv 4 (al N (2 * i+1));rw[qK vm,show ni 4=0 from aH vm] at c8 c9;have ktk:=ao.mk (fE sD);clear sD;have bdp:=af3 (al au i) (i:Int) ((bH Gn (al N (2 * i)):Nat):Int) ((bH Gn (al N (2 * i+1)):Nat):Int);change ∀h,W6.call 30 [im 4,im (al N (2 * i))] h=aa (.ret (.tuple [im ((bH Gn (al N (2 * i)):Nat):Int),im 0]),h) at c8;change ∀h,W6.call 30 [im 4,im (al N (2 * i+1))] h=aa (.ret (.tuple [im ((bH Gn (al N (2 * i+1)):Nat):Int),im 0]),h) at c9;generalize tJ:(⟨al au i,(i:Int),((bH Gn (al N (2 * i)):Nat):Int),((bH Gn (al N (2 * i+1)):Nat):Int)⟩:Pr)=pr at *
  have lL:aI aq Gt H 29 (.ptr (.box (h.boxes.length+1)) 5)=aa (.list t sz (eY ((jZ au N).take i))):=cQ zn kT.out.tb rfl;have ap:=afz (p:=pr) (l:=(jZ au N).take i) (by rw[fm];omega) ksz.out kT.out.can;rw[<-ktk.out] at ap;have bl:=agE pr;have t2:=kT.out.app;have sL:=auP t2.tb (x:=.list (.free H.tn) 4 (eY ((jZ au N).take (i+1)))) rfl;have kT2:=ao.mk (t2.put (gL 0 X Y C T (.list (.free H.tn) 4 (eY ((jZ au N).take (i+1)))) nl));have fw:(i:Int)<(au.length:Int):=by omega
  clear t2 kT tJ;unfold im at *
  generalize al au i=wi at *
  generalize al N (2 * i)=nA at *
  generalize al N (2 * i+1)=nB at *
  generalize ((bH Gn nA:Nat):Int)=dA at *
  generalize ((bH Gn nB:Nat):Int)=dB at *
  repeat' (first|simp(maxSteps:=999999)(disch:=first|exact dZ|fail)only[gW,reduceIte,aS,aO,oD,CC, *]|refine dX ?_ ?_<;>(intro _;try omega))
  exact⟨au.length - (i+1),by omega,i+1,_,4,by omega,rfl,(by first|exact kT2|trivial),⟨.inl rfl⟩,by simp⟩
 have gx:i=au.length:=by omega
 subst gx;rw[gK (by rw[Sd];exact aL _)] at kT ksz;have hP:PL (.list t sz (eY (jZ au N))) (jZ au N):=⟨t,sz,rfl,λq=>ksz.out.resolve_right λz=>q z.1⟩;have kP:=ao.mk hP;have kT3:=ao.mk kT.out.nil;change ao (TI h H X Y (gL 0 X Y C T (.list t sz (eY (jZ au N))) nl) .nil) at kT3;clear hP ksz kT kpk hi aC;generalize AV.list t sz (eY (jZ au N))=L at *
 repeat' (first|simp(maxSteps:=999999)(disch:=first|exact dZ|fail)only[gW,reduceIte,aS,aO,oD, *]|refine dX ?_ ?_<;>(intro _;try omega))
 refine bM.gen λe0 aG bE cZ cV=>?_;have f4:e0.get 4=NV:=by rw[aG];exact gA
 have f5:e0.get 5=T:=by rw[aG];exact gA
 have f6:e0.get 6=.ptr (.box h.boxes.length) 0:=by rw[aG];exact gA
 have f12:e0.get 12=.ptr (.box (h.boxes.length+1)) 0:=by rw[aG];exact gA
 have f15:e0.get 15=S:=by rw[aG];exact gA
 have f16:e0.get 16=C:=by rw[aG];exact gA
 have f167:e0.get 167=W:=by rw[aG];exact gA
 have f168:e0.get 168=.v (.int .i64 (au.length:Nat)):=by rw[aG];exact gA
 have f169:e0.get 169=.v (.int .i64 (0:Nat)):=by rw[aG];exact gR
 have fd:e0.defers=[]:=by rw[bE];exact gA
 clear aG bE cZ cV g3 g4 g5 g6 g12 g15 g16 g123 g124 g125 hd lnW;obtain⟨PU,K9⟩:∃PU,oY ae ag (cC::cJ) au N (jZ au N) text=PU:=⟨_,rfl⟩;have fI:ao (∀Z,IL Z PU->J4 ae ag X Y T cC cJ au N text (.ret (.tuple [.agg (gL 0 X Y C T L Z),.v (.bool ah),.v (.bool ah)]))):=⟨λZ hZ=>.inr ⟨ku.out,C,L,Z,rfl,kSC.out.2,kP.out,by rw[K9];exact hZ⟩⟩;have kpk:ao (∀k<au.length,PU[k]?=aa (w9 ae ag (cC::cJ) au N (jZ au N) text k)):=⟨λk hk=>by rw[<-K9];unfold oY;rw[ey,y8 hk];rfl⟩;have kpl:ao (PU.length=au.length):=⟨by rw[<-K9];exact Mf⟩;clear K9;have kol:=ao.mk (qp kpr.out.1).1;have axG:=kpr.out.2.1;refine cH (λm e H=>∃(i:Nat) (t:Tok) (sz:Nat),i<=au.length/\m=au.length - i/\ao (TI h H X Y (gL 0 X Y C T L (.list t sz (ints (PU.take i)))) t)/\ao (sz=1∨(PU.take i=[]/\t=.nil))/\
  e.get 4=NV/\e.get 5=T/\e.get 6=.ptr (.box h.boxes.length) 0/\e.get 12=.ptr (.box (h.boxes.length+1)) 0/\e.get 15=S/\e.get 16=C/\e.get 167=W/\e.get 168=.v (.int .i64 (au.length:Nat))/\e.get 169=.v (.int .i64 (i:Nat))/\e.defers=[]) ?_ au.length _ _ ?_
 rotate_left 1
 ·exact⟨0,.nil,0,cD _,rfl,kT3,⟨.inr ⟨rfl,rfl⟩⟩,f4,f5,f6,f12,f15,f16,f167,f168,f169,fd⟩
 clear f4 f5 f6 f12 f15 f16 f167 f168 f169 fd kT3;rintro m e H ⟨i,t,sz,hi,rfl,kT,ksz,g4,g5,g6,g12,g15,g16,g167,g168,g169,hd⟩;by_cases aC:i<au.length;rotate_left 1
 ·have gx:i=au.length:=by omega
  subst gx;rw[gK (by rw[kpl.out];exact aL _)] at kT ksz;have hZ:IL (.list t sz (ints PU)) PU:=⟨t,sz,rfl,λq=>ksz.out.resolve_right λz=>q z.1⟩;have kZ:=ao.mk (fI.out _ hZ);have Zo:=V7 (ep:=0) kf.out.1 kf.out.2.1 kSC.out.2 kf.out.2.2.2.2.2.1 kP.out hZ;clear hZ ksz;generalize AV.list t sz (ints PU)=Z at *
  have l2:=ZX kT.out.tb rfl;have s2:=acr kT.out.tb rfl Zo rfl;rw[oB kT.out.tb] at s2;have dC:decide ((0:Int)<((bP ae:Nat):Int))=ah:=b8 ai;clear Zo hi aC
  repeat' (first|simp(maxSteps:=999999)(disch:=first|exact dZ|fail)only[gW,reduceIte,aS,aO,oD, *]|refine dX ?_ ?_<;>(intro _;try omega))
  exact⟨_,_,rfl,kT.out.ext,kZ.out⟩
 have yu:=kf.out.2.2.2.1.ix aC;have ldW:=ev (H:=H) (s:=1) aC;have fw:(i:Int)<(au.length:Int):=by omega
 have kT2:=ao.mk (xI.start kT.out);clear kT;generalize hwi:al au i=wi at *
 repeat' (first|simp(maxSteps:=999999)(disch:=first|exact dZ|fail)only[gW,reduceIte,aS,aO,oD, *]|refine dX ?_ ?_<;>(intro _;try omega))
 refine bM.gen λe0 aG bE cZ cV=>?_;have f4:e0.get 4=NV:=by rw[aG];exact gA
 have f5:e0.get 5=T:=by rw[aG];exact gA
 have f6:e0.get 6=.ptr (.box h.boxes.length) 0:=by rw[aG];exact gA
 have f12:e0.get 12=.ptr (.box (h.boxes.length+1)) 0:=by rw[aG];exact gA
 have f15:e0.get 15=S:=by rw[aG];exact gA
 have f16:e0.get 16=C:=by rw[aG];exact gA
 have f167:e0.get 167=W:=by rw[aG];exact gA
 have f168:e0.get 168=.v (.int .i64 (au.length:Nat)):=by rw[aG];exact gA
 have f169:e0.get 169=.v (.int .i64 (i:Nat)):=by rw[aG];exact gA
 have f27:e0.get 27=.v (.int .i64 (i:Nat)):=by rw[aG];exact gA
 have f28:e0.get 28=.v (.int .i64 wi):=by rw[aG];exact gA
 have f29:e0.get 29=.list .nil 0 []:=by rw[aG];exact gR
 have f174:e0.get 174=S:=by rw[aG];exact gA
 have f175:e0.get 175=.v (.int .i64 (ae.length:Nat)):=by rw[aG];exact gA
 have f176:e0.get 176=.v (.int .i64 (0:Nat)):=by rw[aG];exact gR
 have fd:e0.defers=[]:=by rw[bE];exact gA
 clear aG bE cZ cV g4 g5 g6 g12 g15 g16 g167 g168 g169 hd yu ldW;obtain⟨D,hD⟩:∃D,qa ae (cC::cJ)=D:=⟨_,rfl⟩;have hDl:D.length=ae.length:=by rw[<-hD];exact Pa _ _
 have kDk:ao (∀j<ae.length,D[j]?=aa ((j:Int),px (ae.getD j []) (cC::cJ))):=⟨λj hj=>by rw[<-hD];unfold qa;rw[ey,y8 hj];rfl⟩;have kS:ao (SL S D):=⟨by rw[<-hD];exact kSC.out.1⟩;have kD:=ao.mk hD;clear hD;refine cH (λm e H=>∃(j:Nat) (t2:Tok) (s2:Nat),j<=ae.length/\m=ae.length - j/\ao (xI h H X Y (gL 0 X Y C T L (.list t sz (ints (PU.take i)))) t t2)/\ao (s2=2∨(rI ag [wi] (D.take j)=[]/\t2=.nil))/\
  e.get 4=NV/\e.get 5=T/\e.get 6=.ptr (.box h.boxes.length) 0/\e.get 12=.ptr (.box (h.boxes.length+1)) 0/\e.get 15=S/\e.get 16=C/\e.get 167=W/\e.get 168=.v (.int .i64 (au.length:Nat))/\e.get 169=.v (.int .i64 (i:Nat))/\
  e.get 27=.v (.int .i64 (i:Nat))/\e.get 28=.v (.int .i64 wi)/\e.get 29=.list t2 s2 (jB (rI ag [wi] (D.take j)))/\e.get 174=S/\e.get 175=.v (.int .i64 (ae.length:Nat))/\e.get 176=.v (.int .i64 (j:Nat))/\e.defers=[]) ?_ ae.length _ _ ?_
 rotate_left 1
 ·exact⟨0,.nil,0,cD _,rfl,kT2,⟨.inr ⟨rfl,rfl⟩⟩,f4,f5,f6,f12,f15,f16,f167,f168,f169,f27,f28,f29,f174,f175,f176,fd⟩
 clear f4 f5 f6 f12 f15 f16 f167 f168 f169 f27 f28 f29 f174 f175 f176 fd kT2 H;rintro m e H ⟨j,t2,s2,hj,rfl,kT,ks2,g4,g5,g6,g12,g15,g16,g167,g168,g169,g27,g28,g29,g174,g175,g176,hd⟩;by_cases vx:j<ae.length
 ·have hp:=kDk.out j vx;have ixS:=kS.out.ix (i:=j) ai;have ldS:=Z6 (H:=H) (s:=2) hp;have zc:=aw2;generalize eV:(((j:Int),px (ae.getD j []) (cC::cJ)):Int × Int)=p at *
  have pJ:p.1=(j:Int):=by rw[<-eV]
  have st:=avm (H:=H) p;have t1:=kT.out.push (mg p);have b1:=bg H (mg p);have q0:aI aq Gt (H.push (mg p)) 3 (.ptr (.box H.boxes.length) 0)=aa (.v (.int .i64 (j:Int))):=by rw[<-pJ];exact cQ fh b1 rfl
  have q1:aI aq Gt (H.push (mg p)) 23 (.ptr (.box h.boxes.length) 1)=aa Y:=cQ mj t1.ti.pb rfl;have q2:=amS b1;have lnY:=kf.out.2.1.dQ;have ixY:=kf.out.2.1.ix (i:=j) (by have:=kol.out;omega);have ldY:∀K:ar,aI aq Gt K 3 (.elem 1 (ints ag) j 0)=aa (.v (.int .i64 (al ag j))):=λK=>ev (by have:=kol.out;omega);have Ih:(j:Int)<(ae.length:Int):=by omega
  have hjO:(j:Int)<(ag.length:Int):=by have:=kol.out;omega
  have bT:=aoj (ag:=ag) (au:=[wi]) hp;have QP:BM ag [wi] p=if wi=al ag j then [p] else []:=by
   unfold BM;rw[pJ,dW];by_cases q:wi=al ag j
   ·rw[aH q,List.filter_cons_of_pos (by simp[q])];rfl
   ·rw[aJ q,List.filter_cons_of_neg (by simp[q])];rfl
  rw[QP] at bT;have QH:(rI ag [wi] (D.take j)).length<=16:=by refine fG (RZ ag [wi] _) ?_;rw[fm,N3];omega
  have u36:=Tryz.underlying36;by_cases hq:wi=al ag j
  ·rw[aH hq] at bT;have dq:decide (al ag j=wi)=ah:=b8 hq.symm;have ap:=OF (T:=36) (r:=mg p) (es:=jB (rI ag [wi] (D.take j))) (sz:=s2) u36 ZG aZ (by rw[Tl];omega) (ks2.out.imp_right λq=>⟨by rw[q.1];rfl,q.2⟩) t1.co;rw[aua,<-bT] at ap;have kT2:=ao.mk t1.app;have bl:gG aq 36 1 [(0,.agg (mg p))]=aa (.list .tight 2 [mg p]):=VC p.1 p.2;clear hq bT QP pJ eV hp t1 b1 kT;generalize al ag j=ow at *
   have ldS2:aI aq Gt H 81 (.elem 2 (jB D) j 0)=aa (.agg (mg p)):=ldS;clear ldS;generalize mg p=sr at *
   repeat' (first|simp(maxSteps:=999999)(disch:=first|exact dZ|fail)only[gW,reduceIte,aS,aO,oD,WL,eQ,bu, *]|refine dX ?_ ?_<;>(intro _;try omega))
   exact⟨ae.length - (j+1),by omega,j+1,_,2,by omega,rfl,(by first|exact kT2|trivial),⟨.inl rfl⟩,by simp⟩
  ·rw[aJ hq,jC] at bT;have dq:decide (al ag j=wi)=aB:=cS λq=>hq q.symm;rw[<-bT] at g29 ks2;have kT2:=ao.mk t1;have ldS2:aI aq Gt H 81 (.elem 2 (jB D) j 0)=aa (.agg (mg p)):=ldS;clear hq bT QP pJ eV hp t1 b1 kT ldS;generalize al ag j=ow at *
   generalize mg p=sr at *
   repeat' (first|simp(maxSteps:=999999)(disch:=first|exact dZ|fail)only[gW,reduceIte,aS,aO,oD,WL,eQ,bu, *]|refine dX ?_ ?_<;>(intro _;try omega))
   exact⟨ae.length - (j+1),by omega,j+1,t2,s2,by omega,rfl,(by first|exact kT2|trivial),(by first|exact ks2|trivial),by simp⟩
 have ou:j=ae.length:=by omega
 subst ou;rw[gK (by rw[hDl];exact aL _)] at g29 ks2;have hO:SL (.list t2 s2 (jB (rI ag [wi] D))) (rI ag [wi] D):=⟨t2,s2,rfl,λq=>ks2.out.resolve_right λz=>q z.1⟩;have QH:(rI ag [wi] D).length<=16:=by refine fG (RZ ag [wi] _) ?_;rw[N3];omega
 have db:(cO (cC::cJ)).length<=1000000:=by unfold cO;rw[bF,XZ];omega
 have mk:=anD 0 X Y C T L ae ag (cO (cC::cJ)) text (jZ au N) kf.out.1 kf.out.2.1 kSC.out.2 kf.out.2.2.2.2.2.1 kP.out db (by rw[Sd];omega) _ _ wi (al N (2 * i)) (al N (2 * i+1)) hO ai;have Iq:vL ae ag 0 (cO (cC::cJ)) text (jZ au N) wi (rI ag [wi] D) (al N (2 * i)) (al N (2 * i+1))=(w9 ae ag (cC::cJ) au N (jZ au N) text i,0):=by rw[<-kD.out,aoD kol.out,<-hwi];exact aiH kcr.out.xX kcr.out.acc kcr.out.ne kcr.out.wl kcr.out.tl aZ kcr.out.sl aC
 rw[Iq] at mk;have ixA:=kf.out.2.2.2.2.1.ix (i:=2 * i) ai;have ixB:=kf.out.2.2.2.2.1.ix (i:=2 * i+1) ai;have ldA:∀K:ar,aI aq Gt K 3 (.elem 1 (ints N) (2 * i) 0)=aa (.v (.int .i64 (al N (2 * i)))):=λK=>ev ai;have ldB:∀K:ar,aI aq Gt K 3 (.elem 1 (ints N) (2 * i+1) 0)=aa (.v (.int .i64 (al N (2 * i+1)))):=λK=>ev ai;rw[show((2 * i:Nat):Int)=2 * (i:Int) by omega] at ixA;rw[show((2 * i+1:Nat):Int)=2 * (i:Int)+1 by omega] at ixB;have hwA:IntKind.i64.wrap (2 * (i:Int))=2 * (i:Int):=gh ai ai;have hwB:IntKind.i64.wrap (2 * (i:Int)+1)=2 * (i:Int)+1:=gh ai ai;have sD:=kpk.out i aC;have ktk:=ao.mk (fE sD);have hPl:=kpl.out;clear sD Iq hO;generalize w9 ae ag (cC::cJ) au N (jZ au N) text i=zi at *
 have lK:=ZY kT.out.ti.tb;have lL:aI aq Gt H 29 (.ptr (.box (h.boxes.length+1)) 5)=aa L:=cQ zn kT.out.ti.tb rfl;have lZ:aI aq Gt H 23 (.ptr (.box (h.boxes.length+1)) 6)=aa (.list t sz (ints (PU.take i))):=cQ mj kT.out.ti.tb rfl;have ap:=tf (x:=zi) (es:=PU.take i) (by rw[fm];omega) ksz.out kT.out.ti.can;rw[<-ktk.out] at ap;have bl:=pq zi;have t3:=kT.out.ti.app;have sZ:=auR t3.tb (x:=.list (.free H.tn) 1 (ints (PU.take (i+1)))) rfl;have kT2:=ao.mk (t3.put (gL 0 X Y C T L (.list (.free H.tn) 1 (ints (PU.take (i+1))))));clear t3 kT QH db hj vx hPl;unfold im at *
 generalize al N (2 * i)=nA at *
 generalize al N (2 * i+1)=nB at *
 repeat' (first|simp(maxSteps:=999999)(disch:=first|exact dZ|fail)only[gW,reduceIte,aS,aO,oD,CC, *]|refine dX ?_ ?_<;>(intro _;try omega))
 refine eJ Hy aw ?_
 repeat' (first|simp(maxSteps:=999999)(disch:=first|exact dZ|fail)only[gW,reduceIte,aS,aO,oD,CC, *]|refine dX ?_ ?_<;>(intro _;try omega))
 exact⟨au.length - (i+1),by omega,i+1,_,1,by omega,rfl,(by first|exact kT2|trivial),⟨.inl rfl⟩,by simp⟩
def atc:Tryz.f85.results.toList=[.cell 0 25]:=aw
def R4:List (List Int):=[[1,1],[1,2],[1,3]]
def O4:List Int:=[1,2,3]
def X4:AV:=.list .tight 1 [[.list .tight 1 (ints [1,1])],[.list .tight 1 (ints [1,2])],[.list .tight 1 (ints [1,3])]]
def Y4:AV:=.list .tight 1 (ints [1,2,3])
def agx:gG aq 22 3 [(0,.list .tight 1 (ints [1,1])),(1,.list .tight 1 (ints [1,2])),(2,.list .tight 1 (ints [1,3]))]=aa X4:=aw
def agA:gG aq 23 3 [(0,.v (.int .i64 1)),(1,.v (.int .i64 2)),(2,.v (.int .i64 3))]=aa Y4:=aw
def Hu(a b):gG aq 23 2 [(0,.v (.int .i64 a)),(1,.v (.int .i64 b))]=aa (.list .tight 1 (ints [a,b])):=aw
def af0:nH aq 25 [(0,X4),(1,Y4)]=aa (.agg [X4,Y4]):=aw
def awZ:(iB aq 25).bind AV.cd=aa [nl,nl]:=aw
def agS(h:ar):W6.call 85 [] h=aa (.ret (.agg [X4,Y4]),h.push [X4,Y4]):=by
 have z:=awZ;have g1:=agx;have g2:=agA;have g3:=af0;have s1:cE aq (h.push [nl,nl]) 25 (.ptr (.box h.boxes.length) 0) (.agg [X4,Y4])=aa (h.push [X4,Y4]):=lq aw D0 rfl rfl;have l1:aI aq Gt (h.push [X4,Y4]) 25 (.ptr (.box h.boxes.length) 0)=aa (.agg [X4,Y4]):=uM (bg _ _);generalize X4=X at *
 generalize Y4=Y at *
 refine cN rfl Tryz.func85 rfl ?_;exact jw @atc @Hu
def RL.pM{x}{l}(hx:RL x l)(hf:aK 0 0 0 x=ah)(h):RL (gX h x) l/\aK 0 0 0 (gX h x)=ah:=by obtain⟨k,s,xs,rfl,hs,h1,h2⟩:=hx;refine⟨⟨bX k,s,xs,rfl,hs,h1,h2⟩,?_⟩;show aK 0 0 0 (.list (bX k) s (xs.map λa=>[a]))=ah;rw[aK] at hf ⊢;rw[fx,Bool.true_and];simp only[bI] at hf;exact hf.2
def IL.pM{x}{l}(hx:IL x l)(h):IL (gX h x) l/\aK 0 0 0 (gX h x)=ah:=by obtain⟨k,s,rfl,hs⟩:=hx;refine⟨⟨bX k,s,rfl,hs⟩,?_⟩;show aK 0 0 0 (.list (bX k) s (ints l))=ah;rw[aK,fx,nL];rfl
def BL.pM{x}{l}(hx:BL x l)(h):BL (gX h x) l/\aK 0 0 0 (gX h x)=ah:=by obtain⟨k,s,rfl,hs⟩:=hx;refine⟨⟨bX k,s,rfl,hs⟩,?_⟩;show aK 0 0 0 (.list (bX k) s (bf l))=ah;rw[aK,fx,kL];rfl
def PL.pM{x}{l}(hx:PL x l)(h):PL (gX h x) l/\aK 0 0 0 (gX h x)=ah:=by obtain⟨k,s,rfl,hs⟩:=hx;refine⟨⟨bX k,s,rfl,hs⟩,?_⟩;show aK 0 0 0 (.list (bX k) s (eY l))=ah;rw[aK,fx,Pj];rfl
def afa(a b):∀h,W7.call 28 [im a,im b] h=aa (.ret (im (dj a b)),h):=bm (L:=L7) rfl rfl rfl (ae9 a b _) rfl rfl
section
variable (ep:Int) (X Y C T L:AV) (ae:List (List Int)) (ag aj:List Int) (text:List UInt8) (l:List Pr)
 (hx:RL X ae) (hy:IL Y ag) (hc:IL C aj) (ht:BL T text) (hp:PL L l) (db:aj.length<=1000000) (dG:l.length<=1000000)
include hx hy hc ht hp db dG
def agu:(cP ae ag ep aj text l≠0/\∀h,W7.call 17 [.agg (aN ep X Y C),T,L] h=aa (.ret (.tuple [.list .nil 0 [],im 0,im 0,im (cP ae ag ep aj text l)]),h))∨
 (cP ae ag ep aj text l=0/\∃Z,IL Z (wm (al aj 0) text l)/\∀h,W7.call 17 [.agg (aN ep X Y C),T,L] h=aa (.ret (.tuple [Z,im ((iQ (al aj 0) text l:Nat):Int),im ((ek (al aj 0) text l:Nat):Int),im 0]),h)):=by
 obtain⟨X',Y',C',e1,h1,h2,h3,h4⟩:=IP ep hx hy hc;obtain⟨h5,h6⟩:=ht.hold;obtain⟨h7,h8⟩:=hp.hold;have ea:bZ [.agg (aN ep X Y C),T,L]=[.agg (aN ep X' Y' C'),aD T,aD L]:=by rw[bZ,bZ,bZ,bZ,e1]
 have ef:aR 0 0 0 [.agg (aN ep X' Y' C'),aD T,aD L]=ah:=by rw[aR,aR,aR,aR,h4,h6,h8];rfl
 rcases agt ep X' Y' C' (aD T) (aD L) ae ag aj text l h1 h2 h3 h5 h7 db dG with⟨q,c⟩|⟨q,Z,hZ,c⟩
 ·exact .inl ⟨q,bm (L:=L7) rfl ea ef (c _) rfl rfl⟩
 ·obtain⟨g1,g2⟩:=hZ.pM ⟨[],[],0,[]⟩;refine .inr ⟨q,gX ⟨[],[],0,[]⟩ Z,g1,bm (L:=L7) rfl ea ef (c _) rfl ?_⟩;rw[aK,aR,g2];rfl
def ajS(aA z:Int):
 ∀h,W7.call 22 [.agg (aN ep X Y C),T,L,im aA,im z] h=aa (.ret (.tuple [.v (.bool (ki ae ag ep aj text l aA z).1),im (ki ae ag ep aj text l aA z).2]),h):=by
 obtain⟨X',Y',C',e1,h1,h2,h3,h4⟩:=IP ep hx hy hc;obtain⟨h5,h6⟩:=ht.hold;obtain⟨h7,h8⟩:=hp.hold;exact bm (L:=L7) rfl (by simp only[bZ];rw[e1];rfl) (by simp only[aR];rw[h4,h6,h8];rfl) (ajR ep X' Y' C' (aD T) (aD L) ae ag aj text l h1 h2 h3 h5 h7 db dG aA z _) rfl rfl
end
def ac3(key e s)(T)(text)(ht:BL T text)(hl:text.length<=1000000):
 ∀h,W7.call 26 [im key,T,.agg [im e,im s]] h=aa (.ret (.v (.bool (sW key text e s))),h):=by
 obtain⟨h1,h2⟩:=ht.hold;exact bm (L:=L7) (b7:=[im key,aD T,.agg [im e,im s]]) rfl (by simp only[bZ];rfl) (by simp only[aR];rw[h2];rfl) (awt key e s (aD T) text h1 hl _) rfl rfl
def ab2(x y)(a b)(hx:IL x a)(hy:IL y b)(eR:a.length<=1000000)(jE:b.length<=1000000):∀h,W7.call 37 [x,y] h=aa (.ret (.v (.bool (decide (a=b)))),h):=by obtain⟨h1,h2⟩:=hx.hold;obtain⟨h3,h4⟩:=hy.hold;obtain⟨r,h',c,-,rfl⟩:=atN ⟨[],[],0,[]⟩ (aD x) (aD y) a b h1 h3 eR jE;exact bm (L:=L7) (b7:=[aD x,aD y]) rfl rfl (by simp[aR,h2,h4]) c rfl rfl
def agR:∀h,W7.call 85 [] h=aa (.ret (.agg [gX ⟨[],[],0,[]⟩ X4,gX ⟨[],[],0,[]⟩ Y4]),h):=bm (L:=L7) (b7:=[]) rfl rfl rfl (agS _) aw aw
def ahr(X Y R W NV T)(ae)(ag)(cC)(cJ au N)(text)
 (hx:RL X ae) (hy:IL Y ag) (hr:IL R cJ) (hw:IL W au) (hn:IL NV N) (ht:BL T text) (cU:cJ.length<=9223372036854775807) (jG:au.length<=9223372036854775807) (pH:N.length<=9223372036854775807):
 (xq ae ag cC cJ au N text=aB/\∀h,W7.call 38 [.agg [X,Y],im cC,R,W,NV,T] h=aa (.ret (.tuple [.agg (gL 0 nl nl nl nl nl nl),.v (.bool aB),.v (.bool ah)]),h))∨
 (xq ae ag cC cJ au N text=ah/\∃X2 Y2 C2 T2 L2 Z2,RL X2 ae/\IL Y2 ag/\IL C2 (cO (cC::cJ))/\BL T2 text/\PL L2 (jZ au N)/\IL Z2 (oY ae ag (cC::cJ) au N (jZ au N) text)/\
  ∀h,W7.call 38 [.agg [X,Y],im cC,R,W,NV,T] h=aa (.ret (.tuple [.agg (gL 0 X2 Y2 C2 T2 L2 Z2),.v (.bool ah),.v (.bool ah)]),h)):=by
 obtain⟨h1,h2,h3,h4⟩:=vM hx hy;obtain⟨r1,r2⟩:=hr.hold;obtain⟨w1,w2⟩:=hw.hold;obtain⟨n1,n2⟩:=hn.hold;obtain⟨t1,t2⟩:=ht.hold;have ef:aR 0 0 0 [.agg [aD X,aD Y],im cC,aD R,aD W,aD NV,aD T]=ah:=by simp[aR,aK,h3,h4,r2,w2,n2,t2,im]
 have ea:bZ [.agg [X,Y],im cC,R,W,NV,T]=[.agg [aD X,aD Y],im cC,aD R,aD W,aD NV,aD T]:=rfl;obtain⟨r,h',c,-,⟨q,rfl⟩|⟨q,C,L,Z,rfl,g1,g2,g3⟩⟩:=ahq ⟨[],[],0,[]⟩ vJ (aD X) (aD Y) (aD R) (aD W) (aD NV) (aD T) ae ag cC cJ au N text h1 h2 r1 w1 n1 t1 cU jG pH
 ·exact .inl ⟨q,bm (L:=L7) rfl ea ef c rfl rfl⟩
 ·obtain⟨a1,a2⟩:=h1.pM h3 h';obtain⟨b1,b2⟩:=h2.pM h';obtain⟨c1,c2⟩:=g1.pM h';obtain⟨d1,d2⟩:=t1.pM h';obtain⟨e1,e2⟩:=g2.pM h';obtain⟨f1,f2⟩:=g3.pM h';refine .inr ⟨q,_,_,_,_,_,_,a1,b1,c1,d1,e1,f1,bm (L:=L7) rfl ea ef c rfl ?_⟩;simp[aK,aR,gL,a2,b2,c2,d2,e2,f2,im]
def MR:Tryz.f86.results.toList=[.tmp 8,.tmp 9]:=aw
def abG:Tryz.f148.results.toList=[.tmp 2]:=aw
def atd:Tryz.f87.results.toList=[.tmp 4]:=aw
def Tb:Tryz.f88.results.toList=[.tmp 6]:=aw
def Gi:Tryz.f33.results.toList=[.cell 8 50,.tmp 9,.tmp 10]:=aw
section
variable {pr:bq->Option (List AV->ar->Option (AV × ar))}
def amq(tJ:pr 167=none)(g:bq)(p:Int->Bool)(h:ar)(x:AV)(l:List Int)(hx:IS h x l)(hl:l.length<=1000000)(hp:∀n∈l,(whole aq Gt pr).call g [im n] h=aa (.ret (.v (.bool (p n))),h)):
 ∃r h',(whole Tryz.prog Gt pr).call 167 [x,.func (.func g) [] []] h=some (r,h')/\h'=h/\∃i:Int,r=.ret (im i)/\decide (0<=i)=l.any p:=by
 have lnx:=hx.len;have kp:=ao.mk (az hp hx);clear hp hx;refine di tJ Tryz.func167 rfl ?_;refine bC @vN ?_;refine cH (λm e H=>∃i:Nat,i<=l.length/\m=l.length - i/\(l.take i).any p=aB/\e.get 0=x/\e.get 1=.func (.func g) [] []/\e.get 7=.v (.int .i64 (l.length:Nat))/\e.get 8=.v (.int .i64 (i:Nat))/\e.defers=[]/\H=h) ?_ l.length _ _ ?_;rotate_left 1
 ·refine⟨0,cD _,rfl,by simp,?_,?_,?_,?_,?_,rfl⟩<;>exact gR
 clear lnx;rintro m e H ⟨i,hi,rfl,ha,g0,g1,g7,g8,hd,rfl⟩;have ka:=ao.mk ha;clear ha;by_cases aC:i<l.length
 ·obtain⟨a,ix,ldx⟩:=kp.out.2.at aC;have ld:=ldx H kp.out.2;clear ldx;have hv:l[i]?=aa (al l i):=by rw[aU aC,fB aC]
  have hc:=kp.out.1 (al l i) (dy hv);have fw:(i:Int)<(l.length:Int):=by omega
  have mn:(l.take (i+1)).any p=p (al l i):=by rw[fE hv,List.any_append,ka.out];simp
  have kt:=ao.mk mn;have kh:=ao.mk hv;clear hv mn;unfold im at hc;cases eV:p (al l i) with
  |true=>rw[eV] at hc;have lX:l.any p=ah:=List.any_eq_true.2 ⟨_,dy kh.out,eV⟩;have kan:=ao.mk lX;clear lX eV;refine cX @vN @mh.{0} @jC.{0} ?_;exact⟨_,_,rfl,rfl,(i:Int),rfl,by rw[kan.out];simp⟩
  |false=>rw[eV] at hc;have kt2:(l.take (i+1)).any p=aB:=kt.out.trans eV;clear eV;refine cX @vN @mh.{0} @jC.{0} ?_;exact⟨l.length - (i+1),by omega,i+1,by omega,rfl,kt2,by simp⟩
 ·have:i=l.length:=by omega
  subst this;have:=ka.out;rw[fN] at this;have kan:=ao.mk this;clear this;refine bC @vN ?_;exact⟨_,_,rfl,rfl,-1,rfl,by rw[kan.out];rfl⟩
def aiu(PD:pr 167=none)(PC:pr 126=none)(g:bq)(p:Int->Bool)(h:ar)(x:AV)(l:List Int)(hx:IS h x l)(hl:l.length<=1000000)(hp:∀n∈l,(whole aq Gt pr).call g [im n] h=aa (.ret (.v (.bool (p n))),h)):
 (whole aq Gt pr).call 126 [x,.func (.func g) [] []] h=aa (.ret (.v (.bool (l.any p))),h):=by
 obtain⟨r,h',c,rfl,i,rfl,hi⟩:=amq PD g p h x l hx hl hp;have CW:decide (0<=i)=l.any p:=hi;unfold im at c;refine cN PC Tryz.func126 rfl ?_;clear hi hp hx;exact lV @SM
end
def aod(n)(h):W7.call 148 [im n] h=aa (.ret (.v (.bool (nS n))),h):=by
 unfold im nS;by_cases h0:n<0
 ·refine cN rfl aeG rfl ?_;have:decide (n<0)=ah:=by simp[h0]
  exact jw @abG @Bool.true_or
 ·refine cN rfl aeG rfl ?_;have:decide (n<0)=aB:=by simp[h0]
  exact jw @abG @Bool.false_or
def LJ{H}{b}{ep}{X Y C}(hb:H.boxes[b]?=aa (aN ep X Y C)):aI aq Gt H 27 (.ptr (.box b) 0)=aa (.agg (aN ep X Y C)):=by rw[iP aw TF hb (jS rfl)];rfl
def nZ(ae:List (List Int))(ag:List Int)(ep:Int)(aj:List Int)(text:List UInt8)(l:List Pr)(z:List Int):Int × Int:=
 if cP ae ag ep aj text l≠0 then (0,cP ae ag ep aj text l) else if jX l z=aB then (0,1) else (((ek (al aj 0) text l:Nat):Int),0)
def We(h:ar)(ep:Int)(X Y C T L Z:AV)(ae:List (List Int))(ag aj:List Int)(text:List UInt8)(l:List Pr)(z:List Int)
 (hx:RL X ae) (hy:IL Y ag) (hc:IL C aj) (ht:BL T text) (hp:PL L l) (db:aj.length<=1000000) (dG:l.length<=1000000) (hz:IS h Z z) (mo:z.length<=1000000):
 ∃r h',W7.call 86 [.agg (aN ep X Y C),T,L,Z] h=aa (r,h')/\h'=h.push (aN ep X Y C)/\r=.ret (.tuple [im (nZ ae ag ep aj text l z).1,im (nZ ae ag ep aj text l z).2]):=by
 have bx:=uL (ep:=ep) hx hy hc;have c1:=agu ep X Y C T L ae ag aj text l hx hy hc ht hp db dG;have gV:IS (h.push (aN ep X Y C)) Z z:=hz.mono λc cs q=>bh q;have c2:=aiu (pr:=Mi) rfl rfl 148 nS (h.push (aN ep X Y C)) Z z gV mo (λn _=>aod n _);have lnZ:=hz.len;have lnL:=hp.dQ;have l1:=LJ (bg h (aN ep X Y C));have hv:(!z.any nS)=z.all cA:=OD z;refine di rfl Tryz.func86 rfl ?_;rcases c1 with⟨q,c1⟩|⟨q,B,hB,c1⟩
 ·have kr:ao (nZ ae ag ep aj text l z=(0,cP ae ag ep aj text l)):=⟨by unfold nZ;rw[aH q]⟩;generalize cP ae ag ep aj text l=be at *
  clear hx hy hc ht hp hz gV hv c2;unfold im at *
  refine bQ @MR @bu ?_;exact⟨_,_,rfl,rfl,by rw[kr.out]⟩
 have kr:ao (nZ ae ag ep aj text l z=if jX l z=aB then (0,1) else (((ek (al aj 0) text l:Nat):Int),0)):=⟨by unfold nZ;rw[aJ (by rw[q];simp)]⟩;have kd:ao (jX l z=(decide (z.length=l.length)&&z.all cA)):=⟨rfl⟩;clear hx hy hc ht hp hz gV q hB;generalize ((ek (al aj 0) text l:Nat):Int)=ch at *
 generalize ((iQ (al aj 0) text l:Nat):Int)=pt at *
 unfold im at *
 by_cases bR:z.length=l.length;rotate_left 1
 ·have hI:¬((z.length:Nat):Int)=((l.length:Nat):Int):=by omega
  have dI:decide (((z.length:Nat):Int)≠((l.length:Nat):Int))=ah:=b8 hI;have kr2:ao (nZ ae ag ep aj text l z=(0,1)):=⟨by rw[kr.out,aH (by rw[kd.out,cS bR];rfl)]⟩;clear kr kd hv c2 bR;refine bQ @MR @bu ?_;exact⟨_,_,rfl,rfl,by rw[kr2.out]⟩
 have hI:((z.length:Nat):Int)=((l.length:Nat):Int):=by omega
 have dI:decide (((z.length:Nat):Int)=((l.length:Nat):Int))=ah:=b8 hI;cases ha:z.all cA with
 |true=>
  have hf:z.any nS=aB:=by rw[ha] at hv;simpa using hv
  rw[hf] at c2;have kr2:ao (nZ ae ag ep aj text l z=(ch,0)):=⟨by rw[kr.out,aJ (by rw[kd.out,b8 bR,ha];simp)]⟩;clear kr kd hv hf ha bR;refine bQ @MR @bu ?_;exact⟨_,_,rfl,rfl,by rw[kr2.out]⟩
 |false=>
  have hf:z.any nS=ah:=by rw[ha] at hv;simpa using hv
  rw[hf] at c2;have kr2:ao (nZ ae ag ep aj text l z=(0,1)):=⟨by rw[kr.out,aH (by rw[kd.out,ha];simp)]⟩;clear kr kd hv hf ha bR;refine bQ @MR @bu ?_;exact⟨_,_,rfl,rfl,by rw[kr2.out]⟩
def afb(a b)(h):W7.call 87 [im a,im b] h=aa (.ret (im (dj a b)),h):=by
 have c:=afa a b;unfold im at *
 refine cN rfl Tryz.func87 rfl ?_;exact lV @atd
def aj5(h:ar)(x:AV)(l:List Int)(hx:IS h x l)(hl:l.length<=1000000):
 ∃r h',W7.call 88 [x,im 0,.func (.func 87) [] []] h=aa (r,h')/\h'=h/\r=.ret (im (l.foldl dj 0)):=by
 have lnx:=hx.len;have kp:=ao.mk hx;clear hx;unfold im;refine di rfl Tryz.func88 rfl ?_;refine bC @Tb ?_;refine cH (λm e H=>∃i:Nat,i<=l.length/\m=l.length - i/\e.get 1=.v (.int .i64 (zl l i))/\e.get 2=.func (.func 87) [] []/\e.get 9=x/\e.get 10=.v (.int .i64 (l.length:Nat))/\e.get 11=.v (.int .i64 (i:Nat))/\e.defers=[]/\H=h) ?_ l.length _ _ ?_;rotate_left 1
 ·refine⟨0,cD _,rfl,?_,?_,?_,?_,?_,?_,rfl⟩<;>exact gR
 clear lnx;rintro m e H ⟨i,hi,rfl,g1,g2,g9,g10,g11,hd,rfl⟩;by_cases aC:i<l.length
 ·obtain⟨a,ix,ldx⟩:=kp.out.at aC;have ld:=ldx H kp.out;clear ldx;have hc:=afb (zl l i) (al l i) H;rw[<-afd aC] at hc;have fw:(i:Int)<(l.length:Int):=by omega
  generalize zl l i=ak at *
  generalize qb:zl l (i+1)=ak2 at *
  generalize al l i=v at *
  unfold im at hc;refine cX @Tb @mh.{0} @jC.{0} ?_;exact⟨l.length - (i+1),by omega,i+1,by omega,rfl,by rw[qb],by simp⟩
 ·have:i=l.length:=by omega
  subst this;have yj:zl l l.length=l.foldl dj 0:=by unfold zl;rw[fN]
  rw[yj] at g1;refine bC @Tb ?_;exact⟨_,_,rfl,rfl,rfl⟩
def O7(h:ar)(ep:Int)(X Y C T L Z:AV)(ae:List (List Int))(ag aj:List Int)(text:List UInt8)(l:List Pr)(z:List Int)
 (hx:RL X ae) (hy:IL Y ag) (hc:IL C aj) (ht:BL T text) (hp:PL L l) (db:aj.length<=1000000) (dG:l.length<=1000000) (wT:text.length<=1000000) (hz:IS h Z z) (mo:z.length<=1000000):
 ∃r h',W7.call 33 [.agg (aN ep X Y C),T,L,Z] h=aa (r,h')/\Ext h h'/\r=.ret (.tuple [.agg [im (oM ae ag ep aj text l z).1.1,im (oM ae ag ep aj text l z).1.2],.v (.bool (oM ae ag ep aj text l z).2.1),im (oM ae ag ep aj text l z).2.2]):=by
 have bx:=uL (ep:=ep) hx hy hc;have zc:=ada;obtain⟨H0,fX⟩:∃H0,(h.push (aN ep X Y C)).push [im 0,im 0]=H0:=⟨_,rfl⟩;have jF:(h.push (aN ep X Y C)).boxes.length=h.boxes.length+1:=cR _ _;have k0:H0.boxes[h.boxes.length]?=aa (aN ep X Y C):=by rw[<-fX];exact bh (bg _ _)
 have g0:H0.boxes[h.boxes.length+1]?=aa [im 0,im 0]:=by have:=bg (h.push (aN ep X Y C)) [im 0,im 0];rw[jF,fX] at this;exact this
 have x0:Ext h H0:=by rw[<-fX];exact(Ext.push _ _).trans (.push _ _)
 obtain⟨_,H1,c1,iq,rfl⟩:=We H0 ep X Y C T L Z ae ag aj text l z hx hy hc ht hp db dG (hz.mono λc cs q=>x0.box _ _ q) mo;have x1:Ext H0 H1:=by rw[iq];exact .push _ _
 have k1:=x1.box _ _ k0;have g1:=x1.box _ _ g0;have l0:=LJ k0;have lG:=IQ g1;have sG:=Ts (u:=0) (v:=0) g1;rw[oB g1] at sG;have kx:=ao.mk (x0.trans x1);have kv:ao (oM ae ag ep aj text l z=if cP ae ag ep aj text l≠0 then ((0,0),aB,cP ae ag ep aj text l) else if jX l z=aB then ((0,0),aB,1)
  else if sW (al aj 0) text ((ek (al aj 0) text l:Nat):Int) (z.foldl dj 0) then ((((ek (al aj 0) text l:Nat):Int),z.foldl dj 0),ah,0) else ((0,0),aB,0)):=⟨rfl⟩
 refine di rfl Tryz.func33 rfl ?_;by_cases hb:cP ae ag ep aj text l=0;rotate_left 1
 ·have e1:nZ ae ag ep aj text l z=(0,cP ae ag ep aj text l):=by unfold nZ;rw[aH hb]
  rw[e1] at c1;have kr:ao (oM ae ag ep aj text l z=((0,0),aB,cP ae ag ep aj text l)):=⟨by rw[kv.out,aH hb]⟩;generalize cP ae ag ep aj text l=be at *
  clear hx hy hc ht hp hz kv e1 iq x0 x1 k0 g0 k1 g1;unfold im at *
  refine bK @Gi @bu @jF @fX ?_;exact⟨_,_,rfl,kx.out,by rw[kr.out]⟩
 obtain⟨p1,p2,-⟩:=Cq hb;have jV:0<aj.length:=by rw[p2];exact(tx p1).1
 cases hk:jX l z with
 |false=>
  have e1:nZ ae ag ep aj text l z=(0,1):=by unfold nZ;rw[aJ (by rw[hb];simp),aH hk]
  rw[e1] at c1;have kr:ao (oM ae ag ep aj text l z=((0,0),aB,1)):=⟨by rw[kv.out,aJ (by rw[hb];simp),aH hk]⟩;clear hx hy hc ht hp hz kv e1 iq x0 x1 k0 g0 k1 g1 hb hk p1 p2;unfold im at *
  refine bK @Gi @bu @jF @fX ?_;exact⟨_,_,rfl,kx.out,by rw[kr.out]⟩
 |true=>
  have e1:nZ ae ag ep aj text l z=(((ek (al aj 0) text l:Nat):Int),0):=by unfold nZ;rw[aJ (by rw[hb];simp),aJ (by rw[hk];simp)]
  rw[e1] at c1;have kr:ao (oM ae ag ep aj text l z=if sW (al aj 0) text ((ek (al aj 0) text l:Nat):Int) (z.foldl dj 0) then ((((ek (al aj 0) text l:Nat):Int),z.foldl dj 0),ah,0) else ((0,0),aB,0)):=⟨by rw[kv.out,aJ (by rw[hb];simp),aJ (by rw[hk];simp)]⟩;obtain⟨_,H1f,c2,e1f,rfl⟩:=aj5 H1 Z z (hz.mono λc cs q=>(x0.trans x1).box _ _ q) mo;rw[e1f] at c2;have c3:=ac3 (al aj 0) ((ek (al aj 0) text l:Nat):Int) (z.foldl dj 0) T text ht wT;have ixC:dS aq 23 C (.v (.int .i64 0))=aa (.elem 1 (ints aj) 0 0):=hc.ix (i:=0) jV;have ldC:∀K:ar,aI aq Gt K 3 (.elem 1 (ints aj) 0 0)=aa (.v (.int .i64 (al aj 0))):=λK=>ev jV;generalize z.foldl dj 0=sm at *
  generalize ((ek (al aj 0) text l:Nat):Int)=ch at *
  generalize FH:sW (al aj 0) text ch sm=vv at *
  generalize al aj 0=key at *
  obtain⟨H2,kQ⟩:∃H2,H1.push [im ch,im sm]=H2:=⟨_,rfl⟩;have x2:Ext H1 H2:=by rw[<-kQ];exact .push _ _
  have l1:aI aq Gt H2 23 (.ptr (.box h.boxes.length) 3)=aa C:=cQ mj (x2.box _ _ k1) rfl;have s1:cE aq (H1.push [im 0,im 0]) 50 (.ptr (.box H1.boxes.length) 0) (.agg [im ch,im sm])=aa H2:=by rw[<-kQ];exact lq rfl Ni rfl rfl
  have t2:H2.boxes[H1.boxes.length]?=aa [im ch,im sm]:=by rw[<-kQ];exact bg _ _
  have l2:=IQ t2;have g2:=x2.box _ _ g1;have lG2:=IQ g2;have sG2:=Ts (u:=0) (v:=0) g2;rw[oB g2] at sG2;have sR:=Ts (u:=ch) (v:=sm) g2;have gl:=(aW.1 g2).1;have lR:aI aq Gt (H2.put (h.boxes.length+1) [im ch,im sm]) 50 (.ptr (.box (h.boxes.length+1)) 0)=aa (.agg [im ch,im sm]):=IQ (eO gl);have bd:=af1 ch sm;have kx2:=ao.mk (az ((x0.trans x1).trans x2) (((x0.trans x1).trans x2).fZ ai (b:=h.boxes.length+1) [im ch,im sm]));clear hx hy hc ht hp hz kv e1 iq x0 x1 x2 k0 g0 k1 g1 g2 t2 hb hk p1 p2 jV kx gl sG lG;cases vv with
  |true=>
   have kr2:ao (oM ae ag ep aj text l z=((ch,sm),ah,0)):=⟨kr.out⟩;clear kr FH sG2 lG2;unfold im at *
   refine bK @Gi @bu @jF (az @fX @il) ?_;refine eJ AW aw ?_;refine bQ @Gi @il ?_;exact⟨_,_,rfl,kx2.out.2,by rw[kr2.out]⟩
  |false=>
   have kr2:ao (oM ae ag ep aj text l z=((0,0),aB,0)):=⟨kr.out⟩;clear kr FH sR lR;unfold im at *
   refine bK @Gi @bu @jF (az @fX @il) ?_;refine eJ AW aw ?_;refine bQ @Gi @il ?_;exact⟨_,_,rfl,kx2.out.1,by rw[kr2.out]⟩
def DT:Tryz.f89.results.toList=[.tmp 8]:=by kernel_rfl
def S1:Tryz.f32.results.toList=[.tmp 8]:=by kernel_rfl
def xZ(ae:List (List Int))(ag:List Int)(ep:Int)(aj:List Int)(text:List UInt8)(l:List Pr)(z:List Int):Int:=
 if cP ae ag ep aj text l≠0 then cP ae ag ep aj text l else if jX l z=ah then 0 else 1
def ajy(h:ar)(ep:Int)(X Y C T L Z:AV)(ae:List (List Int))(ag aj:List Int)(text:List UInt8)(l:List Pr)(z:List Int)(g:nX X Y C T L ae ag aj text l)(hz:IL Z z)(cU:ae.length<=1000000)(db:aj.length<=1000000)(dG:l.length<=1000000)(mo:z.length<=1000000):
 ∃r h',qE.call 89 [.agg (aN ep X Y C),T,L,Z] h=aa (r,h')/\h'=h.push (aN ep X Y C)/\r=.ret (im (xZ ae ag ep aj text l z)):=by
 have bx:=g.cells ep;have c1:=V8 ep X Y C T L ae ag aj text l g cU db dG;have l0:=zZ (bg h (aN ep X Y C)) rfl;have ln:=hz.dQ;have lp:=g.p.dQ;have kv:ao (xZ ae ag ep aj text l z=if cP ae ag ep aj text l≠0 then cP ae ag ep aj text l else if jX l z=ah then 0 else 1):=⟨rfl⟩;have ko:ao (jX l z=(decide (z.length=l.length)&&z.all cA)):=⟨rfl⟩;generalize xZ ae ag ep aj text l z=res at *
 obtain⟨kz,sz,rfl,dP⟩:=hz;have ks:=ao.mk dP;have u23:=dY;have z3:=fR;have cY:=dE z;clear g dP;obtain⟨H0,hH⟩:∃H0,h.push (aN ep X Y C)=H0:=⟨_,rfl⟩;rw[hH] at l0;rw[hH];generalize aN ep X Y C=K at *
 unfold im at c1;refine di rfl Tryz.func89 rfl ?_;by_cases q1:cP ae ag ep aj text l=0;rotate_left 1
 ·have bE:decide (cP ae ag ep aj text l=0)=aB:=cS q1;have kf:ao (res=cP ae ag ep aj text l):=⟨by rw[kv.out,aH q1]⟩;generalize cP ae ag ep aj text l=be at *
  clear q1 kv ko;refine cX @DT @bu @hH ?_;exact⟨_,_,rfl,rfl,by rw[kf.out];rfl⟩
 have kv2:ao (res=if jX l z=ah then 0 else 1):=⟨by rw[kv.out,aJ (by simp[q1])]⟩;rw[q1] at c1;clear q1 kv;by_cases q2:z.length=l.length;rotate_left 1
 ·have q2I:¬((z.length:Nat):Int)=((l.length:Nat):Int):=by omega
  have kf:ao (res=1):=⟨by rw[kv2.out,ko.out,cS q2];rfl⟩;clear q2 kv2 ko;refine cX @DT @bu @hH ?_;exact⟨_,_,rfl,rfl,by rw[kf.out];rfl⟩
 have q2I:((z.length:Nat):Int)=((l.length:Nat):Int):=by omega
 have kv3:ao (res=if z.all cA=ah then 0 else 1):=⟨by rw[kv2.out,ko.out,b8 q2];rfl⟩;clear kv2 ko q2;refine cX @DT @bu @hH ?_;refine bM.gen λe0 aG bE cZ cV=>?_;have f3:e0.get 3=.list kz sz (ints z):=by rw[aG];exact gS
 have f10:e0.get 10=.v (.int .i64 (0:Nat)):=by rw[aG];exact gR
 have fd:e0.defers=[]:=by rw[bE];exact gS
 clear aG bE cZ cV bx hH l0 c1 lp q2I;refine cH (λm e H=>∃i:Nat,i<=z.length/\m=z.length - i/\ao ((z.take i).all cA=ah)/\e.get 3=.list kz sz (ints z)/\e.get 10=.v (.int .i64 (i:Nat))/\e.defers=[]/\H=H0) ?_ z.length _ _ ?_;rotate_left 1
 ·exact⟨0,cD _,rfl,⟨bJ⟩,f3,f10,fd,rfl⟩
 clear f3 f10 fd;rintro m e H ⟨i,hi,rfl,ka,g3,g10,hd,rfl⟩;by_cases aC:i<z.length
 ·have bD:sz=1:=ks.out (by intro q;rw[q] at aC;simp at aC);subst bD;have ld:=ev (H:=H) (s:=1) aC;have hv:z[i]?=aa (al z i):=by rw[aU aC,fB aC]
  have fw:(i:Int)<(z.length:Int):=by omega
  have mn:(z.take (i+1)).all cA=cA (al z i):=by rw[fE hv,List.all_append,ka.out];simp
  have kt:=ao.mk (az mn (dy hv));have hq:cA (al z i)=(decide (0<=al z i)&&decide (al z i<1073741789)):=rfl;clear hv mn;generalize al z i=n at *
  by_cases c1:n<0
  ·have eM:decide (n<0)=ah:=(by simp[c1]);have kf:ao (res=1):=⟨by have hf:z.all cA=aB:=(by rw[Es];exact⟨n,kt.out.2,by rw[hq];simp;omega⟩);rw[kv3.out,hf];rfl⟩;clear hq c1 kv3;refine bQ @DT @bp ?_;exact⟨_,_,rfl,rfl,by rw[kf.out];rfl⟩
  ·have eM:decide (n<0)=aB:=(by simp[c1]);by_cases c2:1073741789<=n
   ·have iF:decide (1073741789<=n)=ah:=(by simp[c2]);have kf:ao (res=1):=⟨by have hf:z.all cA=aB:=(by rw[Es];exact⟨n,kt.out.2,by rw[hq];simp;omega⟩);rw[kv3.out,hf];rfl⟩;clear hq c1 c2 kv3;refine bQ @DT @bp ?_;exact⟨_,_,rfl,rfl,by rw[kf.out];rfl⟩
   ·have iF:decide (1073741789<=n)=aB:=(by simp;omega);have kt2:ao ((z.take (i+1)).all cA=ah):=⟨by rw[kt.out.1,hq];simp;omega⟩;clear hq c1 c2;refine bQ @DT @bp ?_;exact⟨z.length - (i+1),by omega,i+1,by omega,rfl,kt2,by simp⟩
 ·have:i=z.length:=by omega
  subst this;have:=ka.out;rw[fN] at this;have kf:ao (res=0):=⟨by rw[kv3.out,this];rfl⟩;clear this kv3;refine bC @DT ?_;exact⟨_,_,rfl,rfl,by rw[kf.out];rfl⟩
def ajG(h:ar)(ep:Int)(X Y C T L Z:AV)(ae:List (List Int))(ag aj:List Int)(text:List UInt8)(l:List Pr)(z:List Int)(g:nX X Y C T L ae ag aj text l)(hz:IL Z z):
 ∃r h',qE.call 32 [.agg (aN ep X Y C),T,L,Z] h=aa (r,h')/\h'=h.push (aN ep X Y C)/\∃b,r=.ret (.v (.bool b))/\(b=ah->ae.length<=80/\ag.length<=80/\aj.length<=80/\text.length<=70000/\l.length<=80/\z.length<=80):=by
 have bx:=g.cells ep;obtain⟨b,hb,cf⟩:=ahL ep X Y C T L ae ag aj text l g.x g.y g.c g.t g.p;have l0:=zZ (bg h (aN ep X Y C)) rfl;have ln:=hz.dQ;have kb:=ao.mk hb;clear g hz hb;obtain⟨H0,hH⟩:∃H0,h.push (aN ep X Y C)=H0:=⟨_,rfl⟩;rw[hH] at l0;rw[hH];generalize aN ep X Y C=K at *
 refine di rfl Tryz.func32 rfl ?_;cases b with
 |false=>refine cX @S1 @bu @hH ?_;exact⟨_,_,rfl,rfl,aB,rfl,λq=>by cases q⟩|true=>
 obtain⟨k1,k2,k3,k4,k5⟩:=kb.out rfl;have kq:=ao.mk (az k1 (az k2 (az k3 (az k4 k5))));clear k1 k2 k3 k4 k5 kb;by_cases q1:(z.length:Int)<=80
 ·have d1:decide ((z.length:Int)<=80)=ah:=b8 q1;have kz:ao (z.length<=80):=⟨ai⟩;clear q1;refine cX @S1 @bu @hH ?_;exact⟨_,_,rfl,rfl,ah,rfl,λ_=>⟨kq.out.1,kq.out.2.1,kq.out.2.2.1,kq.out.2.2.2.1,kq.out.2.2.2.2,kz.out⟩⟩
 ·have d1:decide ((z.length:Int)<=80)=aB:=cS q1;clear q1;refine cX @S1 @bu @hH ?_;exact⟨_,_,rfl,rfl,aB,rfl,λq=>by cases q⟩
def ate:Tryz.f90.results.toList=[]:=aw
def atf:Tryz.f91.results.toList=[.tmp 4]:=aw
def MD:Tryz.f149.results.toList=[]:=aw
def Jy:Tryz.f35.results.toList=[.cell 8 23,.cell 9 32]:=aw
def IS.A0{H}{x}{l}(h:IS H x l):x.cd=aa [x]:=by rcases h with⟨k,s,rfl,-⟩|⟨b,rfl,-⟩<;>rfl
def KM{b}:gH aq 130 (.ptr (.box b) 0) 0=aa (.ptr (.box b) 0):=aw
def afc(H)(n0 b)(t)(s)(bad)(k)(hb:H.boxes[b]?=aa [.list t s (ints bad)])(hs:s=1∨(bad=[]/\t=.nil))(hl:bad.length<1000000)(hc:du n0 H t):
 W7.call 90 [.ptr (.box b) 0,im k] H=aa (.ret (.tuple []),(H.app t).put b [.list (.free H.tn) 1 (ints (bad++[k]))]):=by
 have ap:=tf (x:=k) (es:=bad) ai hs hc;have lA:=vG hb;have sA:cE aq (H.app t) 23 (.ptr (.box b) 0) (.list (.free H.tn) 1 (ints (bad++[k])))=aa ((H.app t).put b [.list (.free H.tn) 1 (ints (bad++[k]))]):=
  fK (off:=0) (cs:=[.list t s (ints bad)]) (xs:=[.list (.free H.tn) 1 (ints (bad++[k]))]) rfl iA (by rw[eC];exact hb) rfl (aL 1)
 have bl:=pq k;clear hb hs hc;unfold im at *
 refine cN rfl Tryz.func90 rfl ?_;exact si @ate @KM @aav
def aoV(h)(L Z)(hL:L.cd=aa [L])(hZ:Z.cd=aa [Z]):W7.call 91 [L,Z] h=aa (.ret (.func (.func 149) [] [.ptr (.box h.boxes.length) 0,.ptr (.box (h.boxes.length+1)) 0]),(h.push [L]).push [Z]):=by refine cN rfl Tryz.func91 rfl ?_;exact si @atf @bu @cR
def aoW(lp pb zb:Nat)(L Z:AV)(l:List Pr)(z:List Int)(Inv:Nat->ar->Prop)(hp:PL L l)(dG:l.length<=1000000)(mo:z.length=l.length)
 (h1:∀k H,Inv k H->H.boxes[pb]?=aa [L]/\H.boxes[zb]?=aa [Z]/\IS H Z z)
 (hP:∀k H cs,Inv k H->Inv k (H.push cs))
 (hR:∀k H,k<l.length->Inv k H->∃H',W7.round lp [im (qk l k),im (al z k)] H=aa (.ret (.v (.bool ah)),H')/\Inv (k+1) H')
 (H0:ar) (h0:Inv 0 H0):∃H',W7.call 149 [.yield lp,.ptr (.box pb) 0,.ptr (.box zb) 0] H0=aa (.ret (.tuple []),H')/\Inv l.length H':=by
 have kk:=ao.mk (az h1 (az hP (az hR (az h0 hp))));obtain⟨b1,-,-⟩:=h1 0 H0 h0;have l1:aI aq Gt H0 29 (.ptr (.box pb) 0)=aa L:=cQ zn b1 rfl;have ln:=hp.dQ;have zp:=D5;clear h1 hP hR h0 hp b1;refine iD rfl Tryz.func149 rfl ?_;refine bC @MD ?_;refine cH (λm e H=>∃k:Nat,k<=l.length/\m=l.length - k/\ao (Inv k H)/\e.get 0=.yield lp/\e.get 2=.ptr (.box zb) 0/\e.get 6=L/\e.get 7=.v (.int .i64 (l.length:Nat))/\e.get 8=.v (.int .i64 (k:Nat))/\e.defers=[]) ?_ l.length _ _ ?_;rotate_left 1
 ·refine⟨0,cD _,rfl,⟨kk.out.2.2.2.1⟩,?_,?_,?_,?_,?_,?_⟩<;>exact gR
 clear l1 ln;rintro m e H ⟨k,hk,rfl,kI,g0,g2,g6,g7,g8,hd⟩;by_cases aC:k<l.length;rotate_left 1
 ·have:k=l.length:=by omega
  subst this;refine bC @MD ?_;exact⟨_,rfl,kI.out⟩
 obtain⟨p,Fw⟩:∃p,l[k]?=aa p:=⟨_,aU aC⟩;have ix:=kk.out.2.2.2.2.ix aC;have Z5:=DE (H:=H) (s:=4) Fw;have sp:=BU (H:=H) p;have kI2:=ao.mk (kk.out.2.1 k H (cq p) kI.out);obtain⟨-,b2,b3⟩:=kk.out.1 k _ kI2.out;have lz:aI aq Gt (H.push (cq p)) 23 (.ptr (.box zb) 0)=aa Z:=cQ mj b2 rfl;have lk:aI aq Gt (H.push (cq p)) 3 (.ptr (.box H.boxes.length) 0)=aa (.v (.int .i64 p.aA)):=cQ fh (bg _ _) rfl;obtain⟨a,iz,ldz⟩:=b3.at (i:=k) ai;have lz2:=ldz _ b3;obtain⟨H',r1,r2⟩:=kk.out.2.2.1 k _ aC kI2.out;rw[Rr Fw] at r1;have kI3:=ao.mk r2;have fw:(k:Int)<(l.length:Int):=by omega
 clear ldz b2 b3 r2 kI kI2 Fw;generalize al z k=zk at *
 unfold im at *
 generalize p.aA=pk at *
 refine cX @MD @bu @jg ?_;refine eJ AW aw ?_;refine cX @MD @jg @AT ?_;exact⟨l.length - (k+1),by omega,k+1,by omega,rfl,kI3,by simp⟩
def afk:gY aq 131=aa aB:=aw
def avE:dJ aq 131=aa 1:=aw
def awX:(iB aq 23).bind AV.cd=aa [nl]:=aw
def awS:(iB aq 130).bind AV.cd=aa [nl]:=aw
def awT:(iB aq 131).bind AV.cd=aa [.v .nilFunc]:=aw
def OH(ae)(ag)(ep)(aj)(text)(l)(z)(k):(nG ae ag ep aj text l z k).length<=k:=by
 induction k with
 |zero=>simp[nG]|succ k ih=>
  rw[OI,List.length_append];have:(xP ae ag ep aj text l z k).length<=1:=by unfold xP;split<;>simp
  omega
def Ar(h h1:ar)(bl:Nat)(LP:List iW)(bad:Nat->List Int)(k:Nat)(H:ar):Prop:=
 ∃t s,H.loops=LP/\H.boxes[bl]?=aa [.list t s (ints (bad k))]/\(s=1∨(bad k=[]/\t=.nil))/\du h.tn H t/\cK H=ah/\Ext h H/\h1.boxes.length<=H.boxes.length/\∀(a:Nat) (cs:List AV),h1.boxes[a]?=aa cs->a≠bl->H.boxes[a]?=aa cs
def Ar.push{h h1}{bl}{LP}{bad}{k}{H}(b:Ar h h1 bl LP bad k H)(cs):Ar h h1 bl LP bad k (H.push cs):=by obtain⟨t,s,i1,i2,i3,i4,i5,i6,i7,i8⟩:=b;exact⟨t,s,i1,bh i2,i3,by rw[AZ];exact i4,i5,i6.trans (.push _ _),by rw[cR];omega,λa cs q bG=>bh (i8 a cs q bG)⟩
def Ky(h:ar)(bB:cK h=ah)(ep:Int)(X Y C T L Z:AV)(ae:List (List Int))(ag aj:List Int)(text:List UInt8)(l:List Pr)(z:List Int)
 (hx:RL X ae) (hy:IL Y ag) (hc:IL C aj) (ht:BL T text) (hp:PL L l) (db:aj.length<=1000000) (dG:l.length<=1000000) (hz:IS h Z z) (mo:z.length<=1000000):
 ∃r h',W7.call 35 [.agg (aN ep X Y C),T,L,Z] h=aa (r,h')/\Ext h h'/\∃B,r=.ret (.tuple [B,im (nb ae ag ep aj text l z).2])/\IL B (nb ae ag ep aj text l z).1:=by
 have bx:=uL (ep:=ep) hx hy hc;have cT:=ht.A0;have cL:=hp.A0;have z23:=awX;have z32:=ac9;have z130:=awS;have z131:=awT;obtain⟨H0,fX⟩:∃H0,((((h.push (aN ep X Y C)).push [T]).push [L]).push [nl]).push [im 0]=H0:=⟨_,rfl⟩;have n1:(h.push (aN ep X Y C)).boxes.length=h.boxes.length+1:=cR _ _;have n2:((h.push (aN ep X Y C)).push [T]).boxes.length=h.boxes.length+2:=by rw[cR,n1]
 have n3:(((h.push (aN ep X Y C)).push [T]).push [L]).boxes.length=h.boxes.length+3:=by rw[cR,n2]
 have n4:((((h.push (aN ep X Y C)).push [T]).push [L]).push [nl]).boxes.length=h.boxes.length+4:=by rw[cR,n3]
 have n5:H0.boxes.length=h.boxes.length+5:=by rw[<-fX,cR,n4]
 have k0:H0.boxes[h.boxes.length]?=aa (aN ep X Y C):=by rw[<-fX];exact bh (bh (bh (bh (bg _ _))))
 have k1:H0.boxes[h.boxes.length+1]?=aa [T]:=by rw[<-fX,<-n1];exact bh (bh (bh (bg _ _)))
 have k2:H0.boxes[h.boxes.length+2]?=aa [L]:=by rw[<-fX,<-n2];exact bh (bh (bg _ _))
 have k3:H0.boxes[h.boxes.length+3]?=aa [nl]:=by rw[<-fX,<-n3];exact bh (bg _ _)
 have k4:H0.boxes[h.boxes.length+4]?=aa [im 0]:=by rw[<-fX,<-n4];exact bg _ _
 have x0:Ext h H0:=by rw[<-fX];exact((((Ext.push _ _).trans (.push _ _)).trans (.push _ _)).trans (.push _ _)).trans (.push _ _)
 obtain⟨_,H1,c1,iq,rfl⟩:=We H0 ep X Y C T L Z ae ag aj text l z hx hy hc ht hp db dG (hz.mono λc cs q=>x0.box _ _ q) mo;have x1:Ext H0 H1:=by rw[iq];exact .push _ _
 have m1:H1.boxes.length=h.boxes.length+6:=by rw[iq,cR,n5]
 obtain⟨ce,tD⟩:∃e,(nZ ae ag ep aj text l z).2=e:=⟨_,rfl⟩;rw[tD] at c1;have g4:=x1.box _ _ k4;have gl4:=(aW.1 g4).1;obtain⟨H2,kQ⟩:∃H2,H1.put (h.boxes.length+4) [im ce]=H2:=⟨_,rfl⟩;have s1:cE aq H1 32 (.ptr (.box (h.boxes.length+4)) 0) (im ce)=aa H2:=by rw[<-kQ];exact fK (off:=0) (cs:=[im 0]) (xs:=[im ce]) rfl JM g4 rfl (aL 1)
 have x2:Ext h H2:=by rw[<-kQ];exact(x0.trans x1).fZ ai _
 have m2:H2.boxes.length=h.boxes.length+6:=by rw[<-kQ,mE,m1]
 have j0:H2.boxes[h.boxes.length]?=aa (aN ep X Y C):=by rw[<-kQ,dh ai];exact x1.box _ _ k0
 have j1:H2.boxes[h.boxes.length+1]?=aa [T]:=by rw[<-kQ,dh ai];exact x1.box _ _ k1
 have j2:H2.boxes[h.boxes.length+2]?=aa [L]:=by rw[<-kQ,dh ai];exact x1.box _ _ k2
 have j3:H2.boxes[h.boxes.length+3]?=aa [nl]:=by rw[<-kQ,dh ai];exact x1.box _ _ k3
 have j4:H2.boxes[h.boxes.length+4]?=aa [im ce]:=by rw[<-kQ];exact eO gl4
 have l0:=LJ k0;have l1:aI aq Gt H0 28 (.ptr (.box (h.boxes.length+1)) 0)=aa T:=cQ Kp k1 rfl;have l2:aI aq Gt H0 29 (.ptr (.box (h.boxes.length+2)) 0)=aa L:=cQ zn k2 rfl;have l4:aI aq Gt H2 32 (.ptr (.box (h.boxes.length+4)) 0)=aa (im ce):=cQ zo j4 rfl;have kv:ao (nb ae ag ep aj text l z=if cP ae ag ep aj text l≠0 then ([],cP ae ag ep aj text l) else if jX l z=aB then ([],1) else (nG ae ag ep aj text l z l.length,0)):=⟨rfl⟩;refine di rfl Tryz.func35 rfl ?_;by_cases he:ce=0;rotate_left 1
 ·have kr:ao (nb ae ag ep aj text l z=([],ce)):=⟨by
   rw[kv.out];by_cases q:cP ae ag ep aj text l=0
   ·rw[aJ (by simp[q])];cases hk:jX l z with|false=>rw[aH rfl,<-tD];unfold nZ;rw[aJ (by simp[q]),aH hk]|true=>exact absurd (by rw[<-tD];unfold nZ;rw[aJ (by simp[q]),aJ (by simp[hk])]) he
   ·rw[aH q,<-tD];unfold nZ;rw[aH q]⟩
  have sA:cE aq H2 23 (.ptr (.box (h.boxes.length+3)) 0) nl=aa H2:=by rw[fK (off:=0) (cs:=[nl]) (xs:=[nl]) rfl iA j3 rfl (aL 1)];exact congrArg aa (oB j3)
  have sB:cE aq H2 32 (.ptr (.box (h.boxes.length+4)) 0) (im ce)=aa H2:=by rw[fK (off:=0) (cs:=[im ce]) (xs:=[im ce]) rfl JM j4 rfl (aL 1)];exact congrArg aa (oB j4)
  have lA:aI aq Gt H2 23 (.ptr (.box (h.boxes.length+3)) 0)=aa nl:=cQ mj j3 rfl;have kx:=ao.mk x2;have dz:decide (ce=0)=aB:=cS he;have svs:fA (im ce) (im ce)=ah:=by simp[im,fA,mU]
  clear hx hy hc ht hp hz kv tD iq x0 x1 x2 k0 k1 k2 k3 k4 g4 gl4 kQ j0 j1 j2 j3 j4 n5 m1 m2;unfold im at *
  refine bK @Jy @bu @n1 (az @n2 (az @n3 (az @n4 @fX))) ?_;refine nW [(0,1)] AW aw (λp hp=>?_) ?_
  ·simp only[List.mem_singleton] at hp;subst hp;refine Al (x:=.ptr (.box (h.boxes.length+4)) 0) (v:=.v (.int .i64 ce)) aw rfl rfl rfl aw (svs) ?_ ?_<;>(simp only[List.take_succ_cons,List.take_zero];exact jw @Jy @and_self)
  refine bC @Jy ?_;exact⟨_,_,rfl,kx.out,_,by rw[kr.out],by rw[kr.out];exact⟨_,_,rfl,λq=>absurd rfl q⟩⟩
 subst he;have hb:cP ae ag ep aj text l=0:=by
  by_cases q:cP ae ag ep aj text l=0
  ·exact q
  ·unfold nZ at tD;rw[aH q] at tD;exact tD
 have hk:jX l z=ah:=by
  cases hk:jX l z with|true=>rfl|false=>unfold nZ at tD;rw[aJ (by simp[hb]),aH hk] at tD;cases tD
 obtain⟨q1,q2⟩:=DL.1 hk;have kr:ao (nb ae ag ep aj text l z=(nG ae ag ep aj text l z l.length,0)):=⟨by rw[kv.out,aJ (by simp[hb]),aJ (by simp[hk])]⟩;have kf:ao (∀k,k<l.length->∀h,W7.call 22 [.agg (aN ep X Y C),T,L,im (qk l k),im (al z k)] h=aa (.ret (.tuple [.v (.bool (ki ae ag ep aj text l (qk l k) (al z k)).1),im 0]),h)):=⟨λk Bp=>by have:=ajS ep X Y C T L ae ag aj text l hx hy hc ht hp db dG (qk l k) (al z k);rw[ajX hb hk Bp] at this;exact this⟩;obtain⟨H3,qL⟩:∃H3,H2.push [nl]=H3:=⟨_,rfl⟩;obtain⟨H4,wH⟩:∃H4,H3.push [.func (.func 90) [.ptr (.box (h.boxes.length+6)) 0] []]=H4:=⟨_,rfl⟩;have m3:H3.boxes.length=h.boxes.length+7:=by rw[<-qL,cR,m2]
 have m4:H4.boxes.length=h.boxes.length+8:=by rw[<-wH,cR,m3]
 have s4:cE aq (H3.push [.v .nilFunc]) 131 (.ptr (.box (h.boxes.length+7)) 0) (.func (.func 90) [.ptr (.box (h.boxes.length+6)) 0] [])=aa H4:=by rw[<-wH,<-m3];exact lq rfl avE rfl rfl
 obtain⟨H6,Bc⟩:∃H6,(H4.push [L]).push [Z]=H6:=⟨_,rfl⟩;have c2:=aoV H4 L Z cL hz.A0;rw[Bc,m4] at c2;have o2:∀{b:Nat} {cs:List AV},H2.boxes[b]?=aa cs->H6.boxes[b]?=aa cs:=λq=>by rw[<-Bc,<-wH,<-qL];exact bh (bh (bh (bh q)))
 have j6:H6.boxes[h.boxes.length+6]?=aa [nl]:=by rw[<-Bc,<-wH,<-qL,<-m2];exact bh (bh (bh (bg _ _)))
 have j7:H6.boxes[h.boxes.length+7]?=aa [.func (.func 90) [.ptr (.box (h.boxes.length+6)) 0] []]:=by rw[<-Bc,<-wH,<-m3];exact bh (bh (bg _ _))
 have j8:H6.boxes[h.boxes.length+8]?=aa [L]:=by rw[<-Bc,<-m4];exact bh (bg _ _)
 have j9:H6.boxes[h.boxes.length+9]?=aa [Z]:=by
  rw[<-Bc];have:=bg (H4.push [L]) [Z]
  rwa [cR,m4] at this
 have x6:Ext h H6:=by rw[<-Bc,<-wH,<-qL];exact(((x2.trans (.push _ _)).trans (.push _ _)).trans (.push _ _)).trans (.push _ _)
 have Di:=x6.ok bB;have l3:aI aq Gt H4 29 (.ptr (.box (h.boxes.length+2)) 0)=aa L:=cQ zn (by rw[<-wH,<-qL];exact bh (bh j2)) rfl;have y0:=o2 j0;have y1:=o2 j1;have y2:=o2 j2;have y3:=o2 j3;have y4:=o2 j4;have Rj:IS H6 Z z:=hz.mono λc cs q=>x6.box _ _ q;clear x0 x1 x2 k0 k1 k2 k3 k4 g4 gl4 j0 j1 j2 j3 j4 o2 iq kQ Bc wH tD kv hb hk;unfold im at *
 refine bK @Jy @bu @n1 (az @n2 (az @n3 (az @n4 (az @fX (az @m2 (az @m3 @qL)))))) ?_;refine bM.gen λe4 gU qM vB tL=>?_;have f4:e4.get 4=.ptr (.box h.boxes.length) 0:=by rw[gU];exact gS
 have f5:e4.get 5=.ptr (.box (h.boxes.length+1)) 0:=by rw[gU];simp only[gW,reduceIte,aS,aO,n1]
 have f6:e4.get 6=.ptr (.box (h.boxes.length+2)) 0:=by rw[gU];simp only[gW,reduceIte,aS,aO,n2]
 have f8:e4.get 8=.ptr (.box (h.boxes.length+3)) 0:=by rw[gU];simp only[gW,reduceIte,aS,aO,n3]
 have f9:e4.get 9=.ptr (.box (h.boxes.length+4)) 0:=by rw[gU];simp only[gW,reduceIte,aS,aO,n4]
 have f10:e4.get 10=.ptr (.box (h.boxes.length+6)) 0:=by rw[gU];simp only[gW,reduceIte,aS,aO,m2]
 have f11:e4.get 11=.ptr (.box (h.boxes.length+7)) 0:=by rw[gU];simp only[gW,reduceIte,aS,aO,m3]
 have f30:e4.get 30=.func (.func 149) [] [.ptr (.box (h.boxes.length+8)) 0,.ptr (.box (h.boxes.length+8+1)) 0]:=by rw[gU];exact gS
 have fd:e4.defers=[]:=by rw[qM];exact gS
 clear gU qM vB tL c1 c2 s1 s4 l0 l1 l2 l3 l4 bx cT cL z23 z32 z130 z131 fX n1 n2 n3 n4 n5 m1 qL m2 m3 m4;refine DU (by rw[A7];exact f30) λrec w1 w2 w3 w4 w5 w6=>?_;obtain⟨bad,HV⟩:∃bad:Nat->List Int,bad=nG ae ag ep aj text l z:=⟨_,rfl⟩;have kb0:ao (bad 0=[]):=⟨by rw[HV];rfl⟩;have kbs:ao (∀k,bad (k+1)=bad k++xP ae ag ep aj text l z k):=⟨λk=>by rw[HV];exact OI _ _ _ _ _ _ _ _⟩;have kbl:ao (∀k,(bad k).length<=k):=⟨λk=>by rw[HV];exact OH _ _ _ _ _ _ _ _⟩;rw[<-HV] at kr;clear HV;have iu:(H6.loop rec).loops[H6.loops.length]?=aa rec:=@DG H6 rec;have XL:Ext h (H6.loop rec):=x6.trans ((Fr.BC (bn:=H6.boxes.length) (l0:=H6.loops.length) (n0:=H6.tn) H6 rec).ext (aL _) (aL _) (aL _));have Qv:=(aW.1 j9).1;have feed:=aoW H6.loops.length (h.boxes.length+8) (h.boxes.length+8+1) L Z l z (Ar h H6 (h.boxes.length+6) (H6.loop rec).loops bad) hp dG q1
  (λk H q=>by obtain⟨_,_,-,-,-,-,-,q6,-,q8⟩:=q;exact⟨q8 _ _ j8 ai,q8 _ _ j9 ai,hz.mono λc cs q=>q6.box _ _ q⟩)
  (λk H cs q=>q.push cs) ?_ (H6.loop rec) ⟨.nil,0,rfl,by rw[kb0.out];exact j6,.inr ⟨kb0.out,rfl⟩,.inl rfl,Di,XL,aL _,λa cs q _=>q⟩
 rotate_left 1
 ·rintro k H hk ⟨t,s,i1,i2,i3,i4,i5,i6,i7,i8⟩;have vz:H.loops[H6.loops.length]?=aa rec:=by rw[i1];exact iu
  refine Ji (Post:=Ar h H6 (h.boxes.length+6) (H6.loop rec).loops bad (k+1)) vz (by rw[w2];rfl) w5 w6 ?_;have r1:∀t,(nV H6.loops.length rec [im (qk l k),im (al z k)]).get t=if 32=t then im (al z k) else if 31=t then im (qk l k) else e4.get t:=λt=>Jg w2 w1
  have d1:(nV H6.loops.length rec [im (qk l k),im (al z k)]).defers=[]:=rfl;obtain⟨K,hK⟩:∃K,H.busy H6.loops.length rec=K:=⟨_,rfl⟩;have rv:K.boxes=H.boxes:=by rw[<-hK];rfl
  have u0:=LJ (H:=K) (by rw[rv];exact i8 _ _ y0 ai);have u1:aI aq Gt K 28 (.ptr (.box (h.boxes.length+1)) 0)=aa T:=cQ Kp (by rw[rv];exact i8 _ _ y1 ai) rfl;have u2:aI aq Gt K 29 (.ptr (.box (h.boxes.length+2)) 0)=aa L:=cQ zn (by rw[rv];exact i8 _ _ y2 ai) rfl;have u3:aI aq Gt K 131 (.ptr (.box (h.boxes.length+7)) 0)=aa (.func (.func 90) [.ptr (.box (h.boxes.length+6)) 0] []):=cQ afk (by rw[rv];exact i8 _ _ j7 ai) rfl;have c1:=kf.out k hk;have kb1:K.boxes[h.boxes.length+6]?=aa [.list t s (ints (bad k))]:=by rw[rv];exact i2
  have kc1:du h.tn K t:=by rw[<-hK];exact i4
  have jE:=kbl.out k;have oo:=kbs.out k;unfold xP at oo;cases oq:(ki ae ag ep aj text l (qk l k) (al z k)).1 with
  |true=>
   rw[oq] at c1 oo;rw[aH rfl,jC] at oo;have fI:ao (Ar h H6 (h.boxes.length+6) (H6.loop rec).loops bad (k+1) H):=⟨t,s,i1,by rw[oo];exact i2,by rw[oo];exact i3,i4,i5,i6,i7,i8⟩;clear i1 i2 i3 i4 i5 i6 i7 i8 oo jE kb1 kc1 oq y0 y1 y2 y3 y4 j6 j7 j8 j9 x6 XL Di iu Qv hp hz Rj rv;generalize qk l k=wk at *
   generalize al z k=zk at *
   rw[hK];rw[w3,w4];unfold im at *
   refine bK @r1 @d1 @KM @lO.{0} ?_;exact⟨aY,aY,aY,(by first|trivial|rfl),by rw[<-hK];exact fI.out⟩
  |false=>
   rw[oq] at c1 oo;rw[aJ bJ] at oo;have ca:=afc K h.tn (h.boxes.length+6) t s (bad k) (qk l k) kb1 i3 ai kc1;rw[<-oo] at ca;have gr:=Grown.one i4 i5 i6.tn;have fI:ao (Ar h H6 (h.boxes.length+6) (H6.loop rec).loops bad (k+1) ((H.app t).put (h.boxes.length+6) [.list (.free H.tn) 1 (ints (bad (k+1)))])):=by
    have pG:=(aW.1 i2).1;refine⟨_,1,?_,?_,.inl rfl,by rw[Cv];exact gr.can,gr.ok,(gr.ext i6 (aL _)).fZ ai _,by rw[mE,eC];exact i7,λa cs ha bG=>?_⟩
    ·show(H.app t).loops=_;rw[xN];exact i1
    ·exact eO (by rw[eC];exact pG)
    ·rw[dh bG,eC];exact i8 a cs ha bG
   have XS:K.tn=H.tn:=(by rw[<-hK];rfl);rw[XS] at ca;clear i1 i2 i3 i4 i5 i6 i7 i8 oo jE kb1 kc1 gr oq y0 y1 y2 y3 y4 j6 j7 j8 j9 x6 XL Di iu Qv hp hz Rj rv XS;generalize qk l k=wk at *
   generalize al z k=zk at *
   rw[hK];rw[w3,w4];unfold im at *
   refine bK @r1 @d1 @KM @lO.{0} ?_;refine⟨aY,aY,aY,?_,?_⟩
   ·show(K.app t).loops=_;rw[xN]
   ·rw[<-hK];refine(congrArg (Ar h H6 (h.boxes.length+6) (H6.loop rec).loops bad (k+1)) ?_).mpr fI.out;cases t<;>rfl
 ·obtain⟨Hf,c1,t,s,i1,i2,i3,i4,i5,i6,i7,i8⟩:=feed;refine⟨_,_,c1,rec,by rw[i1];exact iu,by rw[w5];decide,.inl ⟨w6,?_⟩⟩;have v6:(Hf.fc H6.loops.length {rec with state:=.exhausted}).boxes[h.boxes.length+6]?=aa [.list t s (ints (bad l.length))]:=i2;have v3:(Hf.fc H6.loops.length {rec with state:=.exhausted}).boxes[h.boxes.length+3]?=aa [nl]:=i8 _ _ y3 ai;have v4:(Hf.fc H6.loops.length {rec with state:=.exhausted}).boxes[h.boxes.length+4]?=aa [im 0]:=i8 _ _ y4 ai;have Fb:h.loops.length<=H6.loops.length:=x6.FT;have XF:Ext h (Hf.fc H6.loops.length {rec with state:=.exhausted}):=((Fr.DK (bn:=h.boxes.length) (l0:=h.loops.length) (n0:=h.tn) i6 (aL _)).trans (.fc Fb _)).ext (aL _) (aL _) (aL _);generalize Hf.fc H6.loops.length {rec with state:=.exhausted}=HF at *
  have g3:=(aW.1 v3).1;have lA:aI aq Gt HF 23 (.ptr (.box (h.boxes.length+6)) 0)=aa (.list t s (ints (bad l.length))):=cQ mj v6 rfl;have sA:cE aq HF 23 (.ptr (.box (h.boxes.length+3)) 0) (.list t s (ints (bad l.length)))=aa (HF.put (h.boxes.length+3) [.list t s (ints (bad l.length))]):=
   fK (off:=0) (cs:=[nl]) (xs:=[.list t s (ints (bad l.length))]) rfl iA v3 rfl (aL 1)
  obtain⟨HG,HO⟩:∃HG,HF.put (h.boxes.length+3) [.list t s (ints (bad l.length))]=HG:=⟨_,rfl⟩;have v3':HG.boxes[h.boxes.length+3]?=aa [.list t s (ints (bad l.length))]:=by rw[<-HO];exact eO g3
  have v4':HG.boxes[h.boxes.length+4]?=aa [im 0]:=by rw[<-HO,dh ai];exact v4
  have XG:Ext h HG:=by rw[<-HO];exact XF.fZ ai _
  rw[HO] at sA;have sB:cE aq HG 32 (.ptr (.box (h.boxes.length+4)) 0) (im 0)=aa HG:=by rw[fK (off:=0) (cs:=[im 0]) (xs:=[im 0]) rfl JM v4' rfl (aL 1)];exact congrArg aa (oB v4')
  have lR:aI aq Gt HG 23 (.ptr (.box (h.boxes.length+3)) 0)=aa (.list t s (ints (bad l.length))):=cQ mj v3' rfl;have lE:aI aq Gt HG 32 (.ptr (.box (h.boxes.length+4)) 0)=aa (im 0):=cQ zo v4' rfl;have fI:=ao.mk (az XG i3);clear i1 i2 i3 i4 i5 i6 i7 i8 c1 y0 y1 y2 y3 y4 j6 j7 j8 j9 x6 XL Di iu Qv hp hz Rj w1 w2 w3 w4 w5 w6 v3 v4 v6 v3' v4' XG XF HO g3;unfold im at *
  refine bQ @Jy @KM ?_;exact⟨_,_,rfl,fI.out.1,_,by rw[kr.out],by rw[kr.out];exact⟨t,s,rfl,λq=>fI.out.2.resolve_right λz=>q z.1⟩⟩
end Go.Proofs.YtnfciiiohoafaaaGreatDoor
end
