/-
  Part of the proof: XH.
-/
import Derived.Test.YtnfciiiohoafaaaGreatDoorXG
import Derived.Test.YtnfciiiohoafaaaGreatDoorXF
open Option renaming some->aa,map_eq_some_iff->dN,map_some->ft,none_or->aeB
open Go.Proofs.Tryz renaming underlying23->dY,prog->aq,underlying29->wg,underlying22->jf,underlying94->qD
open Bool renaming true->ah,false->aB,and_eq_true->bI,true_and->rT,not_true->JV,false_eq_true->kj,and_true->Gz
open Nat renaming zero_le->cD,le_refl->aL,reduceEqDiff->aS,le_succ->He,lt_irrefl->Hg,le_of_ble_eq_true->jS,lt_or_ge->ez
open List renaming getElem?_eq_getElem->aU,mem_of_getElem?->dy,take_length->fN,getElem?_map->ey,length_map->bF,length_take->fm,map_append->mY,length_pos_iff->N2,getElem?_eq_some_iff->aW,mem_cons->iU,not_mem_nil->xC,take_succ_cons->iV,take_zero->gF,drop_eq_getElem_cons->y6,foldl_append->oI,ext_getElem?->rW,getElem?_eq_none->u7,map_cons->eL,mem_cons_self->gq,mem_cons_of_mem->fM,flatMap_cons->NX,filter_cons->B1,mem_range->gf,range->bO,all_eq_true->eK,range_succ->nD,getElem_map->qx,filter_append->y7,filter_eq_nil_iff->adV,length_set->mJ,mem_of_mem_take->pY,getElem_mem->iK,find?_append->NW,find?_cons->adW,getD_eq_getElem?_getD->eE
open And renaming intro->az
open Go renaming FuncId->bq
open Int renaming toNat_natCast->dW
set_option maxHeartbeats 64000000
set_option maxRecDepth 100000
set_option linter.unusedSimpArgs false
set_option linter.unusedVariables false
set_option linter.constructorNameAsVariable false
set_option linter.defProp false
section
namespace Go.Proofs.YtnfciiiohoafaaaGreatDoor
open Go.AE Go.NT
def as4:Tryz.f62.results.toList=[.tmp 4]:=by kernel_rfl
def as8:Tryz.f73.results.toList=[.tmp 4]:=by kernel_rfl
def asL:Tryz.f175.results.toList=[.tmp 4]:=by kernel_rfl
def MA:Tryz.f141.results.toList=[.tmp 4]:=by kernel_rfl
def Gb:Tryz.f162.results.toList=[.tmp 2]:=by kernel_rfl
def S5:Tryz.f64.results.toList=[.tmp 2]:=by kernel_rfl
def xm:Tryz.f47.results.toList=[.tmp 2]:=by kernel_rfl
def apF(x n)(h):W6.call 62 [im x,im n] h=aa (.ret (im (fH x n)),h):=by
 have c:=λh=>abq x n h;unfold im at *
 refine cN rfl Tryz.func62 rfl ?_;exact lV @as4
def apD(x n)(h):W6.call 175 [im x,im n] h=aa (.ret (im (fH x n)),h):=by
 have c:=λh=>abq x n h;unfold im at *
 refine cN rfl Tryz.func175 rfl ?_;exact lV @asL
def av2(x n)(h):W6.call 73 [im x,im n] h=aa (.ret (im (jL x n)),h):=by
 have c:=λh=>abp x n h;unfold im at *
 refine cN rfl Tryz.func73 rfl ?_;exact lV @as8
def aio(h:ar)(x y z:AV)(ae:List (List Int))(ag aj:List Int)(hx:RL x ae)(hy:IL y ag)(hz:IL z aj)(hl:aj.length<=1000000):
 ∃r h',W6.call 141 [.agg [x,y],z] h=aa (r,h')/\h'=h.push [x,y]/\r=.ret (.v (.bool (aj.all bN&&decide (aj.length=bP ae)))):=by
 have bx:=tU hx hy;have c1:=Wn x y ae ag hx hy;have l0:=uM (bg h [x,y]);have hv:=λn=>Th n;obtain⟨k,s,rfl,hs⟩:=hz;have ks:=ao.mk hs;clear hs hx hy;have u23:=dY;have z3:=fR;have cY:=dE aj;obtain⟨H0,hH⟩:∃H0,h.push [x,y]=H0:=⟨_,rfl⟩;rw[hH] at l0;rw[hH];unfold im at c1 hv;refine di rfl Tryz.func141 rfl ?_;refine cX @MA @bu @hH ?_;refine bM.gen λe0 aG bE cZ cV=>?_;have f1:e0.get 1=.list k s (ints aj):=by rw[aG];exact gS
 have f2:e0.get 2=.ptr (.box h.boxes.length) 0:=by rw[aG];exact gS
 have f5:e0.get 5=.v (.int .i64 (0:Nat)):=by rw[aG];exact gR
 have fd:e0.defers=[]:=by rw[bE];exact gS
 clear aG bE cZ cV bx;refine cH (λm e H=>∃i:Nat,i<=aj.length/\m=aj.length - i/\ao ((aj.take i).all bN=ah)/\e.get 1=.list k s (ints aj)/\e.get 2=.ptr (.box h.boxes.length) 0/\e.get 5=.v (.int .i64 (i:Nat))/\e.defers=[]/\H=H0) ?_ aj.length _ _ ?_;rotate_left 1
 ·exact⟨0,cD _,rfl,⟨bJ⟩,f1,f2,f5,fd,rfl⟩
 clear f1 f2 f5 fd;rintro m e H ⟨i,hi,rfl,ka,g1,g2,g5,hd,rfl⟩;by_cases aC:i<aj.length
 ·have bD:s=1:=ks.out (by intro q;rw[q] at aC;simp at aC);subst bD;have ld:=ev (H:=H) (s:=1) aC;have oz:aj[i]?=aa (al aj i):=by rw[aU aC,fB aC]
  have fw:(i:Int)<(aj.length:Int):=by omega
  have cv:=hv (al aj i);have mn:(aj.take (i+1)).all bN=bN (al aj i):=by rw[fE oz,List.all_append,ka.out];simp
  have kt:=ao.mk (az mn (dy oz));clear mn oz hv;generalize al aj i=n at *
  cases hq:bN n with
  |false=>rw[hq] at cv;have kf:ao (aj.all bN=aB):=⟨by rw[List.all_eq_false];exact⟨n,kt.out.2,by rw[hq];simp⟩⟩;clear hq;refine bQ @MA @bp ?_;exact⟨_,_,rfl,rfl,by rw[kf.out];rfl⟩
  |true=>rw[hq] at cv;have kt2:ao ((aj.take (i+1)).all bN=ah):=⟨kt.out.1.trans hq⟩;clear hq;refine bQ @MA @bp ?_;exact⟨aj.length - (i+1),by omega,i+1,by omega,rfl,kt2,by simp⟩
 ·have:i=aj.length:=by omega
  subst this;have:=ka.out;rw[fN] at this;have kan:=ao.mk this;have CW:decide ((aj.length:Int)=(bP ae:Int))=decide (aj.length=bP ae):=by rw[decide_eq_decide];omega
  have kd:=ao.mk CW;clear this hv CW;generalize decide (aj.length=bP ae)=dd at *
  refine bC @MA ?_;exact⟨_,_,rfl,rfl,by rw[kan.out,kd.out];rfl⟩
def w8(p:Pr):Bool:=decide (0<=p.aA)&&decide (p.aA<64)&&decide (0<=p.no)&&decide (p.no<4096)&&bN p.d&&bN p.e
def aoJ(h:ar)(p:Pr):∃h',W6.call 162 [.agg (cq p)] h=aa (.ret (.v (.bool (w8 p))),h')/\h'=h.push (cq p):=by
 have bx:(AV.agg (cq p)).cd=aa (cq p):=rfl;have b0:=bg h (cq p);have l0:aI aq Gt (h.push (cq p)) 3 (.ptr (.box h.boxes.length) 0)=aa (.v (.int .i64 p.aA)):=cQ fh b0 rfl;have l1:aI aq Gt (h.push (cq p)) 3 (.ptr (.box h.boxes.length) 1)=aa (.v (.int .i64 p.no)):=cQ fh b0 rfl;have l2:aI aq Gt (h.push (cq p)) 3 (.ptr (.box h.boxes.length) 2)=aa (.v (.int .i64 p.d)):=cQ fh b0 rfl;have l3:aI aq Gt (h.push (cq p)) 3 (.ptr (.box h.boxes.length) 3)=aa (.v (.int .i64 p.e)):=cQ fh b0 rfl;have c1:=λh=>Th p.d h;have c2:=λh=>Th p.e h;have kv:ao (w8 p=(decide (0<=p.aA)&&decide (p.aA<64)&&decide (0<=p.no)&&decide (p.no<4096)&&bN p.d&&bN p.e)):=⟨rfl⟩;obtain⟨H,hH⟩:∃H,h.push (cq p)=H:=⟨_,rfl⟩;rw[hH] at l0 l1 l2 l3;rw[hH];generalize w8 p=res at *
 unfold im at c1 c2;clear b0;generalize cq p=row at *
 obtain⟨a,b,c,d⟩:=p;dsimp only at *
 refine iD rfl Tryz.func162 rfl ?_;by_cases h1:0<=a;rotate_left 1
 ·have hf:res=aB:=by rw[kv.out];simp[h1]
  have eM:decide (0<=a)=aB:=cS h1;clear h1 kv;subst hf;refine bK @Gb @bu @hH @jg ?_;exact⟨_,rfl,rfl⟩
 have eM:decide (0<=a)=ah:=b8 h1;by_cases h2:a<64;rotate_left 1
 ·have hf:res=aB:=by rw[kv.out];simp[h2]
  have iF:decide (a<64)=aB:=cS h2;clear h1 h2 kv;subst hf;refine bK @Gb @bu @hH @jg ?_;exact⟨_,rfl,rfl⟩
 have iF:decide (a<64)=ah:=b8 h2;by_cases h3:0<=b;rotate_left 1
 ·have hf:res=aB:=by rw[kv.out];simp[h3]
  have uA:decide (0<=b)=aB:=cS h3;clear h1 h2 h3 kv;subst hf;refine bK @Gb @bu @hH @jg ?_;exact⟨_,rfl,rfl⟩
 have uA:decide (0<=b)=ah:=b8 h3;by_cases h4:b<4096;rotate_left 1
 ·have hf:res=aB:=by rw[kv.out];simp[h4]
  have qM:decide (b<4096)=aB:=cS h4;clear h1 h2 h3 h4 kv;subst hf;refine bK @Gb @bu @hH @jg ?_;exact⟨_,rfl,rfl⟩
 have qM:decide (b<4096)=ah:=b8 h4;have kv2:ao (res=(bN c&&bN d)):=⟨by rw[kv.out,eM,iF,uA,qM];rfl⟩;clear h1 h2 h3 h4 kv;cases hq:bN c with
 |false=>
  rw[hq] at c1;have hf:res=aB:=by rw[kv2.out,hq];rfl
  subst hf;clear hq kv2;refine bK @Gb @bu @hH @jg ?_;exact⟨_,rfl,rfl⟩
 |true=>
  rw[hq] at c1;have hf:res=bN d:=by rw[kv2.out,hq];rfl
  subst hf;clear hq kv2;refine bK @Gb @bu @hH @jg ?_;exact⟨_,rfl,rfl⟩
def oc:(∀s ae i,gH aq 85 (.elem s ae i 0) 0=aa (.elem s ae i 0))/\(∀s ae i,gH aq 85 (.elem s ae i 0) 1=aa (.elem s ae i 1))/\(∀s ae i,gH aq 85 (.elem s ae i 0) 2=aa (.elem s ae i 2))/\∀s ae i,gH aq 85 (.elem s ae i 0) 3=aa (.elem s ae i 3):=
 ⟨λ_ _ _=>by kernel_rfl,λ_ _ _=>by kernel_rfl,λ_ _ _=>by kernel_rfl,λ_ _ _=>by kernel_rfl⟩
def BA{l}{i s}{p}(h:l[i]?=aa p):(∀H:ar,aI aq Gt H 3 (.elem s (eY l) i 0)=aa (.v (.int .i64 p.aA)))/\(∀H:ar,aI aq Gt H 3 (.elem s (eY l) i 1)=aa (.v (.int .i64 p.no)))/\(∀H:ar,aI aq Gt H 3 (.elem s (eY l) i 2)=aa (.v (.int .i64 p.d)))/\∀H:ar,aI aq Gt H 3 (.elem s (eY l) i 3)=aa (.v (.int .i64 p.e)):=by
 have hr:(eY l)[i]?=aa (cq p):=by unfold eY;rw[ey,h];rfl
 refine⟨λH=>?_,λH=>?_,λH=>?_,λH=>?_⟩<;>(rw[sI fh hr];rfl)
def amK(h:ar)(bB:cK h=ah)(x:AV)(l:List Pr)(hx:PL x l)(hl:l.length<=1000000):
 ∃r h',W6.call 64 [x] h=aa (r,h')/\∃t,r=.ret (.list t 1 (ints (l.map Pr.aA))):=by
 obtain⟨k,s,rfl,hs⟩:=hx;have ks:=ao.mk hs;clear hs;have u29:=wg;have u23:=dY;have z85:=sT;have cY:=vK l;have bn:gG aq 23 0 []=aa (.list .tight 1 []):=by kernel_rfl
 have kok:=ao.mk bB;refine di rfl Tryz.func64 rfl ?_;refine bC @S5 ?_;refine cH (λm e H=>∃(i:Nat) (t:Tok),i<=l.length/\m=l.length - i/\ao (du h.tn H t/\cK H=ah/\h.tn<=H.tn)/\e.get 0=.list k s (eY l)/\e.get 3=.list t 1 (ints ((l.take i).map Pr.aA))/\e.get 4=.v (.int .i64 (i:Nat))/\e.defers=[]) ?_ l.length _ _ ?_;rotate_left 1
 ·refine⟨0,.tight,cD _,rfl,⟨.inr (.inl rfl),kok.out,aL _⟩,?_,?_,?_,?_⟩<;>first|(simp only[gW,reduceIte,aS,aO];done)|(exact gR)
 rintro m e H ⟨i,t,hi,rfl,kc,g0,g3,g4,hd⟩;by_cases aC:i<l.length
 ·have bD:s=4:=ks.out (by intro q;rw[q] at aC;simp at aC);subst bD;obtain⟨p,hp⟩:∃p,l[i]?=aa p:=⟨_,aU aC⟩;obtain⟨ld,-⟩:=BA (s:=4) hp;have bl:=pq p.aA;have ap:=tf (H:=H) (x:=p.aA) (es:=(l.take i).map Pr.aA) (sz:=1) (show((l.take i).map Pr.aA).length<1099511627776 by rw[bF,fm];omega) (.inl rfl) kc.out.1;have jQ:((l.take i).map Pr.aA)++[p.aA]=(l.take (i+1)).map Pr.aA:=by rw[fE hp,mY];rfl
  rw[jQ] at ap;have kc2:ao (du h.tn (H.app t) (.free H.tn)/\cK (H.app t)=ah/\h.tn<=(H.app t).tn):=⟨O0 kc.out.1 kc.out.2.1 kc.out.2.2,EH kc.out.2.1 kc.out.1,by rw[EI];have:=kc.out.2.2;omega⟩;have fw:(i:Int)<(l.length:Int):=by omega
  clear hp jQ kc;refine cX @S5 @bp @oc ?_;exact⟨l.length - (i+1),by omega,i+1,_,by omega,rfl,kc2,by simp⟩
 ·have:i=l.length:=by omega
  subst this;rw[fN] at g3;refine bC @S5 ?_;exact⟨_,_,rfl,t,rfl⟩
def ajH(h:ar)(x y:AV)(ae:List (List Int))(ag:List Int)(hx:RL x ae)(hy:IL y ag):
 ∃r h',W6.call 47 [.agg [x,y]] h=aa (r,h')/\h'=h.push [x,y]/\∃b,r=.ret (.v (.bool b))/\(b=ah->ae.length<=80/\ag.length<=80):=by
 have bx:=tU hx hy;have l0:=qS (bg h [x,y]);have l1:=DC (bg h [x,y]);obtain⟨k,s,xs,rfl,hs,dR,eG⟩:=hx;obtain⟨ky,sy,rfl,lj⟩:=hy;have kk:=ao.mk (az hs eG);clear hs eG lj;have u23:=dY;have u22:=jf;have z23:=iA;have cY:(xs.map λa=>[a]).length=ae.length:=by rw[bF];exact dR
 have QH:=dE ag;obtain⟨H0,hH⟩:∃H0,h.push [.list k s (xs.map λa=>[a]),.list ky sy (ints ag)]=H0:=⟨_,rfl⟩;rw[hH] at l0 l1;rw[hH];refine di rfl Tryz.func47 rfl ?_;by_cases q3:80<ae.length
 ·have q3I:(80:Int)<(ae.length:Int):=by omega
  have q1I:(16:Int)<(ae.length:Int):=by omega
  have q2I:¬(ae.length:Int)<=64:=by omega
  clear q3;refine bK @xm @bu @hH (az @dK @eQ) ?_;exact⟨_,_,rfl,rfl,aB,rfl,λq=>by cases q⟩
 by_cases q4:80<ag.length
 ·have q4I:(80:Int)<(ag.length:Int):=by omega
  have q3I:¬(80:Int)<(ae.length:Int):=by omega
  by_cases q1:16<ae.length
  ·have q1I:(16:Int)<(ae.length:Int):=(by omega);by_cases q2:ae.length<=64
   ·have q2I:(ae.length:Int)<=64:=(by omega);clear q1 q2 q3 q4;refine bK @xm @bu @hH (az @dK @eQ) ?_;exact⟨_,_,rfl,rfl,aB,rfl,λq=>by cases q⟩
   ·have q2I:¬(ae.length:Int)<=64:=(by omega);clear q1 q2 q3 q4;refine bK @xm @bu @hH (az @dK @eQ) ?_;exact⟨_,_,rfl,rfl,aB,rfl,λq=>by cases q⟩
  ·have q1I:¬(16:Int)<(ae.length:Int):=(by omega);clear q1 q3 q4;refine bK @xm @bu @hH (az @dK @eQ) ?_;exact⟨_,_,rfl,rfl,aB,rfl,λq=>by cases q⟩
 have kq:ao (ae.length<=80/\ag.length<=80):=⟨ai,by omega⟩;have cU:ae.length<=80:=by omega
 have q3I:¬(80:Int)<(ae.length:Int):=by omega
 have q4I:¬(80:Int)<(ag.length:Int):=by omega
 have key:(16<ae.length/\ae.length<=64)∨¬(16:Int)<(ae.length:Int)∨((16:Int)<(ae.length:Int)/\¬(ae.length:Int)<=64):=by omega
 rcases key with⟨q1,q2⟩|key
 ·have q1I:(16:Int)<(ae.length:Int):=by omega
  have q2I:(ae.length:Int)<=64:=by omega
  clear q1 q2 q3 q4;refine bK @xm @bu @hH (az @dK @eQ) ?_;exact⟨_,_,rfl,rfl,aB,rfl,λq=>by cases q⟩
 clear q3 q4;rcases key with q1I|⟨q1I,q2I⟩
 all_goals
  refine bK @xm @bu @hH (az @dK @eQ) ?_;refine bM.gen λe0 aG bE cZ cV=>?_;have f1:e0.get 1=.ptr (.box h.boxes.length) 0:=by rw[aG];exact gS
  have f3:e0.get 3=.v (.int .i64 (0:Nat)):=by rw[aG];exact gR
  have fd:e0.defers=[]:=by rw[bE];exact gS
  clear aG bE cZ cV bx l1 q1I q3I q4I hH
  try clear q2I
  refine cH (λm e H=>∃i:Nat,i<=ae.length/\m=ae.length - i/\e.get 1=.ptr (.box h.boxes.length) 0/\e.get 3=.v (.int .i64 (i:Nat))/\e.defers=[]/\H=H0) ?_ ae.length _ _ ?_;rotate_left 1
  ·exact⟨0,cD _,rfl,f1,f3,fd,rfl⟩
  clear f1 f3 fd;rintro m e H ⟨i,hi,rfl,g1,g3,hd,rfl⟩;by_cases aC:i<ae.length
  ·have bD:s=1:=kk.out.1 (by intro q;rw[q] at aC;simp at aC);subst bD;obtain⟨a,fS⟩:∃a,xs[i]?=aa a:=⟨_,aU ai⟩;obtain⟨r,hv⟩:∃r,ae[i]?=aa r:=⟨_,aU aC⟩;have ld:=mf (H:=H) (s:=1) fS;obtain⟨ka,sa,rfl,jj⟩:=kk.out.2 i a r fS hv;have wP:=dE r;have fw:(i:Int)<(ae.length:Int):=(by omega);clear fS hv jj;by_cases p1:(16:Int)<(r.length:Int)
   ·by_cases p2:(r.length:Int)<=64
    ·refine bK @xm @dK @eQ @bp ?_;exact⟨_,_,rfl,rfl,aB,rfl,λq=>by cases q⟩
    ·by_cases p3:(80:Int)<(r.length:Int)
     ·refine bK @xm @dK @eQ @bp ?_;exact⟨_,_,rfl,rfl,aB,rfl,λq=>by cases q⟩
     ·refine bK @xm @dK @eQ @bp ?_;exact⟨ae.length - (i+1),by omega,i+1,by omega,rfl,by simp⟩
   ·have p3:¬(80:Int)<(r.length:Int):=(by omega);refine bK @xm @dK @eQ @bp ?_;exact⟨ae.length - (i+1),by omega,i+1,by omega,rfl,by simp⟩
  ·have:i=ae.length:=(by omega);subst this;refine cX @xm @dK @eQ ?_;exact⟨_,_,rfl,rfl,ah,rfl,λ_=>⟨by first|trivial|omega,kq.out.2⟩⟩
def MF:Tryz.f165.results.toList=[.cell 2 96]:=by kernel_rfl
def Vw:nH aq 96 [(0,.v (.int .i64 3))]=aa (.agg (aM 3 0 [] .nil 0 [])):=by kernel_rfl
def fO(n:Int):List AV:=aM 1 n [] .nil 0 []
def acu{H:ar}{r}(hr:(AV.agg r).cd=aa r)(hl:r.length=4):cE aq (H.push (aM 0 0 [] .nil 0 [])) 96 (.ptr (.box H.boxes.length) 0) (.agg r)=aa (H.push r):=lq hr qW hl rfl
def ZZ{H:ar}{b}{r}(hl:r.length=4)(hb:b<H.boxes.length):aI aq Gt (H.put b r) 96 (.ptr (.box b) 0)=aa (.agg r):=qT hl (eO hb)
def acs{H}{b}{z r}(hz:H.boxes[b]?=aa z)(mo:z.length=4)(hr:(AV.agg r).cd=aa r)(hl:r.length=4):cE aq H 96 (.ptr (.box b) 0) (.agg r)=aa (H.put b r):=by rw[fK hr qW hz hl ai,xo ai]
def amu(h:ar)(bB:cK h=ah)(k:Tok)(l:List Int)(hl:l.length<=1000)(bG:l≠[])(hb:∀n∈l,0<=n/\n<=4611686018427387903):
 ∃r h',W6.call 165 [.list k 1 (ints l)] h=aa (r,h')/\∃n,r=.ret (.agg (aM 3 0 [] (.free n) 4 (l.map fO))):=by
 have z:=yQ;have bd:=Vw;have u23:=dY;have u94:=qD;have z3:=fR;have cY:=dE l;have s1:=acu (H:=h.push (aM 0 0 [] .nil 0 [])) (r:=aM 3 0 [] .nil 0 []) rfl rfl;have pG:(h.push (aM 0 0 [] .nil 0 [])).boxes.length=h.boxes.length+1:=cR _ _;have G0:rk h ((h.push (aM 0 0 [] .nil 0 [])).push (aM 3 0 [] .nil 0 [])) (h.boxes.length+1) ((l.map Vl.int).take 0) .nil 0 []:=⟨by rw[<-pG];exact bg _ _,.inl rfl,bB,(Ext.push _ _).trans (.push _ _),He _,⟨rfl,λi v r q=>by simp at q⟩,λq=>absurd rfl q,λ_=>.inr rfl,rfl⟩;have B0:((h.push (aM 0 0 [] .nil 0 [])).push (aM 3 0 [] .nil 0 [])).boxes[h.boxes.length]?=aa (aM 0 0 [] .nil 0 []):=bh (bg _ _);have kG0:=ao.mk (az G0 B0);rw[pG] at s1;clear G0 B0;have kb:=ao.mk (az hb bG);clear hb bG;obtain⟨H0,hH⟩:∃H0,(h.push (aM 0 0 [] .nil 0 [])).push (aM 3 0 [] .nil 0 [])=H0:=⟨_,rfl⟩;rw[hH] at s1 kG0;refine di rfl Tryz.func165 rfl ?_;refine cX @MF @bu @lN ?_;refine bM.gen λe0 aG bE cZ cV=>?_;have f0:e0.get 0=.list k 1 (ints l):=by rw[aG];exact gS
 have f2:e0.get 2=.ptr (.box h.boxes.length) 0:=by rw[aG];exact gS
 have f3:e0.get 3=.ptr (.box (h.boxes.length+1)) 0:=by rw[aG];simp only[gW,reduceIte,aS,aO,cR]
 have f4:e0.get 4=.v (.int .i64 (0:Nat)):=by rw[aG];exact gR
 have fd:e0.defers=[]:=by rw[bE];exact gS
 clear aG bE cZ cV s1 hH z bd;refine cH (λm e H=>∃(i:Nat) (t:Tok) (sz:Nat),i<=l.length/\m=l.length - i/\ao (rk h H (h.boxes.length+1) ((l.map Vl.int).take i) t sz ((l.take i).map fO)/\H.boxes[h.boxes.length]?=aa (aM 0 0 [] .nil 0 []))/\ao (0<i->(∃n,t=.free n)/\sz=4)/\e.get 0=.list k 1 (ints l)/\e.get 2=.ptr (.box h.boxes.length) 0/\e.get 3=.ptr (.box (h.boxes.length+1)) 0/\e.get 4=.v (.int .i64 (i:Nat))/\e.defers=[]) ?_ l.length _ _ ?_;rotate_left 1
 ·exact⟨0,.nil,0,cD _,rfl,kG0,⟨λq=>absurd q (Hg _)⟩,f0,f2,f3,f4,fd⟩
 clear f0 f2 f3 f4 fd kG0;rintro m e H ⟨i,t,sz,hi,rfl,kG,kN,g0,g2,g3,g4,hd⟩;by_cases aC:i<l.length
 ·have hv:l[i]?=aa (al l i):=by rw[aU aC,fB aC]
  have iY:dm (.int (al l i)) (fO (al l i)):=.int _ (kb.out.1 _ (dy hv));have ld:=ev (H:=H) (s:=1) aC;have c:=λH=>Mq (al l i) H;have cU:((l.take i).map fO).length<1000000:=by rw[bF,fm];omega
  have l3:=oW kG.out.1.box;have ap:=Co (r:=fO (al l i)) cU kG.out.1.four kG.out.1.nil kG.out.1.can;have bl:=Cs (r:=fO (al l i)) rfl rfl;have st:=DY (H:=H.app t) (t2:=.free H.tn) (sz2:=4) (rows2:=(l.take i).map fO++[fO (al l i)]) (by rw[eC];exact kG.out.1.box);have G2:=kG.out.1.put iY rfl;have e1:(l.take i).map fO++[fO (al l i)]=(l.take (i+1)).map fO:=by rw[fE hv,mY];rfl
  have e2:(l.map Vl.int).take i++[Vl.int (al l i)]=(l.map Vl.int).take (i+1):=by rw[fE (x:=Vl.int (al l i)) (by rw[ey,hv];rfl)]
  rw[e1,e2] at G2;rw[e1] at ap st;have kG2:ao (rk h ((H.app t).put (h.boxes.length+1) (aM 3 0 [] (.free H.tn) 4 ((l.take (i+1)).map fO))) (h.boxes.length+1) ((l.map Vl.int).take (i+1)) (.free H.tn) 4 ((l.take (i+1)).map fO)/\((H.app t).put (h.boxes.length+1) (aM 3 0 [] (.free H.tn) 4 ((l.take (i+1)).map fO))).boxes[h.boxes.length]?=aa (aM 0 0 [] .nil 0 [])):=⟨G2,by rw[dh ai,eC];exact kG.out.2⟩;have kN2:ao (0<i+1->(∃n,Tok.free H.tn=.free n)/\4=4):=⟨λ_=>⟨⟨_,rfl⟩,rfl⟩⟩;have fw:(i:Int)<(l.length:Int):=by omega
  have irw:aM 1 (al l i) [] .nil 0 []=fO (al l i):=rfl;rw[irw] at c;clear G2 e1 e2 hv iY cU kG kN irw;generalize fO (al l i)=r at *
  generalize al l i=n at *
  unfold im at *
  refine cX @MF @gg @bp ?_
  repeat' (first|simp(maxSteps:=999999)(disch:=first|exact dZ|fail)only[gW,reduceIte,aS,aO,MF,gg,bp, *]|(refine dX ?_ ?_<;>(intro _;try omega))|refine eJ Hy jr ?_)
  exact⟨l.length - (i+1),by omega,i+1,.free H.tn,4,by omega,rfl,(by first|exact kG2|trivial),(by first|exact kN2|trivial),by simp⟩
 ·have gx:i=l.length:=by omega
  subst gx;obtain⟨⟨n,rfl⟩,rfl⟩:=kN.out (N2.2 kb.out.2);have hG:=kG.out.1;rw[fN] at hG;have ld:=qT (r:=aM 3 0 [] (.free n) 4 (l.map fO)) rfl hG.box;have st:=acs (r:=aM 3 0 [] (.free n) 4 (l.map fO)) kG.out.2 rfl rfl rfl;have ll:=ZZ (H:=H) (r:=aM 3 0 [] (.free n) 4 (l.map fO)) rfl (aW.1 kG.out.2).1;clear hG kG kN;refine bC @MF ?_;exact⟨_,_,rfl,n,rfl⟩
def L7:List bq:=L6++[37,38,39,85,15,47,141,162,64,62,73,19,175,191,58,60,165,95]
noncomputable def Mi:bq->Option (List AV->ar->Option (AV × ar)):=qG W6 L7
noncomputable abbrev W7:=whole aq Gt Mi
def AW:qu Mi L7:=xU
section
variable (R:Rec) (L:List bq)
noncomputable def up:Rec:=whole aq Gt (qG R L)
def Eh:Prop:=∀n h,R.call 120 [im n] h=aa (.ret (.agg (fO n)),h)
def El:Prop:=∀s h,R.call 121 [sv s] h=aa (.ret (.agg (aM 2 0 s .nil 0 [])),h)
def Eg:Prop:=∀(bA b:List UInt8) (k:Tok),b.length<=1099511610000->bA.length<=1099511610000->∀h,R.call 123 [.v (.string (bs bA)),.list k 1 (bf b)] h=aa (.ret (im (nj (gO bA b):Nat)),h)
def Ee:Prop:=∀(v:Vl) (r:List AV),dm v r->gQ v<=16->(dU v).length<=1099511600000->∃t,∀h,R.call 118 [.agg r] h=aa (.ret (.tuple [.list t 1 (bf (dU v)),.v (.int .i64 0)]),h)
def Ei:Prop:=∀(l:List Vl) (ae:List (List AV)),oL l ae->fj ae=ae->∀k:Tok,ae.length<=1000000->∀h,R.call 119 [.list k 4 ae] h=aa (.ret (.agg (aM 3 0 [] (bX k) 4 ae)),h)
def xx(g:bq):Prop:=∀x n h,R.call g [im x,im n] h=aa (.ret (im (fH x n)),h)
def AB(g:bq):Prop:=∀x n h,R.call g [im x,im n] h=aa (.ret (im (jL x n)),h)
def NC(g:bq):Prop:=∀x n h,R.call g [im x,im n] h=aa (.ret (im (dj x n)),h)
def NG(g:bq):Prop:=∀x n h,R.call g [im x,im n] h=aa (.ret (im (df x n)),h)
def NK(g:bq):Prop:=∀x h,R.call g [im x] h=aa (.ret (.v (.bool (bN x))),h)
def GG:Prop:=∀p h,R.call 162 [.agg (cq p)] h=aa (.ret (.v (.bool (w8 p))),h)
def AA:Prop:=∀x l,PL x l->l.length<=1000000->∃X,IL X (l.map Pr.aA)/\∀h,R.call 64 [x] h=aa (.ret X,h)
def Ax:Prop:=∀x y ae ag,RL x ae->IL y ag->ae.length<=1000000->∀h,R.call 115 [.agg [x,y]] h=aa (.ret (im (de ae ag)),h)
def xw:Prop:=∀x y z ae ag au,RL x ae->IL y ag->IL z au->ae.length<=1000000->au.length<=1099511627776->
 (∃e,fV ae ag au=([],aB,e)/\∀h,R.call 63 [.agg [x,y],z] h=aa (.ret (.tuple [.list .nil 0 [],.v (.bool aB),.v (.int .i64 e)]),h))∨
 ∃l,fV ae ag au=(l,ah,0)/\l.length=ae.length/\∀h,R.call 63 [.agg [x,y],z] h=aa (.ret (.tuple [.list .held 1 (ints l),.v (.bool ah),.v (.int .i64 0)]),h)
def GC:Prop:=∀x y z ae ag aj,RL x ae->IL y ag->IL z aj->aj.length<=1000000->∀h,R.call 141 [.agg [x,y],z] h=aa (.ret (.v (.bool (aj.all bN&&decide (aj.length=bP ae)))),h)
def JW:Prop:=∀x y ae ag,RL x ae->IL y ag->∃b,(b=ah->ae.length<=80/\ag.length<=80)/\∀h,R.call 47 [.agg [x,y]] h=aa (.ret (.v (.bool b)),h)
def JX:Prop:=∀(k:Tok) (l:List Int),l.length<=1000->l≠[]->(∀n∈l,0<=n/\n<=4611686018427387903)->∀h,R.call 165 [.list k 1 (ints l)] h=aa (.ret (.agg (aM 3 0 [] .held 4 (l.map fO))),h)
def AF(g:bq):Prop:=∀x y a b,IL x a->IL y b->a.length<=1000000->b.length<=1000000->∀h,R.call g [x,y] h=aa (.ret (.v (.bool (decide (a=b)))),h)
end
section
variable {R:Rec} {L:List bq}
def PL.fD{x}{l}(h:PL x l):PL (aD x) l/\aK 0 0 0 (aD x)=ah:=by
 obtain⟨k,s,rfl,hs⟩:=h;have h1:∀l:List Pr,fj (eY l)=eY l:=λl=>by
  induction l with
  |nil=>rfl|cons p l ih=>show bZ (cq p)::fj (eY l)=_;rw[ih];rfl
 have h2:∀l:List Pr,ie 0 0 0 (eY l)=ah:=λl=>by
  induction l with
  |nil=>rfl|cons p l ih=>show(aR 0 0 0 (cq p)&&ie 0 0 0 (eY l))=ah;rw[ih];rfl
 rw[aD,h1];exact⟨⟨bX k,s,rfl,hs⟩,by rw[aK,fx,h2];rfl⟩
def Eh.up(hg:L.contains 120=ah)(c:Eh R):Eh (up R L):=λn=>bm hg rfl rfl (c n _) rfl rfl
def El.up(hg:L.contains 121=ah)(c:El R):El (up R L):=λs=>bm hg rfl rfl (c s _) rfl rfl
def Eg.up(hg:L.contains 123=ah)(c:Eg R):Eg (up R L):=λbA b k hb ht=>
 bm (b7:=[.v (.string (bs bA)),.list (bX k) 1 (bf b)]) hg (by rw[bZ,bZ,aD.eq_1,qO];rfl) (by simp[aR,aK,fx,kL]) (c bA b _ hb ht _) rfl rfl
def Ee.up(hg:L.contains 118=ah)(c:Ee R):Ee (up R L):=λv r hv hd hl=>by obtain⟨h1,h2⟩:=dm.hold v r hv;obtain⟨t,c⟩:=c v _ h1 hd hl;exact⟨bX t,bm (b7:=[.agg (bZ r)]) hg rfl (by simpa [aR,aK] using h2) (c _) rfl (by simp[aK,aR,fx,kL])⟩
def Ei.up(hg:L.contains 119=ah)(c:Ei R):Ei (up R L):=λl ae hr hh k hm=>by
 have hv:dm (.list l) (aM 3 0 [] k 4 ae):=.list l k 4 ae hr.1 (λ_=>rfl) hm hr.2;obtain⟨h1,h2⟩:=dm.hold _ _ hv;have e:bZ (aM 3 0 [] k 4 ae)=aM 3 0 [] (bX k) 4 (fj ae):=rfl;rw[e,hh] at h1 h2;refine bm (b7:=[.list (bX k) 4 ae]) hg ?_ ?_ (c l ae hr hh (bX k) hm _) ?_ ?_
 ·simp only[bZ,aD,hh]
 ·unfold aM at h2;simp only[aR,bI] at h2 ⊢;exact⟨h2.2.2.2.1,trivial⟩
 ·show AV.agg [im 3,im 0,sv [],.list (bX (bX (bX k))) 4 ae]=_;rw[fD,fD];rfl
 ·rw[aK];exact h2
def xx.up{g:bq}(hg:L.contains g=ah)(c:xx R g):xx (up R L) g:=λx n=>bm hg rfl rfl (c x n _) rfl rfl
def AB.up{g:bq}(hg:L.contains g=ah)(c:AB R g):AB (up R L) g:=λx n=>bm hg rfl rfl (c x n _) rfl rfl
def NC.up{g:bq}(hg:L.contains g=ah)(c:NC R g):NC (up R L) g:=λx n=>bm hg rfl rfl (c x n _) rfl rfl
def NG.up{g:bq}(hg:L.contains g=ah)(c:NG R g):NG (up R L) g:=λx n=>bm hg rfl rfl (c x n _) rfl rfl
def NK.up{g:bq}(hg:L.contains g=ah)(c:NK R g):NK (up R L) g:=λx=>bm hg rfl rfl (c x _) rfl rfl
def GG.up(hg:L.contains 162=ah)(c:GG R):GG (up R L):=λp=>bm hg rfl rfl (c p _) rfl rfl
def IL.Dx{x}{l}(hx:IL x l)(h):IL (gX h x) l/\aK 0 0 0 (gX h x)=ah:=by obtain⟨k,s,rfl,hs⟩:=hx;refine⟨⟨bX k,s,rfl,hs⟩,?_⟩;show aK 0 0 0 (.list (bX k) s (ints l))=ah;rw[aK,fx,nL];rfl
def AA.up(hg:L.contains 64=ah)(c:AA R):AA (up R L):=λx l hx hl=>by obtain⟨h1,h2⟩:=hx.fD;obtain⟨X,hX,c⟩:=c _ l h1 hl;obtain⟨h3,h4⟩:=hX.Dx ⟨[],[],0,[]⟩;exact⟨_,h3,bm (b7:=[aD x]) hg rfl (by simp[aR,h2]) (c _) rfl h4⟩
def Ax.up(hg:L.contains 115=ah)(c:Ax R):Ax (up R L):=λx y ae ag hx hy hl=>by obtain⟨h1,h2⟩:=hx.fD;obtain⟨h3,h4⟩:=hy.hold;exact bm (b7:=[.agg [aD x,aD y]]) hg rfl (by simp[aR,aK,h2,h4]) (c _ _ ae ag h1 h3 hl _) rfl rfl
def xw.up(hg:L.contains 63=ah)(c:xw R):xw (up R L):=λx y z ae ag au hx hy hz hl hw=>by
 obtain⟨h1,h2⟩:=hx.fD;obtain⟨h3,h4⟩:=hy.hold;obtain⟨h5,h6⟩:=hz.hold;rcases c _ _ _ ae ag au h1 h3 h5 hl hw with⟨e,e1,hc⟩|⟨l,e1,e2,hc⟩
 ·exact .inl ⟨e,e1,bm (b7:=[.agg [aD x,aD y],aD z]) hg rfl (by simp[aR,aK,h2,h4,h6]) (hc _) rfl rfl⟩
 ·exact .inr ⟨l,e1,e2,bm (b7:=[.agg [aD x,aD y],aD z]) hg rfl (by simp[aR,aK,h2,h4,h6]) (hc _) rfl (by simp[aK,aR,nL,sV])⟩
def GC.up(hg:L.contains 141=ah)(c:GC R):GC (up R L):=λx y z ae ag aj hx hy hz hl=>by obtain⟨h1,h2⟩:=hx.fD;obtain⟨h3,h4⟩:=hy.hold;obtain⟨h5,h6⟩:=hz.hold;exact bm (b7:=[.agg [aD x,aD y],aD z]) hg rfl (by simp[aR,aK,h2,h4,h6]) (c _ _ _ ae ag aj h1 h3 h5 hl _) rfl rfl
def JW.up(hg:L.contains 47=ah)(c:JW R):JW (up R L):=λx y ae ag hx hy=>by obtain⟨g1,g2⟩:=hx.fD;obtain⟨g3,g4⟩:=hy.hold;obtain⟨b,hb,hc⟩:=c _ _ ae ag g1 g3;exact⟨b,hb,bm (b7:=[.agg [aD x,aD y]]) hg rfl (by simp[aR,aK,g2,g4]) (hc _) rfl rfl⟩
def QJ:∀l:List Int,fj (l.map fO)=l.map fO/\ie 0 0 0 (l.map fO)=ah
 | []=>⟨rfl,rfl⟩
 |n::l=>by
  obtain⟨h1,h2⟩:=QJ l;refine⟨?_,?_⟩
  ·show bZ (fO n)::fj (l.map fO)=_;rw[h1];rfl
  ·show(aR 0 0 0 (fO n)&&ie 0 0 0 (l.map fO))=ah;rw[h2];rfl
def JX.up(hg:L.contains 165=ah)(c:JX R):JX (up R L):=λk l hl hn hb=>
 bm (b7:=[.list (bX k) 1 (ints l)]) hg (by rw[bZ,bZ,aD,Lt]) (by simp[aR,aK,fx,nL]) (c _ l hl hn hb _) rfl (by simp only[aM,aK,aR,(QJ l).2];rfl)
def AF.up{g:bq}(hg:L.contains g=ah)(c:AF R g):AF (up R L) g:=λx y a b hx hy ha hb=>by obtain⟨h1,h2⟩:=hx.hold;obtain⟨h3,h4⟩:=hy.hold;exact bm (b7:=[aD x,aD y]) hg rfl (by simp[aR,h2,h4]) (c _ _ a b h1 h3 ha hb _) rfl rfl
end
def amt:Eh W7:=Eh.up rfl λn h=>Mq n h
def avS:El W7:=El.up rfl λs h=>ab1 s h
def ak0:Eg W7:=Eg.up rfl λbA b k hb ht h=>abr bA b k hb ht h
def ajh:Ee W7:=Ee.up rfl λv r hv hd hl=>abn hv hd hl
def anj:Ei W7:=Ei.up rfl λl ae hr hh k hm h=>by rw[abt hr hh k hm h]
def apt:xx W7 62:=xx.up rfl λx n h=>apF x n h
def aps:xx W7 175:=xx.up rfl λx n h=>apD x n h
def anV:AB W7 73:=AB.up rfl λx n h=>av2 x n h
def aiB:GG W7:=λp=>by obtain⟨h',c,-⟩:=aoJ ⟨[],[],0,[]⟩ p;exact bm (L:=L7) rfl rfl rfl c rfl rfl
def amJ:AA W7:=λx l hx hl=>by obtain⟨h1,h2⟩:=hx.fD;obtain⟨r,h',c,t,rfl⟩:=amK ⟨[],[],0,[]⟩ rfl (aD x) l h1 hl;obtain⟨h3,h4⟩:=IL.Dx (x:=.list t 1 (ints (l.map Pr.aA))) ⟨_,_,rfl,λ_=>rfl⟩ h';exact⟨_,h3,bm (L:=L7) (b7:=[aD x]) rfl rfl (by simp[aR,h2]) c rfl h4⟩
def ae0:xw W6:=λx y z ae ag au hx hy hz hl hw=>by
 obtain⟨h1,h2⟩:=hx.fD;obtain⟨h3,h4⟩:=hy.hold;obtain⟨h5,h6⟩:=hz.hold;obtain⟨r,h',hc,⟨e,e1,rfl⟩|⟨l,b,e1,e2,rfl,e3⟩⟩:=ae5 ⟨[],[],0,[]⟩ rfl _ _ _ ae ag au h1 h3 h5 hl hw
 ·exact .inl ⟨e,e1,bm (L:=L6) (b7:=[.agg [aD x,aD y],aD z]) rfl rfl (by simp[aR,aK,h2,h4,h6]) hc rfl rfl⟩
 ·refine .inr ⟨l,e1,e2,bm (L:=L6) (b7:=[.agg [aD x,aD y],aD z]) rfl rfl (by simp[aR,aK,h2,h4,h6]) hc ?_ (by simp[aK,aR,nL,sV])⟩;rw[gX,uJ,Dw e3 e2];rfl
def ae1:xw W7:=xw.up rfl ae0
def ahS:Ax W6:=Ax.up rfl λx y ae ag hx hy hl h=>SB x y ae ag hx hy hl h
def ahT:Ax W7:=Ax.up rfl ahS
def Wp:GC W7:=λx y z ae ag aj hx hy hz hl=>by obtain⟨h1,h2⟩:=hx.fD;obtain⟨h3,h4⟩:=hy.hold;obtain⟨h5,h6⟩:=hz.hold;obtain⟨r,h',c,-,rfl⟩:=aio ⟨[],[],0,[]⟩ _ _ _ ae ag aj h1 h3 h5 hl;exact bm (L:=L7) (b7:=[.agg [aD x,aD y],aD z]) rfl rfl (by simp[aR,aK,h2,h4,h6]) c rfl rfl
def ajI:JW W7:=λx y ae ag hx hy=>by obtain⟨g1,g2⟩:=hx.fD;obtain⟨g3,g4⟩:=hy.hold;obtain⟨r,h',c,-,b,rfl,hb⟩:=ajH ⟨[],[],0,[]⟩ _ _ ae ag g1 g3;exact⟨b,hb,bm (L:=L7) (b7:=[.agg [aD x,aD y]]) rfl rfl (by simp[aR,aK,g2,g4]) c rfl rfl⟩
def amv:JX W7:=λk l hl hn hb=>by obtain⟨r,h',c,n,rfl⟩:=amu ⟨[],[],0,[]⟩ rfl (bX k) l hl hn hb;exact bm (L:=L7) (b7:=[.list (bX k) 1 (ints l)]) rfl (by rw[bZ,bZ,aD,Lt]) (by simp[aR,aK,fx,nL]) c rfl (by simp only[aM,aK,aR,(QJ l).2];rfl)
def SR:Tryz.f16.results.toList=[.tmp 6]:=by kernel_rfl
def SJ:Tryz.f116.results.toList=[.tmp 2]:=by kernel_rfl
def ajF(h:ar)(ep:Int)(X Y C T L:AV)(ae:List (List Int))(ag aj:List Int)(text:List UInt8)(l:List Pr)(hx:RL X ae)(hy:IL Y ag)(hc:IL C aj)(ht:BL T text)(hp:PL L l):
 ∃h' b,W7.call 16 [.agg (aN ep X Y C),T,L] h=aa (.ret (.v (.bool b)),h')/\(b=ah->ae.length<=80/\ag.length<=80/\aj.length<=80/\text.length<=70000/\l.length<=80):=by
 obtain⟨b,hb,c1⟩:=ajI X Y ae ag hx hy;have bx:=uL (ep:=ep) hx hy hc;have b0:=bg h (aN ep X Y C);have l1:aI aq Gt (h.push (aN ep X Y C)) 25 (.ptr (.box h.boxes.length) 1)=aa (.agg [X,Y]):=by rw[iP xL D0 b0 (jS rfl)];rfl
 have l2:aI aq Gt (h.push (aN ep X Y C)) 23 (.ptr (.box h.boxes.length) 3)=aa C:=cQ mj b0 rfl;have lc:=hc.dQ;have lt:=ht.dQ;have lp:=hp.dQ;have kb:=ao.mk hb;clear hb hx hy hc ht hp b0;obtain⟨H,hH⟩:∃H,h.push (aN ep X Y C)=H:=⟨_,rfl⟩;rw[hH] at l1 l2;generalize aN ep X Y C=K at *
 suffices hs:∃r h',W7.call 16 [.agg K,T,L] h=aa (r,h')/\∃b,r=.ret (.v (.bool b))/\(b=ah->ae.length<=80/\ag.length<=80/\aj.length<=80/\text.length<=70000/\l.length<=80) by obtain⟨r,h',c,b,rfl,q⟩:=hs;exact⟨h',b,c,q⟩
 refine di rfl Tryz.func16 rfl ?_;cases b with
 |false=>refine bK @SR @bu @hH (az @gv @il) ?_;exact⟨_,_,rfl,aB,rfl,λq=>by cases q⟩|true=>
 obtain⟨k1,k2⟩:=kb.out rfl;by_cases q1:(aj.length:Int)<=80;rotate_left 1
 ·have d1:decide ((aj.length:Int)<=80)=aB:=cS q1;clear kb q1;refine bK @SR @bu @hH (az @gv @il) ?_;exact⟨_,_,rfl,aB,rfl,λq=>by cases q⟩
 have d1:decide ((aj.length:Int)<=80)=ah:=b8 q1;have key:((text.length:Int)<=300)∨(¬(text.length:Int)<=300/\¬(65536:Int)<text.length)∨(¬(text.length:Int)<=300/\(65536:Int)<text.length/\¬(text.length:Int)<=70000)∨(¬(text.length:Int)<=300/\(65536:Int)<text.length/\(text.length:Int)<=70000):=by omega
 have key2:((l.length:Int)<=8)∨(¬(l.length:Int)<=8/\¬(64:Int)<l.length)∨(¬(l.length:Int)<=8/\(64:Int)<l.length/\¬(l.length:Int)<=80)∨(¬(l.length:Int)<=8/\(64:Int)<l.length/\(l.length:Int)<=80):=by omega
 have kq:ao (ae.length<=80/\ag.length<=80/\aj.length<=80):=⟨k1,k2,by omega⟩;clear k1 k2 q1 kb;rcases key with t1|⟨t1,t2⟩|⟨t1,t2,t3⟩|⟨t1,t2,t3⟩<;>rcases key2 with p1|⟨p1,p2⟩|⟨p1,p2,p3⟩|⟨p1,p2,p3⟩
 all_goals
  refine bK @SR @bu @hH (az @gv @il) ?_
  first|exact⟨_,_,rfl,aB,rfl,λq=>by cases q⟩|exact⟨_,_,rfl,ah,rfl,λ_=>⟨kq.out.1,kq.out.2.1,kq.out.2.2,by omega,by omega⟩⟩
def amL(h:ar)(ep:Int)(X Y C:AV)(ae:List (List Int))(ag aj:List Int)(hx:RL X ae)(hy:IL Y ag)(hc:IL C aj)(hl:aj.length<=1000000):
 ∃r h',W7.call 116 [.agg (aN ep X Y C)] h=aa (r,h')/\r=.ret (.v (.bool (mc ae ep aj))):=by
 have c1:=Wp X Y C ae ag aj hx hy hc hl;have bx:=uL (ep:=ep) hx hy hc;have b0:=bg h (aN ep X Y C);have l0:aI aq Gt (h.push (aN ep X Y C)) 3 (.ptr (.box h.boxes.length) 0)=aa (.v (.int .i64 ep)):=cQ fh b0 rfl;have l1:aI aq Gt (h.push (aN ep X Y C)) 25 (.ptr (.box h.boxes.length) 1)=aa (.agg [X,Y]):=by rw[iP xL D0 b0 (jS rfl)];rfl
 have l2:aI aq Gt (h.push (aN ep X Y C)) 23 (.ptr (.box h.boxes.length) 3)=aa C:=cQ mj b0 rfl;have kv:ao (mc ae ep aj=(decide (0<=ep)&&decide (ep<=64)&&decide (aj.length=bP ae)&&aj.all bN)):=⟨rfl⟩;generalize mc ae ep aj=res at *
 clear hx hy hc b0;obtain⟨H,hH⟩:∃H,h.push (aN ep X Y C)=H:=⟨_,rfl⟩;rw[hH] at l0 l1 l2;generalize aN ep X Y C=K at *
 refine di rfl Tryz.func116 rfl ?_;by_cases h1:0<=ep;rotate_left 1
 ·have hf:res=aB:=by rw[kv.out];simp[h1]
  have eM:decide (0<=ep)=aB:=cS h1;clear h1 kv;subst hf;refine bK @SJ @bu @hH (az @wB (az @gv @il)) ?_;exact⟨_,_,rfl,rfl⟩
 have eM:decide (0<=ep)=ah:=b8 h1;by_cases h2:ep<=64;rotate_left 1
 ·have hf:res=aB:=by rw[kv.out];simp[h2]
  have iF:decide (ep<=64)=aB:=cS h2;clear h1 h2 kv;subst hf;refine bK @SJ @bu @hH (az @wB (az @gv @il)) ?_;exact⟨_,_,rfl,rfl⟩
 have iF:decide (ep<=64)=ah:=b8 h2;have kr:ao (res=(aj.all bN&&decide (aj.length=bP ae))):=⟨by rw[kv.out,eM,iF,rT,rT,Bool.and_comm]⟩;clear h1 h2 kv;generalize (aj.all bN&&decide (aj.length=bP ae))=dd at *
 refine bK @SJ @bu @hH (az @wB (az @gv @il)) ?_;exact⟨_,_,rfl,by rw[kr.out]⟩
def Mv:Tryz.f122.results.toList=[.cell 2 96]:=by kernel_rfl
def agD(a b c d):gG aq 23 4 [(0,.v (.int .i64 a)),(1,.v (.int .i64 b)),(2,.v (.int .i64 c)),(3,.v (.int .i64 d))]=aa (.list .tight 1 (ints [a,b,c,d])):=by kernel_rfl
def ij(p:Pr):List AV:=aM 3 0 [] .held 4 ([p.aA,p.no,p.d,p.e].map fO)
def ED(p:Pr):Prop:=∀n∈[p.aA,p.no,p.d,p.e],0<=n/\n<=4611686018427387903
def amA{l:List Int}(h:∀n∈l,0<=n/\n<=4611686018427387903):oL (l.map Vl.int) (l.map fO):=by refine⟨bJ,λi v r hv hr=>?_⟩;rw[ey,dN] at hv hr;obtain⟨n,hn,rfl⟩:=hv;obtain⟨m,hm,rfl⟩:=hr;rw[hn] at hm;injection hm with hm;subst hm;exact .int n (h n (dy hn))
def aa7{p}(h:ED p):dm p.val (ij p):=by have q:=amA h;exact .list _ _ _ _ q.1 (λ_=>rfl) bJ q.2
def awr(h:ar)(bB:cK h=ah)(k:Tok)(l:List Pr)(hl:l.length<=1000)(bG:l≠[])(hb:∀p∈l,ED p):
 ∃r h',W7.call 122 [.list k 4 (eY l)] h=aa (r,h')/\∃n,r=.ret (.agg (aM 3 0 [] (.free n) 4 (l.map ij))):=by
 have z:=yQ;have bd:=Vw;have u29:=wg;have u94:=qD;have z85:=sT;have cY:=vK l;have s1:=acu (H:=h.push (aM 0 0 [] .nil 0 [])) (r:=aM 3 0 [] .nil 0 []) rfl rfl;have pG:(h.push (aM 0 0 [] .nil 0 [])).boxes.length=h.boxes.length+1:=cR _ _;have G0:rk h ((h.push (aM 0 0 [] .nil 0 [])).push (aM 3 0 [] .nil 0 [])) (h.boxes.length+1) ((l.map Pr.val).take 0) .nil 0 []:=⟨by rw[<-pG];exact bg _ _,.inl rfl,bB,(Ext.push _ _).trans (.push _ _),He _,⟨rfl,λi v r q=>by simp at q⟩,λq=>absurd rfl q,λ_=>.inr rfl,rfl⟩;have B0:((h.push (aM 0 0 [] .nil 0 [])).push (aM 3 0 [] .nil 0 [])).boxes[h.boxes.length]?=aa (aM 0 0 [] .nil 0 []):=bh (bg _ _);have kG0:=ao.mk (az G0 B0);rw[pG] at s1;clear G0 B0;have kb:=ao.mk (az hb bG);clear hb bG;obtain⟨H0,hH⟩:∃H0,(h.push (aM 0 0 [] .nil 0 [])).push (aM 3 0 [] .nil 0 [])=H0:=⟨_,rfl⟩;rw[hH] at s1 kG0;refine di rfl Tryz.func122 rfl ?_;refine cX @Mv @bu @lN ?_;refine bM.gen λe0 aG bE cZ cV=>?_;have f0:e0.get 0=.list k 4 (eY l):=by rw[aG];exact gS
 have f2:e0.get 2=.ptr (.box h.boxes.length) 0:=by rw[aG];exact gS
 have f3:e0.get 3=.ptr (.box (h.boxes.length+1)) 0:=by rw[aG];simp only[gW,reduceIte,aS,aO,cR]
 have f4:e0.get 4=.v (.int .i64 (0:Nat)):=by rw[aG];exact gR
 have fd:e0.defers=[]:=by rw[bE];exact gS
 clear aG bE cZ cV s1 hH z bd;refine cH (λm e H=>∃(i:Nat) (t:Tok) (sz:Nat),i<=l.length/\m=l.length - i/\ao (rk h H (h.boxes.length+1) ((l.map Pr.val).take i) t sz ((l.take i).map ij)/\H.boxes[h.boxes.length]?=aa (aM 0 0 [] .nil 0 []))/\ao (0<i->(∃n,t=.free n)/\sz=4)/\e.get 0=.list k 4 (eY l)/\e.get 2=.ptr (.box h.boxes.length) 0/\e.get 3=.ptr (.box (h.boxes.length+1)) 0/\e.get 4=.v (.int .i64 (i:Nat))/\e.defers=[]) ?_ l.length _ _ ?_;rotate_left 1
 ·exact⟨0,.nil,0,cD _,rfl,kG0,⟨λq=>absurd q (Hg _)⟩,f0,f2,f3,f4,fd⟩
 clear f0 f2 f3 f4 fd kG0;rintro m e H ⟨i,t,sz,hi,rfl,kG,kN,g0,g2,g3,g4,hd⟩;by_cases aC:i<l.length
 ·obtain⟨p,hv⟩:∃p,l[i]?=aa p:=⟨_,aU aC⟩;have qP:=kb.out.1 p (dy hv);have iY:=aa7 qP;have lde:=BA (s:=4) hv;have c:=amv .tight [p.aA,p.no,p.d,p.e] bJ bJ qP;have b4:=agD p.aA p.no p.d p.e;have cU:((l.take i).map ij).length<1000000:=by rw[bF,fm];omega
  have l3:=oW kG.out.1.box;have ap:=Co (r:=ij p) cU kG.out.1.four kG.out.1.nil kG.out.1.can;have bl:=Cs (r:=ij p) rfl rfl;have st:=DY (H:=H.app t) (t2:=.free H.tn) (sz2:=4) (rows2:=(l.take i).map ij++[ij p]) (by rw[eC];exact kG.out.1.box);have G2:=kG.out.1.put iY rfl;have e1:(l.take i).map ij++[ij p]=(l.take (i+1)).map ij:=by rw[fE hv,mY];rfl
  have e2:(l.map Pr.val).take i++[p.val]=(l.map Pr.val).take (i+1):=by rw[fE (x:=p.val) (by rw[ey,hv];rfl)]
  rw[e1,e2] at G2;rw[e1] at ap st;have kG2:ao (rk h ((H.app t).put (h.boxes.length+1) (aM 3 0 [] (.free H.tn) 4 ((l.take (i+1)).map ij))) (h.boxes.length+1) ((l.map Pr.val).take (i+1)) (.free H.tn) 4 ((l.take (i+1)).map ij)/\((H.app t).put (h.boxes.length+1) (aM 3 0 [] (.free H.tn) 4 ((l.take (i+1)).map ij))).boxes[h.boxes.length]?=aa (aM 0 0 [] .nil 0 [])):=⟨G2,by rw[dh ai,eC];exact kG.out.2⟩;have kN2:ao (0<i+1->(∃n,Tok.free H.tn=.free n)/\4=4):=⟨λ_=>⟨⟨_,rfl⟩,rfl⟩⟩;have fw:(i:Int)<(l.length:Int):=by omega
  have irw:aM 3 0 [] .held 4 ([p.aA,p.no,p.d,p.e].map fO)=ij p:=rfl;rw[irw] at c;clear G2 e1 e2 hv iY cU kG kN irw qP;generalize ij p=r at *
  refine bK @Mv @gg @oc @bp ?_
  repeat' (first|simp(maxSteps:=999999)(disch:=first|exact dZ|fail)only[gW,reduceIte,aS,aO,Mv,gg,oc,bp, *]|(refine dX ?_ ?_<;>(intro _;try omega))|refine eJ AW jr ?_)
  exact⟨l.length - (i+1),by omega,i+1,.free H.tn,4,by omega,rfl,(by first|exact kG2|trivial),(by first|exact kN2|trivial),by simp⟩
 ·have gx:i=l.length:=by omega
  subst gx;obtain⟨⟨n,rfl⟩,rfl⟩:=kN.out (N2.2 kb.out.2);have hG:=kG.out.1;rw[fN] at hG;have ld:=qT (r:=aM 3 0 [] (.free n) 4 (l.map ij)) rfl hG.box;have st:=acs (r:=aM 3 0 [] (.free n) 4 (l.map ij)) kG.out.2 rfl rfl rfl;have ll:=ZZ (H:=H) (r:=aM 3 0 [] (.free n) 4 (l.map ij)) rfl (aW.1 kG.out.2).1;clear hG kG kN;refine bC @Mv ?_;exact⟨_,_,rfl,n,rfl⟩
def QK:∀l:List Pr,fj (l.map ij)=l.map ij/\ie 0 0 0 (l.map ij)=ah
 | []=>⟨rfl,rfl⟩
 |p::l=>by
  obtain⟨h1,h2⟩:=QK l;refine⟨?_,?_⟩
  ·show bZ (ij p)::fj (l.map ij)=_;rw[h1];rfl
  ·show(aR 0 0 0 (ij p)&&ie 0 0 0 (l.map ij))=ah;rw[h2];rfl
def awq{l}(h:∀p∈l,ED p)(hl:l.length<=1000):dm (uP l) (aM 3 0 [] .held 4 (l.map ij)):=by refine .list _ _ _ _ bJ (λ_=>rfl) (by simp;omega) λi v r hv hr=>?_;rw[ey,dN] at hv hr;obtain⟨p,hp,rfl⟩:=hv;obtain⟨q,hq,rfl⟩:=hr;rw[hp] at hq;injection hq with hq;subst hq;exact aa7 (h p (dy hp))
def L8:List bq:=L7++[31,33,35,16,116,122,142,169]
noncomputable def Sv:bq->Option (List AV->ar->Option (AV × ar)):=qG W7 L8
noncomputable abbrev W8:=whole aq Gt Sv
def Cu:qu Sv L8:=xU
section
variable (R:Rec)
def J2:Prop:=∀(k:Tok) (l:List Pr),l.length<=1000->l≠[]->(∀p∈l,ED p)->∀h,R.call 122 [.list k 4 (eY l)] h=aa (.ret (.agg (aM 3 0 [] .held 4 (l.map ij))),h)
def JY:Prop:=∀ep X Y C ae ag aj,RL X ae->IL Y ag->IL C aj->aj.length<=1000000->∀h,R.call 116 [.agg (aN ep X Y C)] h=aa (.ret (.v (.bool (mc ae ep aj))),h)
def Ef:Prop:=∀ep X Y C T L ae ag aj text l,RL X ae->IL Y ag->IL C aj->BL T text->PL L l->
 ∃b,(b=ah->ae.length<=80/\ag.length<=80/\aj.length<=80/\text.length<=70000/\l.length<=80)/\∀h,R.call 16 [.agg (aN ep X Y C),T,L] h=aa (.ret (.v (.bool b)),h)
end
def BL.fD{x}{b}(h:BL x b):BL (aD x) b/\aK 0 0 0 (aD x)=ah:=by obtain⟨k,s,rfl,hs⟩:=h;rw[aD,qO];exact⟨⟨bX k,s,rfl,hs⟩,by rw[aK,fx,kL];rfl⟩
def Me(l):fj (eY l)=eY l/\ie 0 0 0 (eY l)=ah:=by
 induction l with
 |nil=>exact⟨rfl,rfl⟩|cons p l ih=>
  refine⟨?_,?_⟩
  ·show bZ (cq p)::fj (eY l)=_;rw[ih.1];rfl
  ·show(aR 0 0 0 (cq p)&&ie 0 0 0 (eY l))=ah;rw[ih.2];rfl
section
variable {R:Rec} {L:List bq}
def WY(l:List Pr):aK 0 0 0 (.agg (aM 3 0 [] .held 4 (l.map ij)))=ah:=by simp only[aM,aK,aR,(QK l).2];rfl
def J2.up(hg:L.contains 122=ah)(c:J2 R):J2 (up R L):=λk l hl hn hb=>
 bm (b7:=[.list (bX k) 4 (eY l)]) hg (by rw[bZ,bZ,aD,(Me l).1]) (by simp[aR,aK,fx,(Me l).2]) (c _ l hl hn hb _) rfl (WY l)
def JY.up(hg:L.contains 116=ah)(c:JY R):JY (up R L):=λep X Y C ae ag aj hx hy hc hl=>by obtain⟨h1,h2⟩:=hx.fD;obtain⟨h3,h4⟩:=hy.hold;obtain⟨h5,h6⟩:=hc.hold;exact bm (b7:=[.agg (aN ep (aD X) (aD Y) (aD C))]) hg rfl (by simp[aN,aR,aK,h2,h4,h6]) (c ep _ _ _ ae ag aj h1 h3 h5 hl _) rfl rfl
def Ef.up(hg:L.contains 16=ah)(c:Ef R):Ef (up R L):=λep X Y C T l' ae ag aj text l hx hy hc ht hp=>by obtain⟨h1,h2⟩:=hx.fD;obtain⟨h3,h4⟩:=hy.hold;obtain⟨h5,h6⟩:=hc.hold;obtain⟨h7,h8⟩:=ht.fD;obtain⟨h9,ru⟩:=hp.fD;obtain⟨b,hb,c⟩:=c ep _ _ _ _ _ ae ag aj text l h1 h3 h5 h7 h9;exact⟨b,hb,bm (b7:=[.agg (aN ep (aD X) (aD Y) (aD C)),aD T,aD l']) hg rfl (by simp[aN,aR,aK,h2,h4,h6,h8,ru]) (c _) rfl rfl⟩
end
def ZJ:Eh W8:=amt.up rfl
def avT:El W8:=avS.up rfl
def ak1:Eg W8:=ak0.up rfl
def aji:Ee W8:=ajh.up rfl
def anm:Ei W8:=anj.up rfl
def apu:xx W8 62:=apt.up rfl
def anW:AB W8 73:=anV.up rfl
def aiC:GG W8:=aiB.up rfl
def ZT:AA W8:=amJ.up rfl
def U6:xw W8:=ae1.up rfl
def Wd:Ax W8:=ahT.up rfl
def awp:J2 W8:=λk l hl hn hb=>by obtain⟨r,h',c,n,rfl⟩:=awr ⟨[],[],0,[]⟩ rfl (bX k) l hl hn hb;exact bm (L:=L8) (b7:=[.list (bX k) 4 (eY l)]) rfl (by rw[bZ,bZ,aD,(Me l).1]) (by simp[aR,aK,fx,(Me l).2]) c rfl (WY l)
def amM:JY W8:=λep X Y C ae ag aj hx hy hc hl=>by obtain⟨h1,h2⟩:=hx.fD;obtain⟨h3,h4⟩:=hy.hold;obtain⟨h5,h6⟩:=hc.hold;obtain⟨r,h',c,rfl⟩:=amL ⟨[],[],0,[]⟩ ep _ _ _ ae ag aj h1 h3 h5 hl;exact bm (L:=L8) (b7:=[.agg (aN ep (aD X) (aD Y) (aD C))]) rfl rfl (by simp[aN,aR,aK,h2,h4,h6]) c rfl rfl
def ajJ:Ef W8:=λep X Y C T l' ae ag aj text l hx hy hc ht hp=>by obtain⟨h1,h2⟩:=hx.fD;obtain⟨h3,h4⟩:=hy.hold;obtain⟨h5,h6⟩:=hc.hold;obtain⟨h7,h8⟩:=ht.fD;obtain⟨h9,ru⟩:=hp.fD;obtain⟨h',b,c,hb⟩:=ajF ⟨[],[],0,[]⟩ ep _ _ _ _ _ ae ag aj text l h1 h3 h5 h7 h9;exact⟨b,hb,bm (L:=L8) (b7:=[.agg (aN ep (aD X) (aD Y) (aD C)),aD T,aD l']) rfl rfl (by simp[aN,aR,aK,h2,h4,h6,h8,ru]) c rfl rfl⟩
def MJ:Tryz.f51.results.toList=[.tmp 8]:=by kernel_rfl
def sM:Tryz.f117.results.toList=[.tmp 4]:=by kernel_rfl
def Jz:Tryz.f50.results.toList=[.tmp 6]:=by kernel_rfl
def agH(a b)(t)(V):gG aq 94 4 [(0,.agg (fO a)),(1,.agg (aM 2 0 t .nil 0 [])),(2,.agg (aM 3 0 [] .held 4 V)),(3,.agg (fO b))]=aa (.list .tight 4 [fO a,aM 2 0 t .nil 0 [],aM 3 0 [] .held 4 V,fO b]):=by kernel_rfl
def ags(h:ar)(ep:Int)(X Y C T L:AV)(aj:List Int)(text:List UInt8)(l:List Pr)(aA:Int)(bx:(AV.agg (aN ep X Y C)).cd=aa (aN ep X Y C))(hc:IL C aj)(ht:BL T text)(hp:PL L l)
 (jV:0<aj.length) (CT:0<=al aj 0/\al aj 0<=4611686018427387903) (wT:text.length<=65536) (hl:l.length<=64) (bG:l≠[]) (hb:∀p∈l,ED p) (hk:0<=aA/\aA<=4611686018427387903):
 ∃r h',W8.call 51 [.agg (aN ep X Y C),T,L,im aA] h=aa (r,h')/\h'=h.push (aN ep X Y C)/\r=.ret (im ((fC (al aj 0) text l aA:Nat):Int)):=by
 obtain⟨kc,sc,rfl,vC⟩:=hc;obtain⟨kt,st,rfl,bT⟩:=ht;obtain⟨kp,sp,rfl,mb⟩:=hp;have Q7:sc=1:=vC (by intro e;rw[e] at jV;simp at jV);subst Q7;have al6:sp=4:=mb bG;subst al6;have c1:=λh=>ZJ (al aj 0) h;have c2:=λh=>avT text h;have c3:=awp kp l ai bG hb;have c4:=λh=>ZJ aA h;have iY:=awq hb ai;have hr:oL [.int (al aj 0),.text text,uP l,.int aA] [fO (al aj 0),aM 2 0 text .nil 0 [],aM 3 0 [] .held 4 (l.map ij),fO aA]:=by
  refine⟨rfl,λi v r hv hr=>?_⟩
  match i with
  |0=>injection hv with hv;injection hr with hr;subst hv;subst hr;exact .int _ CT
  |1=>injection hv with hv;injection hr with hr;subst hv;subst hr;exact .text text ai
  |2=>injection hv with hv;injection hr with hr;subst hv;subst hr;exact iY
  |3=>injection hv with hv;injection hr with hr;subst hv;subst hr;exact .int _ hk
  |i+4=>simp at hv
 have tE:fj [fO (al aj 0),aM 2 0 text .nil 0 [],aM 3 0 [] .held 4 (l.map ij),fO aA]=[fO (al aj 0),aM 2 0 text .nil 0 [],aM 3 0 [] .held 4 (l.map ij),fO aA]:=by
  have e:bZ (aM 3 0 [] .held 4 (l.map ij))=aM 3 0 [] .held 4 (l.map ij):=by show[im 3,im 0,sv [],.list .held 4 (fj (l.map ij))]=_;rw[(QK l).1];rfl
  show[bZ (fO (al aj 0)),bZ (aM 2 0 text .nil 0 []),bZ (aM 3 0 [] .held 4 (l.map ij)),bZ (fO aA)]=_;rw[e];rfl
 have c5:=anm _ _ hr tE .tight bJ;have hv:dm (.list [.int (al aj 0),.text text,uP l,.int aA]) (aM 3 0 [] (bX .tight) 4 [fO (al aj 0),aM 2 0 text .nil 0 [],aM 3 0 [] .held 4 (l.map ij),fO aA]):=.list _ _ _ _ rfl (λ_=>rfl) bJ hr.2;have hd:=ac0 l;have jE:=VA (al aj 0) text l aA;obtain⟨t,c6⟩:=aji _ _ hv (by simp[uP,gQ,iE];omega) ai;have c7:=ak1 DV (dU (.list [.int (al aj 0),.text text,uP l,.int aA])) t ai aZ;have hh:nj (gO DV (dU (.list [.int (al aj 0),.text text,uP l,.int aA])))=fC (al aj 0) text l aA:=rfl;rw[hh] at c7;rw[show DV=[98,105,110,100] from rfl] at c7;have bk:=agH (al aj 0) aA text (l.map ij);have cv:=λH=>KG (k:=kt) bT H;have b0:=bg h (aN ep X Y (.list kc 1 (ints aj)));have l2:aI aq Gt (h.push (aN ep X Y (.list kc 1 (ints aj)))) 23 (.ptr (.box h.boxes.length) 3)=aa (.list kc 1 (ints aj)):=cQ mj b0 rfl;have l4:=ev (H:=h.push (aN ep X Y (.list kc 1 (ints aj)))) (l:=aj) (i:=0) (s:=1) jV;have cY:=dE aj;have u23:=dY;have z3:=fR;have Lu:(0:Int)<(aj.length:Int):=by omega
 have z0:(0:Int).toNat=0:=rfl;clear hr hv jE hh bT tE iY hd b0 vC mb hb;generalize fC (al aj 0) text l aA=n at *
 generalize aM 3 0 [] (bX .tight) 4 [fO (al aj 0),aM 2 0 text .nil 0 [],aM 3 0 [] .held 4 (l.map ij),fO aA]=R at *
 generalize fO (al aj 0)=r0 at *
 generalize fO aA=r3 at *
 generalize aM 2 0 text .nil 0 []=r1 at *
 generalize aM 3 0 [] .held 4 (l.map ij)=r2 at *
 generalize dU (.list [.int (al aj 0),.text text,uP l,.int aA])=eb at *
 generalize al aj 0=c0 at *
 obtain⟨H0,hH⟩:∃H0,h.push (aN ep X Y (.list kc 1 (ints aj)))=H0:=⟨_,rfl⟩;rw[hH] at l2 l4;rw[hH];generalize aN ep X Y (.list kc 1 (ints aj))=K at *
 unfold sv at c2;unfold im at *
 refine di rfl Tryz.func51 rfl ?_;have svs:=JC kc 1 aj;refine bK @MJ @bu @hH (az @il @bp) ?_;refine nW [(1,6),(3,6)] Cu jr (λp hp=>?_) ?_
 ·simp only[iU,xC,or_false] at hp;rcases hp with rfl|rfl
  ·refine Al (x:=.ptr (.box h.boxes.length) 3) (v:=.list kc 1 (ints aj)) jr rfl rfl rfl jr (svs) ?_ ?_<;>(simp only[iV,gF];exact oj @MJ @il @bp @and_self)
  ·refine Al (x:=.elem 1 (ints aj) 0 0) (v:=.v (.int .i64 c0)) jr rfl rfl rfl jr (by simp[fA,mU]) ?_ ?_<;>(simp only[iV,gF];exact oj @MJ @il @bp @and_self)
 refine cX @MJ @il @bp ?_;exact⟨_,_,rfl,rfl,rfl⟩
def afr:gY aq 27=aa ah:=by kernel_rfl
def avJ:dJ aq 27=aa 4:=by kernel_rfl
def zZ{H}{b}{K}(hb:H.boxes[b]?=aa K)(hl:K.length=4):aI aq Gt H 27 (.ptr (.box b) 0)=aa (.agg K):=by rw[iP afr avJ hb ai,List.drop_zero,<-hl,fN]
def F3(ae:List (List Int))(ag:List Int)(l:List Pr):Bool:=decide (1<=l.length)&&decide (l.length<=64)&&gE (-1) l&&(fV ae ag (l.map Pr.aA)).2.1&&decide ((fV ae ag (l.map Pr.aA)).2.2=0)
def aoT{dk}{p}{l}(h:w8 p=aB)(h1: -1<=dk):gE dk (p::l)=aB:=by
 unfold w8 at h;rw[NT.gE];by_cases q:0<=p.aA
 ·rw[b8 q,rT] at h;by_cases q2:dk<p.aA
  ·rw[b8 q2,rT,h];rfl
  ·rw[cS q2];rfl
 ·rw[cS (ai:¬dk<p.aA)];rfl
def aaN{dk}{p}{l}(h:w8 p=ah)(h1:dk<p.aA):gE dk (p::l)=gE p.aA l:=by unfold w8 at h;rw[NT.gE];simp only[bI] at h;obtain⟨⟨⟨⟨⟨-,h2⟩,h3⟩,h4⟩,h5⟩,h6⟩:=h;rw[b8 h1,h2,h3,h4,h5,h6];rfl
def aoS{dk}{p}{l}(h1:p.aA<=dk):gE dk (p::l)=aB:=by rw[NT.gE,cS (ai:¬dk<p.aA)];rfl
def aoM{p}(h:w8 p=ah):0<=p.aA:=by unfold w8 at h;simp only[bI,decide_eq_true_eq] at h;exact h.1.1.1.1.1
def aoR(h:ar)(ep:Int)(X Y C L:AV)(ae:List (List Int))(ag:List Int)(l:List Pr)(bx:(AV.agg (aN ep X Y C)).cd=aa (aN ep X Y C))(hx:RL X ae)(hy:IL Y ag)(hp:PL L l)(cU:ae.length<=1000000)(dG:l.length<=1000000):
 ∃r h',W8.call 117 [.agg (aN ep X Y C),L] h=aa (r,h')/\r=.ret (.v (.bool (F3 ae ag l))):=by
 obtain⟨Z,hZ,ck⟩:=ZT L l hp dG;have ca:=U6 X Y Z ae ag (l.map Pr.aA) hx hy hZ cU (by rw[bF];omega);have b0:=bg h (aN ep X Y C);have l1:aI aq Gt (h.push (aN ep X Y C)) 25 (.ptr (.box h.boxes.length) 1)=aa (.agg [X,Y]):=by rw[iP xL D0 b0 (jS rfl)];rfl
 have kv:ao (F3 ae ag l=(decide (1<=l.length)&&decide (l.length<=64)&&gE (-1) l&&(fV ae ag (l.map Pr.aA)).2.1&&decide ((fV ae ag (l.map Pr.aA)).2.2=0))):=⟨rfl⟩;generalize F3 ae ag l=res at *
 obtain⟨kp,sp,rfl,mb⟩:=hp;have lp:dQ aq 29 (.list kp sp (eY l))=aa (.v (.int .i64 (l.length:Nat))):=PL.dQ ⟨_,_,rfl,mb⟩;have u29:=wg;have z85:=sT;have cY:=vK l;obtain⟨H0,hH⟩:∃H0,h.push (aN ep X Y C)=H0:=⟨_,rfl⟩;rw[hH] at l1;generalize aN ep X Y C=K at *
 have kc:=ao.mk (az ca mb);have kck:=ao.mk ck;clear b0 hx hy hZ ca mb ck;refine di rfl Tryz.func117 rfl ?_;by_cases q1:l.length<1
 ·have q1I:((l.length:Nat):Int)<1:=by omega
  have kf:ao (res=aB):=⟨by rw[kv.out,cS ai];rfl⟩;clear q1 kv;refine cX @sM @bu @hH ?_;exact⟨_,_,rfl,by rw[kf.out]⟩
 have q1I:¬((l.length:Nat):Int)<1:=by omega
 by_cases q2:64<l.length
 ·have q2I:(64:Int)<((l.length:Nat):Int):=by omega
  have kf:ao (res=aB):=⟨by rw[kv.out,cS (ai:¬l.length<=64),Bool.and_false];rfl⟩;clear q1 q2 kv;refine cX @sM @bu @hH ?_;exact⟨_,_,rfl,by rw[kf.out]⟩
 have q2I:¬(64:Int)<((l.length:Nat):Int):=by omega
 have bD:sp=4:=kc.out.2 (by intro q;rw[q] at q1;simp at q1);subst bD;have kv2:ao (res=(gE (-1) l&&(fV ae ag (l.map Pr.aA)).2.1&&decide ((fV ae ag (l.map Pr.aA)).2.2=0))):=⟨by rw[kv.out,b8 (ai:1<=l.length),b8 (ai:l.length<=64)];rfl⟩;clear kv;refine cX @sM @bu @hH ?_;refine bM.gen λe0 aG bE cZ cV=>?_;have f1:e0.get 1=.list kp 4 (eY l):=by rw[aG];exact gS
 have f2:e0.get 2=.ptr (.box h.boxes.length) 0:=by rw[aG];exact gS
 have f5:e0.get 5=.v (.int .i64 (0:Nat)):=by rw[aG];exact gR
 have fd:e0.defers=[]:=by rw[bE];exact gS
 clear aG bE cZ cV bx hH q1I q2I;refine cH (λm e H=>∃(i:Nat) (dk:Int),i<=l.length/\m=l.length - i/\ao (gE dk (l.drop i)=gE (-1) l)/\ -1<=dk/\ao (i=0->dk= -1)/\ao (∀q,0<i->l[i - 1]?=aa q->q.aA=dk)/\e.get 1=.list kp 4 (eY l)/\e.get 2=.ptr (.box h.boxes.length) 0/\e.get 5=.v (.int .i64 (i:Nat))/\e.defers=[]/\H=H0) ?_ l.length _ _ ?_;rotate_left 1
 ·exact⟨0,-1,cD _,rfl,⟨rfl⟩,Int.le_refl _,⟨λ_=>rfl⟩,⟨λ_ q=>absurd q (Hg _)⟩,f1,f2,f5,fd,rfl⟩
 clear f1 f2 f5 fd;rintro m e H ⟨i,dk,hi,rfl,kP,mC,k0,k1,g1,g2,g5,hd,rfl⟩;by_cases aC:i<l.length;rotate_left 1
 ·have gx:i=l.length:=by omega
  subst gx;have hf:gE (-1) l=ah:=by rw[<-kP.out,List.drop_of_length_le (aL _)];rfl
  have kv3:ao (res=((fV ae ag (l.map Pr.aA)).2.1&&decide ((fV ae ag (l.map Pr.aA)).2.2=0))):=⟨by rw[kv2.out,hf,rT]⟩;have ck:=kck.out;clear hf kv2 kP k0 k1;rcases kc.out.1 with⟨e,e1,ca⟩|⟨w,e1,-,ca⟩
  ·have kf:ao (res=aB):=⟨by rw[kv3.out,e1];rfl⟩;clear kv3 e1;refine bQ @sM @gv ?_
   repeat' (first|simp(maxSteps:=999999)(disch:=first|exact dZ|fail)only[gW,reduceIte,aS,aO,sM,gv, *]|(refine dX ?_ ?_<;>(intro _;try omega))|refine eJ Cu jr ?_)
   exact⟨_,_,rfl,by rw[kf.out]⟩
  ·have kf:ao (res=ah):=⟨by rw[kv3.out,e1];rfl⟩;clear kv3 e1;refine bQ @sM @gv ?_
   repeat' (first|simp(maxSteps:=999999)(disch:=first|exact dZ|fail)only[gW,reduceIte,aS,aO,sM,gv, *]|(refine dX ?_ ?_<;>(intro _;try omega))|refine eJ Cu jr ?_)
   exact⟨_,_,rfl,by rw[kf.out]⟩
 obtain⟨p,eV⟩:∃p,l[i]?=aa p:=⟨_,aU aC⟩;have qg:l.drop i=p::l.drop (i+1):=by rw[y6 aC,(aW.1 eV).2]
 have ld:=λH=>DE (H:=H) (s:=4) eV;obtain⟨ld0,-⟩:=BA (s:=4) eV;have cp:=aiC p;have fw:(i:Int)<(l.length:Int):=by omega
 have kpp:ao (gE dk (p::l.drop (i+1))=gE (-1) l):=⟨by rw[<-qg];exact kP.out⟩;have kpv:=ao.mk eV;clear qg eV;cases hq:w8 p with
 |false=>
  rw[hq] at cp;have kf:ao (res=aB):=⟨by rw[kv2.out,<-kpp.out,aoT hq mC];rfl⟩;clear hq mC kv2 k0 k1 kP;refine cX @sM @oc @bp ?_
  repeat' (first|simp(maxSteps:=999999)(disch:=first|exact dZ|fail)only[gW,reduceIte,aS,aO,sM,oc,bp, *]|(refine dX ?_ ?_<;>(intro _;try omega))|refine eJ Cu jr ?_)
  exact⟨_,_,rfl,by rw[kf.out]⟩
 |true=>
 rw[hq] at cp;have Qy:=aoM hq;by_cases Qf:i=0
 ·subst Qf;have Br:=k0.out rfl;have kP2:ao (gE p.aA (l.drop (0+1))=gE (-1) l):=⟨by rw[<-kpp.out,aaN hq ai]⟩;have kk1:ao (∀q,0<0+1->l[0+1 - 1]?=aa q->q.aA=p.aA):=⟨λq _ h2=>by rw[show 0+1 - 1=0 from rfl,kpv.out] at h2;injection h2 with h2;rw[h2]⟩;have Ii: -1<=p.aA:=by omega
  clear hq Br mC k0 k1 kP Qy;refine cX @sM @oc @bp ?_
  repeat' (first|simp(maxSteps:=999999)(disch:=first|exact dZ|fail)only[gW,reduceIte,aS,aO,sM,oc,bp, *]|(refine dX ?_ ?_<;>(intro _;try omega))|refine eJ Cu jr ?_)
  exact⟨l.length - 1,by omega,0+1,p.aA,by omega,rfl,(by first|exact kP2|trivial),(by first|exact Ii|trivial),⟨λq=>absurd q ai⟩,(by first|exact kk1|trivial),by simp⟩
 ·obtain⟨q,tK⟩:∃q,l[i - 1]?=aa q:=⟨_,aU ai⟩;have QV:=k1.out q ai tK;obtain⟨lq0,-⟩:=BA (s:=4) tK;rw[QV] at lq0;have Lu:(0:Int)<(i:Int):=by omega
  have jW:(i:Int) - 1=((i - 1:Nat):Int):=by omega
  have alM:((i - 1:Nat):Int)<(l.length:Int):=by omega
  clear tK;by_cases c3:p.aA<=dk
  ·have kf:ao (res=aB):=⟨by rw[kv2.out,<-kpp.out,aoS c3];rfl⟩;clear hq mC kv2 k0 k1 kP Qy QV;refine cX @sM @oc @bp ?_
   repeat' (first|simp(maxSteps:=999999)(disch:=first|exact dZ|fail)only[gW,reduceIte,aS,aO,sM,oc,bp, *]|(refine dX ?_ ?_<;>(intro _;try omega))|refine eJ Cu jr ?_)
   exact⟨_,_,rfl,by rw[kf.out]⟩
  ·have kP2:ao (gE p.aA (l.drop (i+1))=gE (-1) l):=⟨by rw[<-kpp.out,aaN hq ai]⟩;have kk1:ao (∀q,0<i+1->l[i+1 - 1]?=aa q->q.aA=p.aA):=⟨λq _ h2=>by rw[show i+1 - 1=i from rfl,kpv.out] at h2;injection h2 with h2;rw[h2]⟩;have Ii: -1<=p.aA:=(by omega);clear hq mC k0 k1 kP Qy QV;refine cX @sM @oc @bp ?_
   repeat' (first|simp(maxSteps:=999999)(disch:=first|exact dZ|fail)only[gW,reduceIte,aS,aO,sM,oc,bp, *]|(refine dX ?_ ?_<;>(intro _;try omega))|refine eJ Cu jr ?_)
   exact⟨l.length - (i+1),by omega,i+1,p.aA,by omega,rfl,(by first|exact kP2|trivial),(by first|exact Ii|trivial),⟨λq=>absurd q ai⟩,(by first|exact kk1|trivial),by simp⟩
def af9{ae}{ag aj}{ep}{text}{l}(h1:de ae ag=0)(h2:mc ae ep aj=ah)(h3:text.length<=65536):
 cP ae ag ep aj text l=if F3 ae ag l=ah then 0 else 420:=by
 unfold cP;unfold mc at h2;rw[aJ (by simp[h1]),aJ (by rw[h2];simp),aJ ai];unfold F3;by_cases q1:64<l.length
 ·rw[aH q1,cS (ai:¬l.length<=64)];simp
 rw[aJ q1,b8 (ai:l.length<=64)];cases q2:gE (-1) l with
 |false=>simp|true=>
  rw[aJ bJ];obtain⟨w,ok,e⟩:=fV ae ag (l.map Pr.aA);dsimp only;by_cases q3:l.length=0
  ·rw[aH (.inr (.inr q3)),cS (ai:¬1<=l.length)];simp
  ·rw[b8 (ai:1<=l.length)];cases ok with
   |false=>simp|true=>
    by_cases q4:e=0
    ·subst q4;simp[q3]
    ·simp[q4]
def ajx(h:ar)(ep:Int)(X Y C T L:AV)(ae:List (List Int))(ag aj:List Int)(text:List UInt8)(l:List Pr)(hx:RL X ae)(hy:IL Y ag)(hc:IL C aj)(ht:BL T text)(hp:PL L l)
 (cU:ae.length<=1000000) (db:aj.length<=1000000) (dG:l.length<=1000000):
 ∃r h',W8.call 50 [.agg (aN ep X Y C),T,L] h=aa (r,h')/\r=.ret (im (cP ae ag ep aj text l)):=by
 have bx:=uL (ep:=ep) hx hy hc;have c1:=Wd X Y ae ag hx hy cU;have c2:=amM ep X Y C ae ag aj hx hy hc db;obtain⟨_,H2,c3,rfl⟩:=aoR (h.push (aN ep X Y C)) ep X Y C L ae ag l bx hx hy hp cU dG;have b0:=bg h (aN ep X Y C);have l0:aI aq Gt (h.push (aN ep X Y C)) 27 (.ptr (.box h.boxes.length) 0)=aa (.agg (aN ep X Y C)):=zZ b0 rfl;have l1:aI aq Gt (h.push (aN ep X Y C)) 25 (.ptr (.box h.boxes.length) 1)=aa (.agg [X,Y]):=by rw[iP xL D0 b0 (jS rfl)];rfl
 have lt:=ht.dQ;have kE:=ao.mk (@af9 ae ag aj ep text l);have kE0:ao (de ae ag≠0->cP ae ag ep aj text l=de ae ag):=⟨λq=>by unfold cP;rw[aH q]⟩;have kE1:ao (de ae ag=0->mc ae ep aj=aB->cP ae ag ep aj text l=380):=⟨λq1 q2=>by unfold mc at q2;unfold cP;rw[aJ (by simp[q1]),aH (by rw[q2];rfl)]⟩;have kE2:ao (de ae ag=0->mc ae ep aj=ah->65536<text.length->cP ae ag ep aj text l=2):=⟨λq1 q2 q3=>by unfold mc at q2;unfold cP;rw[aJ (by simp[q1]),aJ (by rw[q2];simp),aH q3]⟩;generalize cP ae ag ep aj text l=res at *
 obtain⟨H0,hH⟩:∃H0,h.push (aN ep X Y C)=H0:=⟨_,rfl⟩;rw[hH] at c3 l0 l1;clear b0 hx hy hc ht hp;generalize aN ep X Y C=K at *
 unfold im at c1;refine di rfl Tryz.func50 rfl ?_;by_cases q1:de ae ag=0;rotate_left 1
 ·have kf:=ao.mk (kE0.out q1);have bE:decide (de ae ag=0)=aB:=cS q1;generalize de ae ag=pe at *
  clear q1 kE kE0 kE1 kE2;refine bK @Jz @bu @hH @gv ?_;exact⟨_,_,rfl,by rw[kf.out];rfl⟩
 rw[q1] at c1;cases q2:mc ae ep aj with
 |false=>rw[q2] at c2;have kf:=ao.mk (kE1.out q1 q2);clear q1 q2 kE kE0 kE1 kE2;refine bK @Jz @bu @hH @gv ?_;exact⟨_,_,rfl,by rw[kf.out];rfl⟩
 |true=>
 rw[q2] at c2;by_cases q3:65536<text.length
 ·have q3I:(65536:Int)<((text.length:Nat):Int):=by omega
  have kf:=ao.mk (kE2.out q1 q2 q3);clear q1 q2 q3 kE kE0 kE1 kE2;refine bK @Jz @bu @hH @gv ?_;exact⟨_,_,rfl,by rw[kf.out];rfl⟩
 have q3I:¬(65536:Int)<((text.length:Nat):Int):=by omega
 have kf:=ao.mk (kE.out q1 q2 ai);clear q1 q2 q3 kE kE0 kE1 kE2;cases q4:F3 ae ag l with
 |false=>rw[q4] at c3 kf;refine bK @Jz @bu @hH @gv ?_;exact⟨_,_,rfl,by rw[kf.out];rfl⟩
 |true=>rw[q4] at c3 kf;refine bK @Jz @bu @hH @gv ?_;exact⟨_,_,rfl,by rw[kf.out];rfl⟩
def Va{ae}{ag au}(hp:de ae ag=0)(hw:fU (-1) au=ah):(fV ae ag au).2.2=0:=by unfold fV;rw[aJ (by rw[hp];simp),hw];simp only[JV,kj,if_false];split<;>rfl
def TH(ep:Int)(X Y C S W L N:AV):List AV:=[im ep,X,Y,C,S,W,L,N]
abbrev nl:AV:=.list .nil 0 []
def TF:dJ aq 27=aa 4:=aw
def avK:dJ aq 29=aa 1:=aw
def avL:dJ aq 36=aa 1:=aw
def amj:∃i,aq.info? 85=aa i/\i.size=4/\i.bytes<=64/\(i.zero.map λz=>z.cells.size)=aa 4:=by
 have h:(match aq.info? 85 with|some i=>Nat.beq i.size 4&&Nat.ble i.bytes 64&&decide ((i.zero.map λz=>z.cells.size)=aa 4)|none=>aB)=ah:=aw;cases hi:aq.info? 85 with
 |none=>rw[hi] at h;cases h
 |some i=>rw[hi] at h;simp only[bI,decide_eq_true_eq] at h;exact⟨i,rfl,Nat.eq_of_beq_eq_true h.1.1,jS h.1.2,h.2⟩
def agE(p):gG aq 29 1 [(0,.agg (cq p))]=aa (.list .tight 4 [cq p]):=aw
def afz{H}{k}{n0 sz}{l}{p}(hl:l.length<1000000)(hs:sz=4∨(l=[]/\k=.nil))(hk:du n0 H k):
 hU aq H #[29,29] (.list k sz (eY l)) (.list .tight 4 [cq p])=aa (.list (.free H.tn) 4 (eY (l++[p])),H.app k):=by
 have:=OF (T:=29) (E:=85) (n:=4) (H:=H) (k:=k) (n0:=n0) (sz:=sz) (es:=eY l) (r:=cq p) wg amj ai (by rw[vK];omega) (hs.imp_right λq=>⟨by rw[q.1];rfl,q.2⟩) hk;rw[this];unfold eY;rw[mY];rfl
structure TI(h H:ar)(X Y:AV)(T:List AV)(t:Tok):Prop where
 ext:Ext h H
 ok:cK H=ah
 can:du h.tn H t
 pb:H.boxes[h.boxes.length]?=aa [X,Y]
 tb:H.boxes[h.boxes.length+1]?=aa T
section
variable {h H:ar} {X Y:AV} {T:List AV} {t:Tok}
def TI.app(b:TI h H X Y T t):TI h (H.app t) X Y T (.free H.tn):=by have gr:=Grown.one b.can b.ok b.ext.tn;exact⟨gr.ext b.ext (aL _),gr.ok,gr.can,by rw[eC];exact b.pb,by rw[eC];exact b.tb⟩
def TI.push(b:TI h H X Y T t)(cs:List AV):TI h (H.push cs) X Y T t:=⟨b.ext.trans (.push _ _),b.ok,by rw[AZ];exact b.can,bh b.pb,bh b.tb⟩
def TI.put(b:TI h H X Y T t)(T2:List AV):TI h (H.put (h.boxes.length+1) T2) X Y T2 t:=by have hl:=(aW.1 b.tb).1;exact⟨b.ext.fZ ai _,b.ok,by rw[Cv];exact b.can,by rw[dh ai];exact b.pb,eO hl⟩
def TI.nil(b:TI h H X Y T t):TI h H X Y T .nil:=⟨b.ext,b.ok,.inl rfl,b.pb,b.tb⟩
end
section
variable {H:ar} {b:Nat} {ep:Int} {X Y C S W L N x:AV}
def stS(hb:H.boxes[b]?=aa (TH ep X Y C S W L N))(hx:x.cd=aa [x]):cE aq H 36 (.ptr (.box b) 4) x=aa (H.put b (TH ep X Y C x W L N)):=
 fK (off:=4) (cs:=TH ep X Y C S W L N) (xs:=[x]) hx avL hb rfl (jS rfl)
def RL.A0{x}{l}(h:RL x l):x.cd=aa [x]:=by obtain⟨k,s,xs,rfl,-⟩:=h.form;rfl
def PL.A0{x}{l}(h:PL x l):x.cd=aa [x]:=by obtain⟨k,s,rfl,-⟩:=h;rfl
def IL.A0{x}{l}(h:IL x l):x.cd=aa [x]:=by obtain⟨k,s,rfl,-⟩:=h;rfl
end
structure axh(ae:List (List Int))(ag aj:List Int)(sh:List (Int × Int))(au:List Int)(l:List Pr)(nn:List Int)(X Y C S W L N:AV):Prop where
 x:RL X ae
 y:IL Y ag
 c:IL C aj
 s:SL S sh
 w:IL W au
 p:PL L l
 n:IL N nn
 wl:au.length<=16
 nl:nn.length=2 * au.length
 sl:sh.length<=1000
 inn:∀p∈sh,0<=p.1/\p.1<ag.length
 cl:aj.length<=1000000
 ll:l.length<=1000000
structure TB(h H:ar)(T:List AV)(t:Tok):Prop where
 ext:Ext h H
 ok:cK H=ah
 can:du h.tn H t
 tb:H.boxes[h.boxes.length]?=aa T
section
variable {h H:ar} {T:List AV} {t:Tok}
def TB.app(b:TB h H T t):TB h (H.app t) T (.free H.tn):=by have gr:=Grown.one b.can b.ok b.ext.tn;exact⟨gr.ext b.ext (aL _),gr.ok,gr.can,by rw[eC];exact b.tb⟩
def TB.push(b:TB h H T t)(cs:List AV):TB h (H.push cs) T t:=⟨b.ext.trans (.push _ _),b.ok,by rw[AZ];exact b.can,bh b.tb⟩
def TB.start(bB:cK h=ah)(T:List AV):TB h (h.push T) T .nil:=⟨.push _ _,bB,.inl rfl,bg _ _⟩
end
def ada:(iB aq 50).bind AV.cd=aa [im 0,im 0]:=aw
def Ni:dJ aq 50=aa 2:=aw
def afs:gY aq 50=aa ah:=aw
def IQ{H}{b}{x y}(hb:H.boxes[b]?=aa [im x,im y]):aI aq Gt H 50 (.ptr (.box b) 0)=aa (.agg [im x,im y]):=by rw[iP afs Ni hb (aL 2)];rfl
def Ts{H}{b}{x y u v}(hb:H.boxes[b]?=aa [im x,im y]):cE aq H 50 (.ptr (.box b) 0) (.agg [im u,im v])=aa (H.put b [im u,im v]):=
 fK (off:=0) (cs:=[im x,im y]) (xs:=[im u,im v]) rfl Ni hb rfl (aL 2)
def zl(z:List Int)(k:Nat):Int:=(z.take k).foldl dj 0
def afd{z}{k}(h:k<z.length):zl z (k+1)=dj (zl z k) (al z k):=by unfold zl;rw[fE (aU h),oI,fB h];rfl
structure pU(au N:List Int)(l:List Pr):Prop where
 len:l.length=au.length
 nl:N.length=2 * au.length
 ok:∀x∈N,okF x
 at_:∀i<au.length,∃no:Int,0<=no/\no<4096/\l[i]?=aa ⟨al au i,no,(bH Gn (al N (2 * i)):Nat),(bH Gn (al N (2 * i+1)):Nat)⟩
def pU.wY{au N}{l}(c:pU au N l){i}(h:i<au.length):okF (al N (2 * i))/\okF (al N (2 * i+1)):=⟨c.ok _ (Ht (by rw[c.nl];omega)),c.ok _ (Ht (by rw[c.nl];omega))⟩
def pU.lJ{au N}{l}(c:pU au N l):l.map Pr.aA=au:=by
 refine rW λi=>?_;rcases ez i au.length with h|h
 ·obtain⟨no,-,-,q⟩:=c.at_ i h;rw[ey,q,ft,fB h,aU h]
 ·rw[u7 (by rw[bF,c.len];exact h),u7 h]
def WE(n):bN ((bH Gn n:Nat):Int)=ah:=by have h:=xd rV n;unfold bN;rw[dW,h,Gz,decide_eq_true_eq];have:=(elem_iff.1 h).1;omega
def aoU:∀{l:List Pr} {dk:Int},fU dk (l.map Pr.aA)=ah->(∀p∈l,0<=p.no/\p.no<4096/\bN p.d=ah/\bN p.e=ah)->gE dk l=ah:=by
 intro l
 induction l with
 |nil=>intro _ _ _;rfl|cons p l ih=>intro dk h1 h2;rw[eL,fU] at h1;simp only[bI,decide_eq_true_eq] at h1;obtain⟨q1,q2,q3,q4⟩:=h2 p gq;rw[NT.gE,ih h1.2 λq hq=>h2 q (fM _ hq),q3,q4];simp only[Gz,bI,decide_eq_true_eq];omega
def pU.mem{au N}{l}(c:pU au N l){p}(hp:p∈l):∃i,∃(_:i<au.length) (no:Int),0<=no/\no<4096/\l[i]?=aa p/\p=⟨al au i,no,(bH Gn (al N (2 * i)):Nat),(bH Gn (al N (2 * i+1)):Nat)⟩:=by obtain⟨i,hi⟩:=List.getElem?_of_mem hp;have cY:=(aW.1 hi).1;rw[c.len] at cY;obtain⟨no,n1,n2,q⟩:=c.at_ i cY;rw[hi] at q;injection q with q;exact⟨i,cY,no,n1,n2,hi,q⟩
def pU.Sc{au N}{l}(c:pU au N l)(hw:fU (-1) au=ah):gE (-1) l=ah:=by refine aoU (by rw[c.lJ];exact hw) λp hp=>?_;obtain⟨i,hi,no,n1,n2,-,rfl⟩:=c.mem hp;exact⟨n1,n2,WE _,WE _⟩
def yu(au:List Int)(k:Int):Nat:=au.idxOf k
def ZR{au}(hn:au.Nodup){i}(h:i<au.length):yu au (al au i)=i:=by unfold yu;rw[fB h];exact hn.idxOf_getElem i h
def pU.anr{au N}{l}(c:pU au N l)(hw:fU (-1) au=ah):Oc l (λk=>al N (2 * yu au k)) (λk=>al N (2 * yu au k+1)):=by intro p hp;obtain⟨i,hi,no,n1,n2,-,rfl⟩:=c.mem hp;simp only[ZR (Sh hw).2 hi];exact⟨trivial,trivial⟩
def aoD{ae}{ag s}(hl:ae.length=ag.length)(k):rI ag [k] (qa ae s)=nq ag (jR ae s) k:=by
 unfold rI nq ga qa;rw[hl];have e:∀(L:List Nat),(∀i∈L,i<ae.length)->(L.map λi=>(((i:Nat):Int),px (ae.getD i []) s)).flatMap (BM ag [k])=(L.filter λi=>decide (al ag i=k)).map λi=>(((i:Nat):Int),al (jR ae s) i):=by
  intro L
  induction L with
  |nil=>intro _;rfl|cons i L ih=>
   intro hL;have hi:=hL i gq;rw[eL,NX,ih λj hj=>hL j (fM _ hj),B1];unfold BM;rw[dW];by_cases q:al ag i=k
   ·rw[aH (by simp[q]),List.filter_cons_of_pos (by simp[q]),eL,eL,Tm hi];rfl
   ·rw[aJ (by simp[q]),List.filter_cons_of_neg (by simp[Ne.symm q])];rfl
 exact e _ λi hi=>by rw[hl];exact gf.1 hi
section
variable {ae:List (List Int)} {ag au N s y:List Int} {l:List Pr} {text:List UInt8} {ep:Int}
def O8{aj:List Int}(c:pU au N l)(ha:fV ae ag au=(y,ah,0))(bG:au≠[])(jG:au.length<=64)(ht:text.length<=65536)(he:0<=ep/\ep<=64)(hc:aj.length=bP ae)(tD:aj.all bN=ah):cP ae ag ep aj text l=0:=by obtain⟨hp,hw,-⟩:=zj ha;unfold cP;rw[aJ (by simp[hp]),aJ (by simp[hc,tD,he.1,he.2]),aJ ai,aJ (by rw[c.len];omega),aJ (by rw[c.Sc hw];simp),c.lJ,ha];have:au.length≠0:=λq=>bG (List.length_eq_zero_iff.1 q);simp[c.len,this]
def A2(hs:s.length=bP ae):(cO s).length=bP ae/\(cO s).all bN=ah:=⟨by unfold cO;rw[bF,hs],aip⟩
def aiH(c:pU au N l)(ha:fV ae ag au=(y,ah,0))(bG:au≠[])(jG:au.length<=64)(ht:text.length<=65536)(he:0<=ep/\ep<=64)(hs:s.length=bP ae){i:Nat}(hi:i<au.length):
 vL ae ag ep (cO s) text l (al au i) (nq ag (jR ae s) (al au i)) (al N (2 * i)) (al N (2 * i+1))=
  (qU ae ag (cO s) text l (al au i) (al N (2 * i)) (al N (2 * i+1)) (nq ag (jR ae s) (al au i)),0):=by
 obtain⟨hp,hw,-⟩:=zj ha;unfold vL;rw[aJ (by rw[O8 c ha bG jG ht he (A2 hs).1 (A2 hs).2];simp)];obtain⟨no,-,-,q⟩:=c.at_ i hi;have hm:=dy q;exact anF hp hs (c.Sc hw) hm rfl rfl (c.wY hi).1 (c.wY hi).2
def aiF(c:pU au N l)(ha:fV ae ag au=(y,ah,0))(bG:au≠[])(jG:au.length<=64)(ht:text.length<=65536)(he:0<=ep/\ep<=64)(hs:s.length=bP ae){i:Nat}(hi:i<au.length){z:Int}(hz:okF z):
 ki ae ag ep (cO s) text l (al au i) z=
  (decide (z=qU ae ag (cO s) text l (al au i) (al N (2 * i)) (al N (2 * i+1)) (nq ag (jR ae s) (al au i))),0):=by
 obtain⟨hp,hw,-⟩:=zj ha;unfold ki;rw[aJ (by rw[O8 c ha bG jG ht he (A2 hs).1 (A2 hs).2];simp)];obtain⟨no,-,-,q⟩:=c.at_ i hi;have hm:=dy q;have qP:=aaM (c.Sc hw) hm;unfold uq;rw[qP];simp only[uK.2 hz,JV,kj,if_false];rw[ajT hp hs rfl rfl hz]
def aiJ(c:pU au N l)(ha:fV ae ag au=(y,ah,0))(hs:s.length=bP ae):
 sW (al (cO s) 0) text ((ek (al (cO s) 0) text l:Nat):Int) (((bO au.length).map λi=>qU ae ag (cO s) text l (al au i) (al N (2 * i)) (al N (2 * i+1)) (nq ag (jR ae s) (al au i))).foldl dj 0)=ah:=by
 obtain⟨hp,hw,-⟩:=zj ha;have Q8:=MZ (text:=text) (l:=l) (by rw[c.lJ];exact ha) hs (c.anr hw);rw[c.lJ] at Q8;have e:(au.map λk=>qU ae ag (cO s) text l k (al N (2 * yu au k)) (al N (2 * yu au k+1)) (nq ag (jR ae s) k))=(bO au.length).map λi=>qU ae ag (cO s) text l (al au i) (al N (2 * i)) (al N (2 * i+1)) (nq ag (jR ae s) (al au i)):=by
  refine rW λi=>?_;rcases ez i au.length with h|h
  ·have hx:=ZR (Sh hw).2 h;rw[ey,ey,List.getElem?_range h,aU h,ft,ft];rw[fB h] at hx ⊢;rw[hx]
  ·rw[u7 (by simpa using h),u7 (by simpa using h)]
 rw[e] at Q8;exact Q8
end
def R3:List (List Int):=[[1,1],[1,2],[1,3]]
def O3:List Int:=[0,1,2]
def S2:List Int:=[10,4]
def D2:List UInt8:=[116,101,120,116]
def pA:Pr:=⟨0,0,(bH Gn 5:Nat),(bH Gn 6:Nat)⟩
def pB:Pr:=⟨2,2,(bH Gn 7:Nat),(bH Gn 8:Nat)⟩
def U5:fV R3 O3 [0,2]=([536870896,0,536870894],ah,0):=by decide+kernel
abbrev C3:List Int:=cO S2
abbrev b3(k:Int):Int:=((fC (al C3 0) D2 [pA,pB] k:Nat):Int)
abbrev V9:Int:=((ek (al C3 0) D2 [pA,pB]:Nat):Int)
def x3:Int:=dj (dj 5 (df 6 (b3 0))) (df V9 21)
def y3:Int:=dj (dj 7 (df 8 (b3 2))) (df V9 1073741778)
def X3:AV:=.list .tight 1 [[.list .tight 1 (ints [1,1])],[.list .tight 1 (ints [1,2])],[.list .tight 1 (ints [1,3])]]
def T3:AV:=.list .held 1 (bf D2)
def ahd(h)(bB:cK h=ah)(es):∃H5 H6,h.fresh 1 es=(.list (.free h.tn) 1 es,H5)/\oa aq H5 28 28 (.list (.free h.tn) 1 es)=aa (.list .held 1 es,H6)/\Ext h H6/\H6.boxes=h.boxes:=by
 have eR:alive {h with tn:=h.tn+1} h.tn=ah:=by
  unfold cK at bB;unfold alive;simp only[bI,decide_eq_true_eq,Bool.not_eq_true'];refine⟨Nat.lt_succ_self _,?_⟩;cases hc:h.dead.contains h.tn with|false=>rfl|true=>have:=eK.1 bB h.tn (by simpa using hc);simp at this
 have u28:=Tryz.underlying28;have u5:aq.underlying 5=aa (.int .u8):=aw;refine⟨{h with tn:=h.tn+1},{h with tn:=h.tn+1,dead:=h.tn::h.dead},rfl,?_,?_,rfl⟩
 ·unfold oa;rw[u28];simp only[u5,eR,and_self,if_true]
 ·refine⟨λ_ _ q=>q,λ_ _ q=>q,He _,λn hn q=>?_,λho=>?_⟩
  ·rcases iU.1 q with q|q
   ·omega
   ·exact q
  ·unfold cK at *
   rw[List.all_cons,bI];refine⟨bJ,eK.2 λx hx=>?_⟩;have:=eK.1 ho x hx;simp at this ⊢;omega
def af1(a b):nH aq 50 [(0,im a),(1,im b)]=aa (.agg [im a,im b]):=aw
section
variable {ae:List (List Int)} {ag cJ axQ:List Int} {cC sm:Int} {text:List UInt8}
def w9(ae:List (List Int))(ag s au N:List Int)(l:List Pr)(text:List UInt8)(i:Nat):Int:=
 qU ae ag (cO s) text l (al au i) (al N (2 * i)) (al N (2 * i+1)) (nq ag (jR ae s) (al au i))
end
def BL.A0{x}{b}(h:BL x b):x.cd=aa [x]:=by obtain⟨k,s,rfl,-⟩:=h;rfl
def jX(l:List Pr)(z:List Int):Bool:=decide (z.length=l.length)&&z.all cA
def qk(l:List Pr)(i:Nat):Int:=al (l.map Pr.aA) i
def oM(ae:List (List Int))(ag:List Int)(ep:Int)(aj:List Int)(text:List UInt8)(l:List Pr)(z:List Int):(Int × Int) × Bool × Int:=
 if cP ae ag ep aj text l≠0 then ((0,0),aB,cP ae ag ep aj text l)
 else if jX l z=aB then ((0,0),aB,1)
 else if sW (al aj 0) text ((ek (al aj 0) text l:Nat):Int) (z.foldl dj 0) then ((((ek (al aj 0) text l:Nat):Int),z.foldl dj 0),ah,0)
 else ((0,0),aB,0)
def xP(ae:List (List Int))(ag:List Int)(ep:Int)(aj:List Int)(text:List UInt8)(l:List Pr)(z:List Int)(i:Nat):List Int:=
 if (ki ae ag ep aj text l (qk l i) (al z i)).1 then [] else [qk l i]
def nG(ae:List (List Int))(ag:List Int)(ep:Int)(aj:List Int)(text:List UInt8)(l:List Pr)(z:List Int)(k:Nat):List Int:=
 (bO k).flatMap (xP ae ag ep aj text l z)
def nb(ae:List (List Int))(ag:List Int)(ep:Int)(aj:List Int)(text:List UInt8)(l:List Pr)(z:List Int):List Int × Int:=
 if cP ae ag ep aj text l≠0 then ([],cP ae ag ep aj text l)
 else if jX l z=aB then ([],1)
 else (nG ae ag ep aj text l z l.length,0)
def OI(ae)(ag)(ep)(aj)(text)(l)(z)(k):
 nG ae ag ep aj text l z (k+1)=nG ae ag ep aj text l z k++xP ae ag ep aj text l z k:=by
 unfold nG;rw[nD,List.flatMap_append];simp
def DL{l}{z}:jX l z=ah↔z.length=l.length/\∀x∈z,okF x:=by unfold jX;simp only[bI,decide_eq_true_eq,eK,uK]
def Rr{l}{i}{p}(h:l[i]?=aa p):qk l i=p.aA:=by have hl:=(aW.1 h);obtain⟨hi,e⟩:=hl;unfold qk;rw[fB (by rw[bF];exact hi),qx,e]
def aoN{l}{i:Nat}{p}(h:l[i]?=aa p):∃q,nu l p.aA=aa q:=by
 unfold nu;cases hq:l.find? λx=>decide (x.aA=p.aA) with|some q=>exact⟨q,rfl⟩|none=>have:=List.find?_eq_none.1 hq p (dy h);simp at this
def ajX{ae}{ag aj}{ep}{text}{l}{z}(hb:cP ae ag ep aj text l=0)(hz:jX l z=ah){i}(hi:i<l.length):
 (ki ae ag ep aj text l (qk l i) (al z i)).2=0:=by
 obtain⟨hl,ho⟩:=DL.1 hz;have hp:l[i]?=aa l[i]:=aU hi;rw[Rr hp];obtain⟨q,hq⟩:=aoN hp;have iO:cA (al z i)=ah:=uK.2 (ho _ (Ht ai));unfold ki uq;rw[aJ (by rw[hb];simp),hq];simp[iO]
def ajZ{α:Type}(f:Nat->α)(p:Nat->Bool):∀L:List Nat,L.flatMap (λi=>if p i then [] else [f i])=(L.filter λi=> !p i).map f:=by
 intro L
 induction L with
 |nil=>rfl|cons a L ih=>rw[NX,ih,B1];cases p a<;>rfl
def filter_one{n i}(h:i<n):((bO n).filter λj=>decide (j=i))=[i]:=by
 induction n with
 |zero=>omega|succ n ih=>
  rw[nD,y7];by_cases e:i=n
  ·subst e;have:((bO i).filter λj=>decide (j=i))=[]:=adV.2 λj hj=>(by have:=gf.1 hj;simp;omega);rw[this];simp
  ·rw[ih ai];have:decide (n=i)=aB:=cS ai;simp[this]
section
variable {ae:List (List Int)} {ag au N s y z:List Int} {l:List Pr} {text:List UInt8} {ep:Int}
def oY(ae:List (List Int))(ag s au N:List Int)(l:List Pr)(text:List UInt8):List Int:=(bO au.length).map (w9 ae ag s au N l text)
def Mf:(oY ae ag s au N l text).length=au.length:=by unfold oY;simp
def Se{i:Nat}(h:i<au.length):al (oY ae ag s au N l text) i=w9 ae ag s au N l text i:=by unfold oY;rw[fB (by simpa using h),qx,List.getElem_range]
def aaO(i:Nat):okF (w9 ae ag s au N l text i):=aaQ
def Sf(c:pU au N l):jX l (oY ae ag s au N l text)=ah:=by refine DL.2 ⟨by rw[Mf,c.len],λx hx=>?_⟩;unfold oY at hx;obtain⟨i,-,rfl⟩:=List.mem_map.1 hx;exact aaO i
def aiG(c:pU au N l)(i:Nat):qk l i=al au i:=by unfold qk;rw[c.lJ]
structure pV(ae:List (List Int))(ag au N s y:List Int)(l:List Pr)(text:List UInt8)(ep:Int):Prop where
 xX:pU au N l
 acc:fV ae ag au=(y,ah,0)
 ne:au≠[]
 wl:au.length<=64
 tl:text.length<=65536
 ep:0<=ep/\ep<=64
 sl:s.length=bP ae
def pV.Kv(c:pV ae ag au N s y l text ep):cP ae ag ep (cO s) text l=0:=
 O8 c.xX c.acc c.ne c.wl c.tl c.ep (A2 c.sl).1 (A2 c.sl).2
def pV.MZ(c:pV ae ag au N s y l text ep):sW (al (cO s) 0) text ((ek (al (cO s) 0) text l:Nat):Int) ((oY ae ag s au N l text).foldl dj 0)=ah:=
 aiJ c.xX c.acc c.sl
def pV.comb(c:pV ae ag au N s y l text ep):oM ae ag ep (cO s) text l (oY ae ag s au N l text)=
 ((((ek (al (cO s) 0) text l:Nat):Int),(oY ae ag s au N l text).foldl dj 0),ah,0):=by
 unfold oM;rw[aJ (by rw[c.Kv];simp),aJ (by rw[Sf c.xX];simp),c.MZ,aH rfl]
def pV.aij(c:pV ae ag au N s y l text ep)(hz:jX l z=aB):oM ae ag ep (cO s) text l z=((0,0),aB,1):=by unfold oM;rw[aJ (by rw[c.Kv];simp),aH hz]
def pV.agJ(c:pV ae ag au N s y l text ep)(hz:jX l z=aB):nb ae ag ep (cO s) text l z=([],1):=by unfold nb;rw[aJ (by rw[c.Kv];simp),aH hz]
def pV.VD(c:pV ae ag au N s y l text ep)(hz:jX l z=ah):nb ae ag ep (cO s) text l z=
 (((bO au.length).filter λi=> !decide (al z i=w9 ae ag s au N l text i)).map (al au),0):=by
 unfold nb;rw[aJ (by rw[c.Kv];simp),aJ (by rw[hz];simp)];rw[<-ajZ];unfold nG;rw[c.xX.len];refine congrArg (λq=>(q,(0:Int))) ?_;obtain⟨hl,ho⟩:=DL.1 hz;have key:∀L:List Nat,(∀i∈L,i<au.length)->L.flatMap (xP ae ag ep (cO s) text l z)=L.flatMap λi=>if decide (al z i=w9 ae ag s au N l text i) then [] else [al au i]:=by
  intro L
  induction L with
  |nil=>intro _;rfl|cons i L ih=>intro hL;have hi:=hL i gq;rw[NX,NX,ih λj hj=>hL j (fM _ hj)];unfold xP;rw[aiG c.xX,aiF c.xX c.acc c.ne c.wl c.tl c.ep c.sl hi (ho _ (Ht (by rw[hl,c.xX.len];exact hi)))];rfl
 exact key _ λi hi=>gf.1 hi
def pV.agL(c:pV ae ag au N s y l text ep):nb ae ag ep (cO s) text l (oY ae ag s au N l text)=([],0):=by rw[c.VD (Sf c.xX)];refine congrArg (λq=>(q,(0:Int))) ?_;rw[List.map_eq_nil_iff];refine adV.2 λi hi=>?_;rw[Se (gf.1 hi)];simp
def pV.agM(c:pV ae ag au N s y l text ep){i:Nat}(hi:i<au.length){v:Int}(hv:okF v)(bG:v≠w9 ae ag s au N l text i):
 nb ae ag ep (cO s) text l ((oY ae ag s au N l text).set i v)=([al au i],0)/\jX l ((oY ae ag s au N l text).set i v)=ah:=by
 have ok:jX l ((oY ae ag s au N l text).set i v)=ah:=by
  obtain⟨h1,h2⟩:=DL.1 (Sf (ae:=ae) (ag:=ag) (s:=s) (text:=text) c.xX);refine DL.2 ⟨by rw[mJ];exact h1,λx hx=>?_⟩;rcases List.mem_or_eq_of_mem_set hx with q|rfl
  ·exact h2 x q
  ·exact hv
 refine⟨?_,ok⟩;rw[c.VD ok];refine congrArg (λq=>(q,(0:Int))) ?_;have e:((bO au.length).filter λj=> !decide (al ((oY ae ag s au N l text).set i v) j=w9 ae ag s au N l text j))=((bO au.length).filter λj=>decide (j=i)):=by
  refine List.filter_congr λj hj=>?_;have hj:=gf.1 hj;rw[fB (by rw[mJ,Mf];exact hj),List.getElem_set];by_cases q:i=j
  ·subst q;simp[bG]
  ·rw[aJ q,<-fB (by rw[Mf];exact hj),Se hj];have:¬j=i:=λz=>q z.symm;simp[this]
 rw[e,filter_one hi];rfl
end
def DS:Tryz.f37.results.toList=[.tmp 4]:=aw
def abZ:Tryz.f95.results.toList=[.tmp 6]:=aw
def atN(h:ar)(x y:AV)(a b:List Int)(hx:IL x a)(hy:IL y b)(eR:a.length<=1000000)(jE:b.length<=1000000):
 ∃r h',W6.call 37 [x,y] h=aa (r,h')/\h'=h/\r=.ret (.v (.bool (decide (a=b)))):=by
 have lx:=hx.dQ;have ly:=hy.dQ;have kk:=ao.mk (az hx hy);clear hx hy;refine di rfl Tryz.func37 rfl ?_;by_cases hl:a.length=b.length;rotate_left 1
 ·have hI:¬((a.length:Nat):Int)=((b.length:Nat):Int):=by omega
  have kr:ao (decide (a=b)=aB):=⟨cS λq=>hl (by rw[q])⟩;clear hl;refine bC @DS ?_;exact⟨_,_,rfl,rfl,by rw[kr.out]⟩
 have hI:((a.length:Nat):Int)=((b.length:Nat):Int):=by omega
 have kl:=ao.mk hl;refine bC @DS ?_;refine cH (λm e H=>∃i:Nat,i<=a.length/\m=a.length - i/\ao (a.take i=b.take i)/\e.get 0=x/\e.get 1=y/\e.get 5=.v (.int .i64 (i:Nat))/\e.defers=[]/\H=h) ?_ a.length _ _ ?_;rotate_left 1
 ·refine⟨0,cD _,rfl,⟨rfl⟩,?_,?_,?_,?_,rfl⟩<;>exact gR
 rintro m e H ⟨i,hi,rfl,kt,g0,g1,g5,hd,rfl⟩;by_cases aC:i<a.length
 ·have ix:=kk.out.1.ix aC;have iy:=kk.out.2.ix (i:=i) ai;have ldx:=ev (H:=H) (s:=1) aC;have ldy:=ev (H:=H) (l:=b) (i:=i) (s:=1) ai;have ea:a[i]?=aa (al a i):=by rw[aU aC,fB aC]
  have eb:b[i]?=aa (al b i):=by rw[aU ai,fB ai]
  have fw:(i:Int)<(a.length:Int):=by omega
  by_cases hq:al a i=al b i
  ·have kt2:ao (a.take (i+1)=b.take (i+1)):=⟨by rw[fE ea,fE eb,kt.out,hq]⟩;have dq:decide (al a i≠al b i)=aB:=(by simp[hq]);clear ea eb kt;generalize al a i=va at *
   generalize al b i=vb at *
   subst hq;clear hl hI;refine bC @DS ?_;refine eJ Hy aw ?_;refine bC @DS ?_;exact⟨a.length - (i+1),by omega,i+1,by omega,rfl,(by first|exact kt2|trivial),by simp⟩
  ·have kr:ao (decide (a=b)=aB):=⟨cS λq=>hq (by rw[q])⟩;clear ea eb kt hl hI;generalize al a i=va at *
   generalize al b i=vb at *
   refine bC @DS ?_;refine eJ Hy aw ?_;refine bC @DS ?_;exact⟨_,_,rfl,rfl,by rw[kr.out]⟩
 ·have gx:i=a.length:=by omega
  subst gx;have kr:ao (decide (a=b)=ah):=⟨b8 (by have:=kt.out;rw[fN,List.take_of_length_le ai] at this;exact this)⟩;clear hl hI;refine bC @DS ?_;exact⟨_,_,rfl,rfl,by rw[kr.out]⟩
def agG(a b)(t):gG aq 94 3 [(0,.agg (aM 1 a [] .nil 0 [])),(1,.agg (aM 1 b [] .nil 0 [])),(2,.agg (aM 2 0 t .nil 0 []))]=aa (.list .tight 4 [aM 1 a [] .nil 0 [],aM 1 b [] .nil 0 [],aM 2 0 t .nil 0 []]):=aw
def ak3(h:ar)(p key:Int)(T:AV)(text:List UInt8)(hp:0<=p/\p<=4611686018427387903)(hk:0<=key/\key<=4611686018427387903)(ht:BL T text)(hl:text.length<=1000000):
 ∃r h',W6.call 95 [im p,im key,T] h=aa (r,h')/\h'=h/\r=.ret (im ((uT p key text:Nat):Int)):=by
 have c1:=Mq p;have c2:=Mq key;have c3:=ab1 text;have hr:oL [.int p,.int key,.text text] [aM 1 p [] .nil 0 [],aM 1 key [] .nil 0 [],aM 2 0 text .nil 0 []]:=by
  refine⟨rfl,λi v r hv hr=>?_⟩
  match i with
  |0=>injection hv with hv;injection hr with hr;subst hv;subst hr;exact .int p hp
  |1=>injection hv with hv;injection hr with hr;subst hv;subst hr;exact .int key hk
  |2=>injection hv with hv;injection hr with hr;subst hv;subst hr;exact .text text ai
  |i+3=>simp at hv
 have c4:=abt hr rfl .tight bJ;have hv:dm (.list [.int p,.int key,.text text]) (aM 3 0 [] (bX .tight) 4 [aM 1 p [] .nil 0 [],aM 1 key [] .nil 0 [],aM 2 0 text .nil 0 []]):=.list _ _ _ _ rfl (λ_=>rfl) bJ hr.2;have bR:=Tn p key text;obtain⟨t,c5⟩:=abn hv (by simp[gQ,iE]) ai;have c6:=abr yJ (dU (.list [.int p,.int key,.text text])) t ai aZ;have hh:nj (gO yJ (dU (.list [.int p,.int key,.text text])))=uT p key text:=rfl;rw[hh] at c6;rw[show yJ=[115,105,103,110] from rfl] at c6;have bk:=agG p key text;obtain⟨kt,st,rfl,bT⟩:=ht;have cv:=λH=>KG (k:=kt) bT H;generalize uT p key text=n at *
 generalize aM 3 0 [] (bX .tight) 4 [aM 1 p [] .nil 0 [],aM 1 key [] .nil 0 [],aM 2 0 text .nil 0 []]=R at *
 generalize aM 1 p [] .nil 0 []=r0 at *
 generalize aM 1 key [] .nil 0 []=r1 at *
 generalize aM 2 0 text .nil 0 []=r2 at *
 generalize dU (.list [.int p,.int key,.text text])=eb at *
 clear hr hv bR hh bT;unfold sv at c3;unfold im at *
 refine di rfl Tryz.func95 rfl ?_;refine bC @abZ ?_;refine eJ Hy aw ?_;refine bC @abZ ?_;exact⟨_,_,rfl,rfl,rfl⟩
def L9:List bq:=L8++[117,51,50,170,74]
noncomputable def Sw:bq->Option (List AV->ar->Option (AV × ar)):=qG W8 L9
noncomputable abbrev W9:=whole aq Gt Sw
def VV:qu Sw L9:=xU
structure nX(X Y C T L:AV)(ae:List (List Int))(ag aj:List Int)(text:List UInt8)(l:List Pr):Prop where
 x:RL X ae
 y:IL Y ag
 c:IL C aj
 t:BL T text
 p:PL L l
structure GH(aj:List Int)(text:List UInt8)(l:List Pr):Prop where
 pos:0<aj.length
 c0:0<=al aj 0/\al aj 0<=4611686018427387903
 tl:text.length<=65536
 ll:l.length<=64
 ne:l≠[]
 ok:∀p∈l,ED p
 el:∀p∈l,bN p.d=ah/\bN p.e=ah
section
variable {X Y C T L:AV} {ae:List (List Int)} {ag aj:List Int} {text:List UInt8} {l:List Pr}
def nX.hold(g:nX X Y C T L ae ag aj text l):nX (aD X) (aD Y) (aD C) (aD T) (aD L) ae ag aj text l/\aK 0 0 0 (aD X)=ah/\aK 0 0 0 (aD Y)=ah/\aK 0 0 0 (aD C)=ah/\aK 0 0 0 (aD T)=ah/\aK 0 0 0 (aD L)=ah:=by obtain⟨h1,h2⟩:=g.x.fD;obtain⟨h3,h4⟩:=g.y.hold;obtain⟨h5,h6⟩:=g.c.hold;obtain⟨h7,h8⟩:=g.t.fD;obtain⟨h9,ru⟩:=g.p.fD;exact⟨⟨h1,h3,h5,h7,h9⟩,h2,h4,h6,h8,ru⟩
def nX.cells(g:nX X Y C T L ae ag aj text l)(ep:Int):(AV.agg (aN ep X Y C)).cd=aa (aN ep X Y C):=uL g.x g.y g.c
end
section
variable (R:Rec)
def GB:Prop:=∀ep X Y C T L ae ag aj text l aA,nX X Y C T L ae ag aj text l->GH aj text l->0<=aA/\aA<=4611686018427387903->∀h,R.call 51 [.agg (aN ep X Y C),T,L,im aA] h=aa (.ret (im ((fC (al aj 0) text l aA:Nat):Int)),h)
def GD:Prop:=∀ep X Y C T L ae ag aj text l,nX X Y C T L ae ag aj text l->ae.length<=1000000->aj.length<=1000000->l.length<=1000000->∀h,R.call 50 [.agg (aN ep X Y C),T,L] h=aa (.ret (im (cP ae ag ep aj text l)),h)
def Ek:Prop:=∀p key T text,0<=p/\p<=4611686018427387903->0<=key/\key<=4611686018427387903->BL T text->text.length<=1000000->∀h,R.call 95 [im p,im key,T] h=aa (.ret (im ((uT p key text:Nat):Int)),h)
end
section
variable {R:Rec} {L:List bq}
def GB.up(hg:L.contains 51=ah)(c:GB R):GB (up R L):=λep X Y C T L' ae ag aj text l aA g f hk=>by obtain⟨g2,f1,f2,f3,f4,f5⟩:=g.hold;exact bm (b7:=[.agg (aN ep (aD X) (aD Y) (aD C)),aD T,aD L',im aA]) hg rfl (by simp[aN,im,aR,aK,f1,f2,f3,f4,f5]) (c ep _ _ _ _ _ ae ag aj text l aA g2 f hk _) rfl rfl
def GD.up(hg:L.contains 50=ah)(c:GD R):GD (up R L):=λep X Y C T L' ae ag aj text l g q1 q2 q3=>by obtain⟨g2,f1,f2,f3,f4,f5⟩:=g.hold;exact bm (b7:=[.agg (aN ep (aD X) (aD Y) (aD C)),aD T,aD L']) hg rfl (by simp[aN,aR,aK,f1,f2,f3,f4,f5]) (c ep _ _ _ _ _ ae ag aj text l g2 q1 q2 q3 _) rfl rfl
def Ek.up(hg:L.contains 95=ah)(c:Ek R):Ek (up R L):=λp key T text hp hk ht hl=>by obtain⟨h1,h2⟩:=ht.fD;exact bm (b7:=[im p,im key,aD T]) hg rfl (by simp[im,aR,aK,h2]) (c p key _ text hp hk h1 hl _) rfl rfl
end
def auk:Ek W7:=λp key T text hp hk ht hl=>by obtain⟨h1,h2⟩:=ht.fD;obtain⟨r,h',c,-,rfl⟩:=ak3 ⟨[],[],0,[]⟩ p key _ text hp hk h1 hl;exact bm (L:=L7) (b7:=[im p,im key,aD T]) rfl rfl (by simp[im,aR,aK,h2]) c rfl rfl
def aul:Ek W8:=auk.up rfl
def aum:Ek W9:=aul.up rfl
def aa3:xx W9 62:=apu.up rfl
def RP:AB W9 73:=anW.up rfl
def ahN:Ef W9:=ajJ.up rfl
def V3:GB W9:=λep X Y C T L' ae ag aj text l aA g f hk=>by obtain⟨g2,f1,f2,f3,f4,f5⟩:=g.hold;obtain⟨r,h',c,-,rfl⟩:=ags ⟨[],[],0,[]⟩ ep _ _ _ _ _ aj text l aA (g2.cells ep) g2.c g2.t g2.p f.pos f.c0 f.tl f.ll f.ne f.ok hk;exact bm (L:=L9) (b7:=[.agg (aN ep (aD X) (aD Y) (aD C)),aD T,aD L',im aA]) rfl rfl (by simp[aN,im,aR,aK,f1,f2,f3,f4,f5]) c rfl rfl
def ahJ:GD W9:=λep X Y C T L' ae ag aj text l g q1 q2 q3=>by obtain⟨g2,f1,f2,f3,f4,f5⟩:=g.hold;obtain⟨r,h',c,rfl⟩:=ajx ⟨[],[],0,[]⟩ ep _ _ _ _ _ ae ag aj text l g2.x g2.y g2.c g2.t g2.p q1 q2 q3;exact bm (L:=L9) (b7:=[.agg (aN ep (aD X) (aD Y) (aD C)),aD T,aD L']) rfl rfl (by simp[aN,aR,aK,f1,f2,f3,f4,f5]) c rfl rfl
def MK:Tryz.f52.results.toList=[.tmp 6]:=by kernel_rfl
def ML:Tryz.f53.results.toList=[.tmp 6]:=by kernel_rfl
def apb(h:ar)(ep:Int)(X Y C T L:AV)(ae:List (List Int))(ag aj:List Int)(text:List UInt8)(l:List Pr)(g:nX X Y C T L ae ag aj text l)(f:GH aj text l):
 ∃r h',W9.call 52 [.agg (aN ep X Y C),T,L] h=aa (r,h')/\h'=h.push (aN ep X Y C)/\r=.ret (im ((iQ (al aj 0) text l:Nat):Int)):=by
 have bx:=g.cells ep;have cb:=λk hk=>V3 ep X Y C T L ae ag aj text l k g f hk;have b0:=bg h (aN ep X Y C);have l0:aI aq Gt (h.push (aN ep X Y C)) 27 (.ptr (.box h.boxes.length) 0)=aa (.agg (aN ep X Y C)):=zZ b0 rfl;obtain⟨kp,sp,rfl,mb⟩:=g.p;have bD:sp=4:=mb f.ne;subst bD;have u29:=wg;have z85:=sT;have cY:=vK l;have kf:=ao.mk (az f cb);have dG:=f.ll;have QT:ao (iQ (al aj 0) text l=l.foldl (λx p=>x * iZ (al aj 0) text l p%P) 1):=⟨rfl⟩;generalize iQ (al aj 0) text l=pt at *
 obtain⟨H0,hH⟩:∃H0,h.push (aN ep X Y C)=H0:=⟨_,rfl⟩;rw[hH] at l0;rw[hH];clear b0 g f mb cb;generalize aN ep X Y C=K at *
 refine di rfl Tryz.func52 rfl ?_;refine cX @MK @bu @hH ?_;refine bM.gen λe0 aG bE cZ cV=>?_;have f1:e0.get 1=T:=by rw[aG];exact gS
 have f2:e0.get 2=.list kp 4 (eY l):=by rw[aG];exact gS
 have f3:e0.get 3=.ptr (.box h.boxes.length) 0:=by rw[aG];exact gS
 have f7:e0.get 7=.v (.int .i64 (((l.take 0).foldl (λx p=>x * iZ (al aj 0) text l p%P) 1:Nat):Int)):=by rw[aG];exact gR
 have f8:e0.get 8=.v (.int .i64 (0:Nat)):=by rw[aG];exact gR
 have fd:e0.defers=[]:=by rw[bE];exact gS
 clear aG bE cZ cV bx hH;refine cH (λm e H=>∃i:Nat,i<=l.length/\m=l.length - i/\e.get 1=T/\e.get 2=.list kp 4 (eY l)/\e.get 3=.ptr (.box h.boxes.length) 0/\e.get 7=.v (.int .i64 (((l.take i).foldl (λx p=>x * iZ (al aj 0) text l p%P) 1:Nat):Int))/\e.get 8=.v (.int .i64 (i:Nat))/\e.defers=[]/\H=H0) ?_ l.length _ _ ?_;rotate_left 1
 ·exact⟨0,cD _,rfl,f1,f2,f3,f7,f8,fd,rfl⟩
 clear f1 f2 f3 f7 f8 fd;rintro m e H ⟨i,hi,rfl,g1,g2,g3,g7,g8,hd,rfl⟩;by_cases aC:i<l.length
 ·obtain⟨p,hv⟩:∃p,l[i]?=aa p:=⟨_,aU aC⟩;have qN:=dy hv;have qP:=kf.out.1.ok p qN;obtain⟨fT,zI⟩:=kf.out.1.el p qN;obtain⟨ld0,-,ld2,me⟩:=BA (s:=4) hv;have c1:=kf.out.2 p.aA (qP p.aA bJ);have c2:=aa3 p.e ((fC (al aj 0) text l p.aA:Nat):Int);have c3:=RP p.d (fH p.e ((fC (al aj 0) text l p.aA:Nat):Int));have hN:jL p.d (fH p.e ((fC (al aj 0) text l p.aA:Nat):Int))=((iZ (al aj 0) text l p:Nat):Int):=by rw[zx fT (wy zI _),qK zI];unfold iZ;rw[dW];unfold fC;rw[I7]
  rw[hN] at c3;have bG:=DI (c0:=al aj 0) (text:=text) (l:=l) fT zI;have ZC:elem ((l.take i).foldl (λx p=>x * iZ (al aj 0) text l p%P) 1)=ah:=
   BN (λq hq=>DI (kf.out.1.el q (pY hq)).1 (kf.out.1.el q (pY hq)).2) A4
  have c4:=RP (((l.take i).foldl (λx p=>x * iZ (al aj 0) text l p%P) 1:Nat):Int) ((iZ (al aj 0) text l p:Nat):Int);have bT:jL (((l.take i).foldl (λx p=>x * iZ (al aj 0) text l p%P) 1:Nat):Int) ((iZ (al aj 0) text l p:Nat):Int)=(((l.take (i+1)).foldl (λx p=>x * iZ (al aj 0) text l p%P) 1:Nat):Int):=by rw[zx (rq ZC) (rq bG),fE hv,oI,dW,dW];rfl
  rw[bT] at c4;have fw:(i:Int)<(l.length:Int):=by omega
  clear hv qN qP fT zI hN bG ZC bT;generalize (((l.take i).foldl (λx p=>x * iZ (al aj 0) text l p%P) 1:Nat):Int)=x0 at *
  generalize ((iZ (al aj 0) text l p:Nat):Int)=nn at *
  generalize ((fC (al aj 0) text l p.aA:Nat):Int)=bn at *
  generalize fH p.e bn=pw at *
  unfold im at *
  refine cX @MK @oc @bp ?_
  repeat' (first|simp(maxSteps:=999999)(disch:=first|exact dZ|fail)only[gW,reduceIte,aS,aO,MK,oc,bp, *]|(refine dX ?_ ?_<;>(intro _;try omega))|refine eJ VV jr ?_)
  exact⟨l.length - (i+1),by omega,i+1,by omega,rfl,by simp⟩
 ·have gx:i=l.length:=by omega
  subst gx;rw[fN,<-QT.out] at g7;refine bC @MK ?_;exact⟨_,_,rfl,rfl,rfl⟩
def apc{c0}{text}{l}(h:∀p∈l,bN p.d=ah/\bN p.e=ah):0<=((iQ c0 text l:Nat):Int)/\((iQ c0 text l:Nat):Int)<=4611686018427387903:=by
 have he:elem (iQ c0 text l)=ah:=BN (λp hp=>DI (h p hp).1 (h p hp).2) A4;have:=(elem_iff.1 he).2.1;have hP:P<=4611686018427387903:=by decide
 omega
def ahQ(h:ar)(ep:Int)(X Y C T L:AV)(ae:List (List Int))(ag aj:List Int)(text:List UInt8)(l:List Pr)(g:nX X Y C T L ae ag aj text l)(f:GH aj text l):
 ∃r h',W9.call 53 [.agg (aN ep X Y C),T,L] h=aa (r,h')/\Ext h h'/\r=.ret (im ((ek (al aj 0) text l:Nat):Int)):=by
 have bx:=g.cells ep;obtain⟨_,H2,c1,e2,rfl⟩:=apb (h.push (aN ep X Y C)) ep X Y C T L ae ag aj text l g f;have c2:=aum ((iQ (al aj 0) text l:Nat):Int) (al aj 0) T text (apc f.el) f.c0 g.t (by have:=f.tl;omega);have uy:uT ((iQ (al aj 0) text l:Nat):Int) (al aj 0) text=ek (al aj 0) text l:=rfl;rw[uy] at c2;have b0:=bg h (aN ep X Y C);have l0:aI aq Gt (h.push (aN ep X Y C)) 27 (.ptr (.box h.boxes.length) 0)=aa (.agg (aN ep X Y C)):=zZ b0 rfl;obtain⟨kc,sc,rfl,vC⟩:=g.c;have jV:=f.pos;have bD:sc=1:=vC (by intro e;rw[e] at jV;simp at jV);subst bD;have l2:aI aq Gt (h.push (aN ep X Y (.list kc 1 (ints aj)))) 23 (.ptr (.box h.boxes.length) 3)=aa (.list kc 1 (ints aj)):=cQ mj b0 rfl;have l3:aI aq Gt H2 23 (.ptr (.box h.boxes.length) 3)=aa (.list kc 1 (ints aj)):=by rw[e2];exact cQ mj (bh b0) rfl
 have l4:=λH=>ev (H:=H) (l:=aj) (i:=0) (s:=1) jV;have X2:Ext h H2:=by rw[e2];exact(Ext.push _ _).trans (.push _ _)
 have u23:=dY;have z3:=fR;have cY:=dE aj;have Lu:(0:Int)<(aj.length:Int):=by omega
 have z0:(0:Int).toNat=0:=rfl;have svs:=JC kc 1 aj;clear b0 e2 uy vC jV g f;generalize ((ek (al aj 0) text l:Nat):Int)=ch at *
 generalize ((iQ (al aj 0) text l:Nat):Int)=pt at *
 generalize al aj 0=c0 at *
 obtain⟨H0,hH⟩:∃H0,h.push (aN ep X Y (.list kc 1 (ints aj)))=H0:=⟨_,rfl⟩;rw[hH] at l0 l2 c1;generalize aN ep X Y (.list kc 1 (ints aj))=K at *
 unfold im at *
 refine di rfl Tryz.func53 rfl ?_;refine cX @ML @bu @hH ?_;refine nW [(3,5),(3,7)] VV jr (λp hp=>?_) ?_
 ·simp only[iU,xC,or_false] at hp;rcases hp with rfl|rfl
  ·refine sS (x:=.ptr (.box h.boxes.length) 3) (v:=.list kc 1 (ints aj)) jr rfl rfl rfl jr (svs) ?_ ?_<;>(simp only[iV,gF];exact oj @ML @il @bp @and_self)
  ·refine sS (x:=.elem 1 (ints aj) 0 0) (v:=.v (.int .i64 c0)) jr rfl rfl rfl jr (by simp[fA,mU]) ?_ ?_<;>(simp only[iV,gF];exact oj @ML @il @bp @and_self)
 refine cX @ML @il @bp ?_;exact⟨_,_,rfl,X2,rfl⟩
def tZ:List bq:=L9++[52,53,131]
noncomputable def Sp:bq->Option (List AV->ar->Option (AV × ar)):=qG W9 tZ
noncomputable abbrev qE:=whole aq Gt Sp
def VS:qu Sp tZ:=xU
section
variable (R:Rec)
def adv:Prop:=∀ep X Y C T L ae ag aj text l,nX X Y C T L ae ag aj text l->GH aj text l->∀h,R.call 53 [.agg (aN ep X Y C),T,L] h=aa (.ret (im ((ek (al aj 0) text l:Nat):Int)),h)
end
def ahG:adv qE:=λep X Y C T L' ae ag aj text l g f=>by obtain⟨g2,f1,f2,f3,f4,f5⟩:=g.hold;obtain⟨r,h',c,-,rfl⟩:=ahQ ⟨[],[],0,[]⟩ ep _ _ _ _ _ ae ag aj text l g2 f;exact bm (L:=tZ) (b7:=[.agg (aN ep (aD X) (aD Y) (aD C)),aD T,aD L']) rfl rfl (by simp[aN,aR,aK,f1,f2,f3,f4,f5]) c rfl rfl
def ahA:GB qE:=V3.up rfl
def V8:GD qE:=ahJ.up rfl
def ahL:Ef qE:=ahN.up rfl
def Pf{x}(h:bN x=ah):0<=x/\x<=4611686018427387903:=by
 have h1:=(elem_iff.1 (Cz h)).2.1;unfold bN at h;simp only[bI,decide_eq_true_eq] at h;have hP:P<=4611686018427387903:=by decide
 have:=h.1;omega
def ajM{ae}{ag aj}{ep}{text}{l}(h:cP ae ag ep aj text l=0):GH aj text l:=by
 obtain⟨h1,h2,h3,h4,h5,h6⟩:=Cq h;obtain⟨n1,-⟩:=tx h1;have hm:=Ae h6;refine⟨ai,Pf ?_,h5,h4,?_,λp hp n hn=>?_,λp hp=>⟨(hm p hp).2.2.2.2.1,(hm p hp).2.2.2.2.2⟩⟩
 ·refine eK.1 h3 _ ?_;rw[fB (ai:0<aj.length)];exact iK _
 ·rintro rfl;unfold cP at h;rw[aJ (by simp[h1])] at h;split at h
  ·cases h
  ·rw[aJ ai,aJ bJ] at h;simp[NT.gE] at h
 ·obtain⟨q1,q2,q3,q4,q5,q6⟩:=hm p hp;simp only[iU,xC,or_false] at hn;rcases hn with rfl|rfl|rfl|rfl
  ·omega
  ·omega
  ·exact Pf q5
  ·exact Pf q6
def MM:Tryz.f58.results.toList=[.tmp 4]:=by kernel_rfl
def MN:Tryz.f60.results.toList=[.tmp 4]:=by kernel_rfl
def J7(l:List Pr)(aA i:Int):Prop:=(nu l aA=none/\i= -1)∨∃(j:Nat) (q:Pr),i=(j:Nat)/\l[j]?=aa q/\nu l aA=aa q
def amn(h:ar)(x:AV)(l:List Pr)(aA:Int)(hx:PL x l)(hl:l.length<=1000000):
 ∃r h',W6.call 58 [x,im aA] h=aa (r,h')/\h'=h/\∃i,r=.ret (im i)/\J7 l aA i:=by
 obtain⟨k,s,rfl,hs⟩:=hx;have ks:=ao.mk hs;clear hs;have u29:=wg;have z85:=sT;have cY:=vK l;unfold im;refine di rfl Tryz.func58 rfl ?_;refine bC @MM ?_;refine cH (λm e H=>∃i:Nat,i<=l.length/\m=l.length - i/\ao ((l.take i).find? (λp=>decide (p.aA=aA))=none)/\e.get 0=.list k s (eY l)/\e.get 1=.v (.int .i64 aA)/\e.get 5=.v (.int .i64 (i:Nat))/\e.defers=[]/\H=h) ?_ l.length _ _ ?_;rotate_left 1
 ·refine⟨0,cD _,rfl,⟨rfl⟩,?_,?_,?_,?_,rfl⟩<;>exact gR
 rintro m e H ⟨i,hi,rfl,kf,g0,g1,g5,hd,rfl⟩;by_cases aC:i<l.length
 ·have bD:s=4:=ks.out (by intro q;rw[q] at aC;simp at aC);subst bD;obtain⟨p,hp⟩:∃p,l[i]?=aa p:=⟨_,aU aC⟩;obtain⟨ld,-⟩:=BA (s:=4) hp;have fw:(i:Int)<(l.length:Int):=by omega
  have kp:=ao.mk hp;clear hp;by_cases hc:p.aA=aA
  ·have eM:decide (p.aA=aA)=ah:=(by simp[hc]);have kI:ao (J7 l aA (i:Nat)):=⟨.inr ⟨i,p,rfl,kp.out,by unfold nu;have e:l=l.take i++p::l.drop (i+1):=(by have:=List.take_append_drop i l;rw[y6 aC,(aW.1 kp.out).2] at this;exact this.symm);rw[e,NW,kf.out,aeB];simp only[adW,eM]⟩⟩;have khc:=ao.mk hc;generalize p.aA=v at *
   clear hc
   repeat' (first|simp(maxSteps:=999999)(disch:=first|exact dZ|fail)only[gW,reduceIte,aS,aO,MM,bp,oc, *]|refine dX ?_ ?_<;>(intro _;try omega))
   all_goals first|exact⟨_,_,rfl,rfl,_,rfl,kI.out⟩|exact absurd khc.out (by assumption)
  ·have eM:decide (p.aA=aA)=aB:=(by simp[hc]);have kf2:ao ((l.take (i+1)).find? (λp=>decide (p.aA=aA))=none):=⟨by rw[fE kp.out,NW,kf.out,aeB];simp only[adW,eM,List.find?_nil]⟩;generalize p.aA=v at *
   repeat' (first|simp(maxSteps:=999999)(disch:=first|exact dZ|fail)only[gW,reduceIte,aS,aO,MM,bp,oc, *]|refine dX ?_ ?_<;>(intro _;try omega))
   all_goals exact⟨l.length - (i+1),by omega,i+1,by omega,rfl,kf2,by simp⟩
 ·have:i=l.length:=by omega
  subst this;have hn:=kf.out;rw[fN] at hn;have kI:ao (J7 l aA (-1)):=⟨.inl ⟨hn,rfl⟩⟩;clear hn;refine bC @MM ?_;exact⟨_,_,rfl,rfl,_,rfl,kI.out⟩
def ash(h:ar)(bB:cK h=ah)(x y:AV)(ae:List (List Int))(ag:List Int)(aA:Int)(hx:RL x ae)(hy:IL y ag)(hl:ag.length<=1000000):
 ∃r h',W6.call 60 [.agg [x,y],im aA] h=aa (r,h')/\∃t,r=.ret (.list t 1 (ints (bW (ga ag aA)))):=by
 have bx:=tU hx hy;have b0:=bg h [x,y];obtain⟨ky,sy,rfl,lj⟩:=hy;have ks:=ao.mk lj;have u23:=dY;have z3:=fR;have cY:=dE ag;have bn:gG aq 23 0 []=aa (.list .tight 1 []):=by kernel_rfl
 have kok:ao (cK (h.push [x,.list ky sy (ints ag)])=ah):=⟨bB⟩;have kB:=ao.mk b0;have kX:=ao.mk (Ext.push h [x,.list ky sy (ints ag)]);obtain⟨H0,hH⟩:∃H0,h.push [x,.list ky sy (ints ag)]=H0:=⟨_,rfl⟩;rw[hH] at kok kB kX;clear lj hx b0;unfold im;refine di rfl Tryz.func60 rfl ?_;refine cX @MN @bu @hH ?_;refine bM.gen λe0 aG bE cZ cV=>?_;have f1:e0.get 1=.v (.int .i64 aA):=by rw[aG];exact gS
 have f2:e0.get 2=.ptr (.box h.boxes.length) 0:=by rw[aG];exact gS
 have f5:e0.get 5=.list .tight 1 (ints (bW ((bO 0).filter λi=>decide (al ag i=aA)))):=by rw[aG];exact gR
 have f6:e0.get 6=.v (.int .i64 (0:Nat)):=by rw[aG];exact gR
 have fd:e0.defers=[]:=by rw[bE];exact gS
 clear aG bE cZ cV bx hH bn;refine cH (λm e H=>∃(i:Nat) (t:Tok),i<=ag.length/\m=ag.length - i/\ao (Ext h H/\cK H=ah/\du h.tn H t/\H.boxes[h.boxes.length]?=aa [x,.list ky sy (ints ag)])/\e.get 1=.v (.int .i64 aA)/\e.get 2=.ptr (.box h.boxes.length) 0/\e.get 5=.list t 1 (ints (bW ((bO i).filter λi=>decide (al ag i=aA))))/\e.get 6=.v (.int .i64 (i:Nat))/\e.defers=[]) ?_ ag.length _ _ ?_;rotate_left 1
 ·exact⟨0,.tight,cD _,rfl,⟨kX.out,kok.out,.inr (.inl rfl),kB.out⟩,f1,f2,f5,f6,fd⟩
 clear f1 f2 f5 f6 fd kX kok kB;rintro m e H ⟨i,t,hi,rfl,kM,g1,g2,g5,g6,hd⟩;have l1:=DC kM.out.2.2.2;by_cases aC:i<ag.length
 ·have bD:sy=1:=ks.out (by intro q;rw[q] at aC;simp at aC);subst bD;have ld:=ev (H:=H) (s:=1) aC;have fw:(i:Int)<(ag.length:Int):=by omega
  by_cases hc:al ag i=aA
  ·have eM:decide (al ag i=aA)=ah:=(by simp[hc]);have ot:((bO i).filter λi=>decide (al ag i=aA)).length<=i:=(by have:=List.length_filter_le (λi=>decide (al ag i=aA)) (bO i);rw[List.length_range] at this;exact this);have bl:=pq (i:Int);have ap:=tf (H:=H) (x:=(i:Int)) (es:=bW ((bO i).filter λi=>decide (al ag i=aA))) (sz:=1) (by unfold bW;rw[bF];omega) (.inl rfl) kM.out.2.2.1;have bT:bW ((bO i).filter λi=>decide (al ag i=aA))++[(i:Int)]=bW ((bO (i+1)).filter λi=>decide (al ag i=aA)):=(by rw[nD,y7,B1,aH eM];unfold bW;simp);rw[bT] at ap;have hG:=Grown.one kM.out.2.2.1 kM.out.2.1 kM.out.1.tn;have kM2:ao (Ext h (H.app t)/\cK (H.app t)=ah/\du h.tn (H.app t) (.free H.tn)/\(H.app t).boxes[h.boxes.length]?=aa [x,.list ky 1 (ints ag)]):=⟨hG.ext kM.out.1 (aL _),hG.ok,hG.can,by rw[eC];exact kM.out.2.2.2⟩;have khc:=ao.mk hc;clear hG kM bT ot hc;generalize al ag i=v at *
   repeat' (first|simp(maxSteps:=999999)(disch:=first|exact dZ|fail)only[gW,reduceIte,aS,aO,MN,eQ,bp, *]|refine dX ?_ ?_<;>(intro _;try omega))
   all_goals first|exact⟨ag.length - (i+1),by omega,i+1,.free H.tn,by omega,rfl,(by first|exact kM2|trivial),by simp⟩|exact absurd khc.out (by assumption)
  ·have eM:decide (al ag i=aA)=aB:=(by simp[hc]);have bT:bW ((bO i).filter λi=>decide (al ag i=aA))=bW ((bO (i+1)).filter λi=>decide (al ag i=aA)):=(by rw[nD,y7,B1,aJ (by rw[eM];simp)];simp);rw[bT] at g5;clear bT;generalize al ag i=v at *
   repeat' (first|simp(maxSteps:=999999)(disch:=first|exact dZ|fail)only[gW,reduceIte,aS,aO,MN,eQ,bp, *]|refine dX ?_ ?_<;>(intro _;try omega))
   all_goals exact⟨ag.length - (i+1),by omega,i+1,t,by omega,rfl,(by first|exact kM|trivial),by simp⟩
 ·have:i=ag.length:=by omega
  subst this;refine bQ @MN @eQ ?_;exact⟨_,_,rfl,t,rfl⟩
def MB:Tryz.f142.results.toList=[.tmp 6]:=by kernel_rfl
def aqL(a b):∀h,W7.call 140 [im a,im b] h=aa (.ret (.tuple [im (jL a b),im (mM a b)]),h):=bm (L:=L7) rfl rfl rfl (abp a b _) rfl rfl
def apP(h:ar)(x y z:AV)(ae:List (List Int))(ag aj:List Int)(hx:RL x ae)(hy:IL y ag)(hz:IL z aj)(row:Nat)(dV:row<ae.length)(vn:(ae.getD row []).length=aj.length)(Bi:aj.all bN=ah)(db:aj.length<=1000000):
 ∃r h',W7.call 142 [.agg [x,y],z,im (row:Nat)] h=aa (r,h')/\r=.ret (im (ja aj (ae.getD row []):Nat)):=by
 have bx:=tU hx hy;have b0:=bg h [x,y];have l1:=qS b0;have hv:ae[row]?=aa (ae.getD row []):=by rw[eE,aU dV];rfl
 generalize ae.getD row []=R at *
 obtain⟨k,s,xs,rfl,hs,dR,eG⟩:=hx;obtain⟨kz,sz,rfl,dP⟩:=hz;have bD:s=1:=hs (by intro q;rw[q] at dV;simp at dV);subst bD;obtain⟨a,fS⟩:∃a,xs[row]?=aa a:=⟨_,aU ai⟩;obtain⟨ka,sa,rfl,jj⟩:=eG _ a R fS hv;have ld:=λH=>mf (H:=H) (s:=1) fS;have cY:(xs.map λa=>[a]).length=ae.length:=by rw[bF];exact dR
 have QY:(row:Int)<(ae.length:Int):=by omega
 have vw:=dE R;have Qn:=dE aj;have u23:=dY;have u22:=jf;have z23:=iA;have z3:=fR;obtain⟨H0,hH⟩:∃H0,h.push [.list k 1 (xs.map λa=>[a]),y]=H0:=⟨_,rfl⟩;rw[hH] at l1;have kk:=ao.mk (az dP (az jj Bi));have kRL:=ao.mk vn;clear hs eG dP jj fS hv dV Bi b0 hy dR vn;unfold im;refine di rfl Tryz.func142 rfl ?_;refine cX @MB @bu @hH ?_;refine bM.gen λe0 aG bE cZ cV=>?_;have f1:e0.get 1=.list kz sz (ints aj):=by rw[aG];exact gS
 have f2:e0.get 2=.v (.int .i64 (row:Nat)):=by rw[aG];exact gR
 have f3:e0.get 3=.ptr (.box h.boxes.length) 0:=by rw[aG];exact gS
 have f7:e0.get 7=.v (.int .i64 (1:Nat)):=by rw[aG];exact gR
 have f8:e0.get 8=.v (.int .i64 (0:Nat)):=by rw[aG];exact gR
 have fd:e0.defers=[]:=by rw[bE];exact gS
 clear aG bE cZ cV bx hH;refine cH (λm e H=>∃j:Nat,j<=aj.length/\m=aj.length - j/\e.get 1=.list kz sz (ints aj)/\e.get 2=.v (.int .i64 (row:Nat))/\e.get 3=.ptr (.box h.boxes.length) 0/\e.get 7=.v (.int .i64 (rN aj R j:Nat))/\e.get 8=.v (.int .i64 (j:Nat))/\e.defers=[]/\H=H0) ?_ aj.length _ _ ?_;rotate_left 1
 ·exact⟨0,cD _,rfl,f1,f2,f3,f7,f8,fd,rfl⟩
 clear f1 f2 f3 f7 f8 fd;rintro m e H ⟨j,hj,rfl,g1,g2,g3,g7,g8,hd,rfl⟩;by_cases aC:j<aj.length
 ·have jz:sz=1:=kk.out.1 (by intro q;rw[q] at aC;simp at aC);subst jz;have vp:sa=1:=kk.out.2.1 (by intro q;have:=kRL.out;rw[q] at this;simp at this;omega);subst vp;have fw:(j:Int)<(aj.length:Int):=by omega
  have alN:(j:Int)<(R.length:Int):=by have:=kRL.out;omega
  have lc:=λH=>ev (H:=H) (l:=aj) (i:=j) (s:=1) aC;have lr:=λH=>ev (H:=H) (l:=R) (i:=j) (s:=1) ai;have he:bN (al aj j)=ah:=by have:=kk.out.2.2;rw[eK] at this;exact this _ (by rw[fB aC];exact iK _)
  have c2:=aps (al aj j) (al R j);have c3:=aqL ((rN aj R j:Nat):Int) (fH (al aj j) (al R j));have hK:=rq (Mj (row:=R) kk.out.2.2 j hj);have e3:jL ((rN aj R j:Nat):Int) (fH (al aj j) (al R j))=((rN aj R (j+1):Nat):Int):=by rw[zx hK (wy he _),qK he,Sy,dW,dW]
  have e5:mM ((rN aj R j:Nat):Int) (fH (al aj j) (al R j))=0:=by unfold mM;rw[aH ⟨hK,wy he _⟩]
  rw[e3,e5] at c3;clear he hK e3 e5;generalize fH (al aj j) (al R j)=pw at *
  generalize al aj j=cj at *
  generalize al R j=rj at *
  unfold im at *
  refine cX @MB @dK @bp ?_
  repeat' (first|simp(maxSteps:=999999)(disch:=first|exact dZ|fail)only[gW,reduceIte,aS,aO,MB,dK,bp, *]|(refine dX ?_ ?_<;>(intro _;try omega))|refine eJ AW jr ?_)
  exact⟨aj.length - (j+1),by omega,j+1,by omega,rfl,by simp⟩
 ·have:j=aj.length:=by omega
  subst this;have e:rN aj R aj.length=ja aj R:=rfl;refine bC @MB ?_;exact⟨_,_,rfl,by rw[<-e]⟩
section
variable (R:Rec)
structure yU(x y z:AV)(ae:List (List Int))(ag aj:List Int):Prop where
 x:RL x ae
 y:IL y ag
 z:IL z aj
 pe:de ae ag=0
 cl:aj.length=bP ae
 el:aj.all bN=ah
 rl:ae.length<=1000000
 cb:aj.length<=1000000
def NI:Prop:=∀x y ae ag a v,RL x ae->IL y ag->∀h,R.call 191 [.agg [x,y],.agg [im a,im v]] h=aa (.ret (.v (.bool (uR ae (a,v)))),h)
def JZ:Prop:=∀x y z ae ag aj (row:Nat),yU x y z ae ag aj->row<ae.length->∀h,R.call 142 [.agg [x,y],z,im (row:Nat)] h=aa (.ret (im (ja aj (ae.getD row []):Nat)),h)
def NJ:Prop:=∀x y z ae ag (s:List (Int × Int)),RL x ae->IL y ag->SL z s->s.length<=1000000->(∀i p q,s[i]?=aa p->s[i+1]?=aa q->p.1<q.1)->∀h,R.call 169 [.agg [x,y],z] h=aa (.ret (.v (.bool (s.all (uR ae)))),h)
end
section
variable {x y z:AV} {ae:List (List Int)} {ag aj:List Int}
def yU.hold(g:yU x y z ae ag aj):yU (aD x) (aD y) (aD z) ae ag aj/\aK 0 0 0 (aD x)=ah/\aK 0 0 0 (aD y)=ah/\aK 0 0 0 (aD z)=ah:=by obtain⟨h1,h2⟩:=g.x.fD;obtain⟨h3,h4⟩:=g.y.hold;obtain⟨h5,h6⟩:=g.z.hold;exact⟨⟨h1,h3,h5,g.pe,g.cl,g.el,g.rl,g.cb⟩,h2,h4,h6⟩
def yU.row(g:yU x y z ae ag aj){row:Nat}(hr:row<ae.length):(ae.getD row []).length=aj.length:=by obtain⟨w1,w2,w3,w4⟩:=qp g.pe;have:=w3 _ (iK hr);rw[lU hr,this.1,g.cl]
end
section
variable {R:Rec} {L:List bq}
def NI.up(hg:L.contains 191=ah)(c:NI R):NI (up R L):=λx y ae ag a v hx hy=>by obtain⟨h1,h2⟩:=hx.fD;obtain⟨h3,h4⟩:=hy.hold;exact bm (b7:=[.agg [aD x,aD y],.agg [im a,im v]]) hg rfl (by simp[aR,aK,h2,h4,im]) (c _ _ ae ag a v h1 h3 _) rfl rfl
def JZ.up(hg:L.contains 142=ah)(c:JZ R):JZ (up R L):=λx y z ae ag aj row g hr=>by obtain⟨g2,f1,f2,f3⟩:=g.hold;exact bm (b7:=[.agg [aD x,aD y],aD z,im (row:Nat)]) hg rfl (by simp[aR,aK,f1,f2,f3,im]) (c _ _ _ ae ag aj row g2 hr _) rfl rfl
def NJ.up(hg:L.contains 169=ah)(c:NJ R):NJ (up R L):=λx y z ae ag s hx hy hz hl ha=>by obtain⟨h1,h2⟩:=hx.fD;obtain⟨h3,h4⟩:=hy.hold;obtain⟨h5,h6⟩:=hz.hold;exact bm (b7:=[.agg [aD x,aD y],aD z]) hg rfl (by simp[aR,aK,h2,h4,h6]) (c _ _ _ ae ag s h1 h3 h5 hl ha _) rfl rfl
end
def apR:JZ W8:=λx y z ae ag aj row g hr=>by obtain⟨g2,f1,f2,f3⟩:=g.hold;obtain⟨r,h',c,rfl⟩:=apP ⟨[],[],0,[]⟩ _ _ _ ae ag aj g2.x g2.y g2.z row hr (g.row hr) g.el g.cb;exact bm (L:=L8) (b7:=[.agg [aD x,aD y],aD z,im (row:Nat)]) rfl rfl (by simp[aR,aK,f1,f2,f3,im]) c rfl rfl
def aim:GC W8:=Wp.up rfl
def Vv{s:List (Int × Int)}{i}{p}(hp:s[i]?=aa p):al (s.map Prod.fst) i=p.1:=by unfold al;rw[eE,ey,hp];rfl
end Go.Proofs.YtnfciiiohoafaaaGreatDoor
end
