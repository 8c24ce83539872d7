/-
  Part of the proof: VH.
-/
import Derived.Test.YtnfciiiohoafaaaGreatDoorVG
import Derived.Test.YtnfciiiohoafaaaGreatDoorVF
open Option renaming some->aa,map_eq_some_iff->dy,map_some->eW,none->ar,none_or->acJ
open Go.Proofs.Tryz renaming underlying23->dN,prog->aq,underlying29->uO,underlying22->ir,underlying94->py
open Bool renaming true->ai,false->az,and_eq_true->bL,true_and->oc,and_true->CO
open Nat renaming zero_le->cG,le_refl->aM,reduceEqDiff->aZ,le_succ->FV,lt_irrefl->FW,le_of_ble_eq_true->jZ,lt_or_ge->dV
open List renaming getElem?_eq_getElem->aT,mem_of_getElem?->dn,take_length->fI,getElem?_map->ev,length_map->bE,length_take->fj,map_append->mT,length_pos_iff->Ms,getElem?_eq_some_iff->aV,mem_cons->iq,not_mem_nil->uM,take_succ_cons->gl,take_zero->fm,drop_eq_getElem_cons->xP,ext_getElem?->qL,getElem?_eq_none->tS,range->bR,all_eq_true->ej,mem_of_mem_take->oO,find?_append->Mn,find?_cons->ab0,range_succ->nH,filter_append->zB,filter_cons->FF
open And renaming intro->av
open Go renaming FuncId->bm
open Int renaming toNat_natCast->dK
set_option maxHeartbeats 64000000
set_option maxRecDepth 100000
set_option linter.unusedSimpArgs false
set_option linter.unusedVariables false
set_option linter.constructorNameAsVariable false
set_option linter.defProp false
section
namespace Go.Proofs.YtnfciiiohoafaaaGreatDoor
open Go.AE Go.NT
def aqM:Tryz.f62.results.toList=[.tmp 4]:=by kernel_rfl
def aqQ:Tryz.f73.results.toList=[.tmp 4]:=by kernel_rfl
def aqs:Tryz.f175.results.toList=[.tmp 4]:=by kernel_rfl
def Lb:Tryz.f141.results.toList=[.tmp 4]:=by kernel_rfl
def ES:Tryz.f162.results.toList=[.tmp 2]:=by kernel_rfl
def Rc:Tryz.f64.results.toList=[.tmp 2]:=by kernel_rfl
def vO:Tryz.f47.results.toList=[.tmp 2]:=by kernel_rfl
def anm(x n)(h):W6.call 62 [im x,im n] h=aa (.ret (im (ft x n)),h):=by
 have c:=λh=>Zv x n h;unfold im at *
 refine cL rfl Tryz.func62 rfl ?_;exact lP @aqM
def ank(x n)(h):W6.call 175 [im x,im n] h=aa (.ret (im (ft x n)),h):=by
 have c:=λh=>Zv x n h;unfold im at *
 refine cL rfl Tryz.func175 rfl ?_;exact lP @aqs
def atF(x n)(h):W6.call 73 [im x,im n] h=aa (.ret (im (jx x n)),h):=by
 have c:=λh=>Zu x n h;unfold im at *
 refine cL rfl Tryz.func73 rfl ?_;exact lP @aqQ
def agd(h:ao)(x y z:AV)(ae:List (List Int))(ag aj:List Int)(hx:RL x ae)(hy:IL y ag)(hz:IL z aj)(hl:aj.length<=1000000):
 ∃r h',W6.call 141 [.agg [x,y],z] h=aa (r,h')/\h'=h.push [x,y]/\r=.ret (.v (.bool (aj.all bN&&decide (aj.length=b9 ae)))):=by
 have bx:=pQ hx hy;have c1:=af8 x y ae ag hx hy;have l0:=rk (bh h [x,y]);have hv:=λn=>Rn n;obtain⟨k,s,rfl,hs⟩:=hz;have ks:=al.mk hs;clear hs hx hy;have u23:=dN;have z3:=fH;have cK:=dp aj;obtain⟨H0,hH⟩:∃H0,h.push [x,y]=H0:=⟨_,rfl⟩;rw[hH] at l0;rw[hH];unfold im at c1 hv;refine da rfl Tryz.func141 rfl ?_;refine cR @Lb @bB @hH ?_;refine bM.gen λe0 aF bD cN cH=>?_;have f1:e0.get 1=.list k s (ints aj):=by rw[aF];exact gS
 have f2:e0.get 2=.ptr (.box h.boxes.length) 0:=by rw[aF];exact gS
 have f5:e0.get 5=.v (.int .i64 (0:Nat)):=by rw[aF];exact gR
 have fd:e0.defers=[]:=by rw[bD];exact gS
 clear aF bD cN cH bx;refine cE (λm e H=>∃i:Nat,i<=aj.length/\m=aj.length - i/\al ((aj.take i).all bN=ai)/\e.get 1=.list k s (ints aj)/\e.get 2=.ptr (.box h.boxes.length) 0/\e.get 5=.v (.int .i64 (i:Nat))/\e.defers=[]/\H=H0) ?_ aj.length _ _ ?_;rotate_left 1
 ·exact⟨0,cG _,rfl,⟨bH⟩,f1,f2,f5,fd,rfl⟩
 clear f1 f2 f5 fd;rintro m e H ⟨i,hi,rfl,ka,g1,g2,g5,hd,rfl⟩;by_cases aB:i<aj.length
 ·have bF:s=1:=ks.out (by intro q;rw[q] at aB;simp at aB);subst bF;have ld:=e7 (H:=H) (s:=1) aB;have nA:aj[i]?=aa (ak aj i):=by rw[aT aB,ga aB]
  have fA:(i:Int)<(aj.length:Int):=by omega
  have cv:=hv (ak aj i);have pM:(aj.take (i+1)).all bN=bN (ak aj i):=by rw[fW nA,List.all_append,ka.out];simp
  have kt:=al.mk (av pM (dn nA));clear pM nA hv;generalize ak aj i=n at *
  cases hq:bN n with
  |false=>rw[hq] at cv;have kf:al (aj.all bN=az):=⟨by rw[List.all_eq_false];exact⟨n,kt.out.2,by rw[hq];simp⟩⟩;clear hq;refine bV @Lb @a9 ?_;exact⟨_,_,rfl,rfl,by rw[kf.out];rfl⟩
  |true=>rw[hq] at cv;have kt2:al ((aj.take (i+1)).all bN=ai):=⟨kt.out.1.trans hq⟩;clear hq;refine bV @Lb @a9 ?_;exact⟨aj.length - (i+1),by omega,i+1,by omega,rfl,kt2,by simp⟩
 ·have:i=aj.length:=by omega
  subst this;have:=ka.out;rw[fI] at this;have kan:=al.mk this;have DW:decide ((aj.length:Int)=(b9 ae:Int))=decide (aj.length=b9 ae):=by rw[decide_eq_decide];omega
  have kd:=al.mk DW;clear this hv DW;generalize decide (aj.length=b9 ae)=dd at *
  refine bI @Lb ?_;exact⟨_,_,rfl,rfl,by rw[kan.out,kd.out];rfl⟩
def vE(p:Pr):Bool:=decide (0<=p.au)&&decide (p.au<64)&&decide (0<=p.no)&&decide (p.no<4096)&&bN p.d&&bN p.e
def amr(h:ao)(p:Pr):∃h',W6.call 162 [.agg (bQ p)] h=aa (.ret (.v (.bool (vE p))),h')/\h'=h.push (bQ p):=by
 have bx:(AV.agg (bQ p)).cD=aa (bQ p):=rfl;have b0:=bh h (bQ p);have l0:aI aq Gt (h.push (bQ p)) 3 (.ptr (.box h.boxes.length) 0)=aa (.v (.int .i64 p.au)):=dx fa b0 rfl;have l1:aI aq Gt (h.push (bQ p)) 3 (.ptr (.box h.boxes.length) 1)=aa (.v (.int .i64 p.no)):=dx fa b0 rfl;have l2:aI aq Gt (h.push (bQ p)) 3 (.ptr (.box h.boxes.length) 2)=aa (.v (.int .i64 p.d)):=dx fa b0 rfl;have l3:aI aq Gt (h.push (bQ p)) 3 (.ptr (.box h.boxes.length) 3)=aa (.v (.int .i64 p.e)):=dx fa b0 rfl;have c1:=λh=>Rn p.d h;have c2:=λh=>Rn p.e h;have kv:al (vE p=(decide (0<=p.au)&&decide (p.au<64)&&decide (0<=p.no)&&decide (p.no<4096)&&bN p.d&&bN p.e)):=⟨rfl⟩;obtain⟨H,hH⟩:∃H,h.push (bQ p)=H:=⟨_,rfl⟩;rw[hH] at l0 l1 l2 l3;rw[hH];generalize vE p=res at *
 unfold im at c1 c2;clear b0;generalize bQ p=row at *
 obtain⟨a,b,c,d⟩:=p;dsimp only at *
 refine iu rfl Tryz.func162 rfl ?_;by_cases h1:0<=a;rotate_left 1
 ·have hf:res=az:=by rw[kv.out];simp[h1]
  have dU:decide (0<=a)=az:=cT h1;clear h1 kv;subst hf;refine bG @ES @bB @hH @jg ?_;exact⟨_,rfl,rfl⟩
 have dU:decide (0<=a)=ai:=cz h1;by_cases h2:a<64;rotate_left 1
 ·have hf:res=az:=by rw[kv.out];simp[h2]
  have gu:decide (a<64)=az:=cT h2;clear h1 h2 kv;subst hf;refine bG @ES @bB @hH @jg ?_;exact⟨_,rfl,rfl⟩
 have gu:decide (a<64)=ai:=cz h2;by_cases h3:0<=b;rotate_left 1
 ·have hf:res=az:=by rw[kv.out];simp[h3]
  have tm:decide (0<=b)=az:=cT h3;clear h1 h2 h3 kv;subst hf;refine bG @ES @bB @hH @jg ?_;exact⟨_,rfl,rfl⟩
 have tm:decide (0<=b)=ai:=cz h3;by_cases h4:b<4096;rotate_left 1
 ·have hf:res=az:=by rw[kv.out];simp[h4]
  have sg:decide (b<4096)=az:=cT h4;clear h1 h2 h3 h4 kv;subst hf;refine bG @ES @bB @hH @jg ?_;exact⟨_,rfl,rfl⟩
 have sg:decide (b<4096)=ai:=cz h4;have kv2:al (res=(bN c&&bN d)):=⟨by rw[kv.out,dU,gu,tm,sg];rfl⟩;clear h1 h2 h3 h4 kv;cases hq:bN c with
 |false=>
  rw[hq] at c1;have hf:res=az:=by rw[kv2.out,hq];rfl
  subst hf;clear hq kv2;refine bG @ES @bB @hH @jg ?_;exact⟨_,rfl,rfl⟩
 |true=>
  rw[hq] at c1;have hf:res=bN d:=by rw[kv2.out,hq];rfl
  subst hf;clear hq kv2;refine bG @ES @bB @hH @jg ?_;exact⟨_,rfl,rfl⟩
def jH:(∀s ae i,iy aq 85 (.elem s ae i 0) 0=aa (.elem s ae i 0))/\(∀s ae i,iy aq 85 (.elem s ae i 0) 1=aa (.elem s ae i 1))/\(∀s ae i,iy aq 85 (.elem s ae i 0) 2=aa (.elem s ae i 2))/\∀s ae i,iy aq 85 (.elem s ae i 0) 3=aa (.elem s ae i 3):=
 ⟨λ_ _ _=>by kernel_rfl,λ_ _ _=>by kernel_rfl,λ_ _ _=>by kernel_rfl,λ_ _ _=>by kernel_rfl⟩
def Aw{l}{i s}{p}(h:l[i]?=aa p):(∀H:ao,aI aq Gt H 3 (.elem s (eS l) i 0)=aa (.v (.int .i64 p.au)))/\(∀H:ao,aI aq Gt H 3 (.elem s (eS l) i 1)=aa (.v (.int .i64 p.no)))/\(∀H:ao,aI aq Gt H 3 (.elem s (eS l) i 2)=aa (.v (.int .i64 p.d)))/\∀H:ao,aI aq Gt H 3 (.elem s (eS l) i 3)=aa (.v (.int .i64 p.e)):=by
 have hr:(eS l)[i]?=aa (bQ p):=by unfold eS;rw[ev,h];rfl
 refine⟨λH=>?_,λH=>?_,λH=>?_,λH=>?_⟩<;>(rw[rm fa hr];rfl)
def aku(h:ao)(bJ:cO h=ai)(x:AV)(l:List Pr)(hx:PL x l)(hl:l.length<=1000000):
 ∃r h',W6.call 64 [x] h=aa (r,h')/\∃t,r=.ret (.list t 1 (ints (l.map Pr.au))):=by
 obtain⟨k,s,rfl,hs⟩:=hx;have ks:=al.mk hs;clear hs;have u29:=uO;have u23:=dN;have z85:=rE;have cK:=vG l;have bn:fX aq 23 0 []=aa (.list .tight 1 []):=by kernel_rfl
 have kok:=al.mk bJ;refine da rfl Tryz.func64 rfl ?_;refine bI @Rc ?_;refine cE (λm e H=>∃(i:Nat) (t:Tok),i<=l.length/\m=l.length - i/\al (dD h.tn H t/\cO H=ai/\h.tn<=H.tn)/\e.get 0=.list k s (eS l)/\e.get 3=.list t 1 (ints ((l.take i).map Pr.au))/\e.get 4=.v (.int .i64 (i:Nat))/\e.defers=[]) ?_ l.length _ _ ?_;rotate_left 1
 ·refine⟨0,.tight,cG _,rfl,⟨.inr (.inl rfl),kok.out,aM _⟩,?_,?_,?_,?_⟩<;>first|(simp only[gW,reduceIte,aZ,aQ];done)|(exact gR)
 rintro m e H ⟨i,t,hi,rfl,kc,g0,g3,g4,hd⟩;by_cases aB:i<l.length
 ·have bF:s=4:=ks.out (by intro q;rw[q] at aB;simp at aB);subst bF;obtain⟨p,hp⟩:∃p,l[i]?=aa p:=⟨_,aT aB⟩;obtain⟨ld,-⟩:=Aw (s:=4) hp;have bl:=qa p.au;have ap:=uR (H:=H) (x:=p.au) (es:=(l.take i).map Pr.au) (sz:=1) (show((l.take i).map Pr.au).length<1099511627776 by rw[bE,fj];omega) (.inl rfl) kc.out.1;have jA:((l.take i).map Pr.au)++[p.au]=(l.take (i+1)).map Pr.au:=by rw[fW hp,mT];rfl
  rw[jA] at ap;have kc2:al (dD h.tn (H.app t) (.free H.tn)/\cO (H.app t)=ai/\h.tn<=(H.app t).tn):=⟨Nr kc.out.1 kc.out.2.1 kc.out.2.2,Dq kc.out.2.1 kc.out.1,by rw[Dr];have:=kc.out.2.2;omega⟩;have fA:(i:Int)<(l.length:Int):=by omega
  clear hp jA kc;refine cR @Rc @a9 @jH ?_;exact⟨l.length - (i+1),by omega,i+1,_,by omega,rfl,kc2,by simp⟩
 ·have:i=l.length:=by omega
  subst this;rw[fI] at g3;refine bI @Rc ?_;exact⟨_,_,rfl,t,rfl⟩
def ahw(h:ao)(x y:AV)(ae:List (List Int))(ag:List Int)(hx:RL x ae)(hy:IL y ag):
 ∃r h',W6.call 47 [.agg [x,y]] h=aa (r,h')/\h'=h.push [x,y]/\∃b,r=.ret (.v (.bool b))/\(b=ai->ae.length<=80/\ag.length<=80):=by
 have bx:=pQ hx hy;have l0:=pO (bh h [x,y]);have l1:=Cn (bh h [x,y]);obtain⟨k,s,xs,rfl,hs,dB,eg⟩:=hx;obtain⟨ky,sy,rfl,jL⟩:=hy;have kk:=al.mk (av hs eg);clear hs eg jL;have u23:=dN;have u22:=ir;have z23:=iW;have cK:(xs.map λa=>[a]).length=ae.length:=by rw[bE];exact dB
 have avh:=dp ag;obtain⟨H0,hH⟩:∃H0,h.push [.list k s (xs.map λa=>[a]),.list ky sy (ints ag)]=H0:=⟨_,rfl⟩;rw[hH] at l0 l1;rw[hH];refine da rfl Tryz.func47 rfl ?_;by_cases q3:80<ae.length
 ·have q3I:(80:Int)<(ae.length:Int):=by omega
  have q1I:(16:Int)<(ae.length:Int):=by omega
  have q2I:¬(ae.length:Int)<=64:=by omega
  clear q3;refine bG @vO @bB @hH (av @dw @eG) ?_;exact⟨_,_,rfl,rfl,az,rfl,λq=>by cases q⟩
 by_cases q4:80<ag.length
 ·have q4I:(80:Int)<(ag.length:Int):=by omega
  have q3I:¬(80:Int)<(ae.length:Int):=by omega
  by_cases q1:16<ae.length
  ·have q1I:(16:Int)<(ae.length:Int):=(by omega);by_cases q2:ae.length<=64
   ·have q2I:(ae.length:Int)<=64:=(by omega);clear q1 q2 q3 q4;refine bG @vO @bB @hH (av @dw @eG) ?_;exact⟨_,_,rfl,rfl,az,rfl,λq=>by cases q⟩
   ·have q2I:¬(ae.length:Int)<=64:=(by omega);clear q1 q2 q3 q4;refine bG @vO @bB @hH (av @dw @eG) ?_;exact⟨_,_,rfl,rfl,az,rfl,λq=>by cases q⟩
  ·have q1I:¬(16:Int)<(ae.length:Int):=(by omega);clear q1 q3 q4;refine bG @vO @bB @hH (av @dw @eG) ?_;exact⟨_,_,rfl,rfl,az,rfl,λq=>by cases q⟩
 have kq:al (ae.length<=80/\ag.length<=80):=⟨ah,by omega⟩;have cS:ae.length<=80:=by omega
 have q3I:¬(80:Int)<(ae.length:Int):=by omega
 have q4I:¬(80:Int)<(ag.length:Int):=by omega
 have key:(16<ae.length/\ae.length<=64)∨¬(16:Int)<(ae.length:Int)∨((16:Int)<(ae.length:Int)/\¬(ae.length:Int)<=64):=by omega
 rcases key with⟨q1,q2⟩|key
 ·have q1I:(16:Int)<(ae.length:Int):=by omega
  have q2I:(ae.length:Int)<=64:=by omega
  clear q1 q2 q3 q4;refine bG @vO @bB @hH (av @dw @eG) ?_;exact⟨_,_,rfl,rfl,az,rfl,λq=>by cases q⟩
 clear q3 q4;rcases key with q1I|⟨q1I,q2I⟩
 all_goals
  refine bG @vO @bB @hH (av @dw @eG) ?_;refine bM.gen λe0 aF bD cN cH=>?_;have f1:e0.get 1=.ptr (.box h.boxes.length) 0:=by rw[aF];exact gS
  have f3:e0.get 3=.v (.int .i64 (0:Nat)):=by rw[aF];exact gR
  have fd:e0.defers=[]:=by rw[bD];exact gS
  clear aF bD cN cH bx l1 q1I q3I q4I hH
  try clear q2I
  refine cE (λm e H=>∃i:Nat,i<=ae.length/\m=ae.length - i/\e.get 1=.ptr (.box h.boxes.length) 0/\e.get 3=.v (.int .i64 (i:Nat))/\e.defers=[]/\H=H0) ?_ ae.length _ _ ?_;rotate_left 1
  ·exact⟨0,cG _,rfl,f1,f3,fd,rfl⟩
  clear f1 f3 fd;rintro m e H ⟨i,hi,rfl,g1,g3,hd,rfl⟩;by_cases aB:i<ae.length
  ·have bF:s=1:=kk.out.1 (by intro q;rw[q] at aB;simp at aB);subst bF;obtain⟨a,fE⟩:∃a,xs[i]?=aa a:=⟨_,aT ah⟩;obtain⟨r,hv⟩:∃r,ae[i]?=aa r:=⟨_,aT aB⟩;have ld:=lh (H:=H) (s:=1) fE;obtain⟨ka,sa,rfl,iT⟩:=kk.out.2 i a r fE hv;have vn:=dp r;have fA:(i:Int)<(ae.length:Int):=(by omega);clear fE hv iT;by_cases p1:(16:Int)<(r.length:Int)
   ·by_cases p2:(r.length:Int)<=64
    ·refine bG @vO @dw @eG @a9 ?_;exact⟨_,_,rfl,rfl,az,rfl,λq=>by cases q⟩
    ·by_cases p3:(80:Int)<(r.length:Int)
     ·refine bG @vO @dw @eG @a9 ?_;exact⟨_,_,rfl,rfl,az,rfl,λq=>by cases q⟩
     ·refine bG @vO @dw @eG @a9 ?_;exact⟨ae.length - (i+1),by omega,i+1,by omega,rfl,by simp⟩
   ·have p3:¬(80:Int)<(r.length:Int):=(by omega);refine bG @vO @dw @eG @a9 ?_;exact⟨ae.length - (i+1),by omega,i+1,by omega,rfl,by simp⟩
  ·have:i=ae.length:=(by omega);subst this;refine cR @vO @dw @eG ?_;exact⟨_,_,rfl,rfl,ai,rfl,λ_=>⟨by first|trivial|omega,kq.out.2⟩⟩
def Lg:Tryz.f165.results.toList=[.cell 2 96]:=by kernel_rfl
def Tu:mW aq 96 [(0,.v (.int .i64 3))]=aa (.agg (aJ 3 0 [] .nil 0 [])):=by kernel_rfl
def fB(n:Int):List AV:=aJ 1 n [] .nil 0 []
def aaz{H:ao}{r}(hr:(AV.agg r).cD=aa r)(hl:r.length=4):cI aq (H.push (aJ 0 0 [] .nil 0 [])) 96 (.ptr (.box H.boxes.length) 0) (.agg r)=aa (H.push r):=l9 hr pS hl rfl
def XM{H:ao}{b}{r}(hl:r.length=4)(hb:b<H.boxes.length):aI aq Gt (H.put b r) 96 (.ptr (.box b) 0)=aa (.agg r):=pP hl (eP hb)
def aay{H}{b}{z r}(hz:H.boxes[b]?=aa z)(tD:z.length=4)(hr:(AV.agg r).cD=aa r)(hl:r.length=4):cI aq H 96 (.ptr (.box b) 0) (.agg r)=aa (H.put b r):=by rw[ig hr pS hz hl ah,xz ah]
def akf(h:ao)(bJ:cO h=ai)(k:Tok)(l:List Int)(hl:l.length<=1000)(bO:l≠[])(hb:∀n∈l,0<=n/\n<=4611686018427387903):
 ∃r h',W6.call 165 [.list k 1 (ints l)] h=aa (r,h')/\∃n,r=.ret (.agg (aJ 3 0 [] (.free n) 4 (l.map fB))):=by
 have z:=xD;have bd:=Tu;have u23:=dN;have u94:=py;have z3:=fH;have cK:=dp l;have s1:=aaz (H:=h.push (aJ 0 0 [] .nil 0 [])) (r:=aJ 3 0 [] .nil 0 []) rfl rfl;have pH:(h.push (aJ 0 0 [] .nil 0 [])).boxes.length=h.boxes.length+1:=cX _ _;have G0:p8 h ((h.push (aJ 0 0 [] .nil 0 [])).push (aJ 3 0 [] .nil 0 [])) (h.boxes.length+1) ((l.map Vl.int).take 0) .nil 0 []:=⟨by rw[<-pH];exact bh _ _,.inl rfl,bJ,(Ext.push _ _).trans (.push _ _),FV _,⟨rfl,λi v r q=>by simp at q⟩,λq=>absurd rfl q,λ_=>.inr rfl,rfl⟩;have B0:((h.push (aJ 0 0 [] .nil 0 [])).push (aJ 3 0 [] .nil 0 [])).boxes[h.boxes.length]?=aa (aJ 0 0 [] .nil 0 []):=bA (bh _ _);have kG0:=al.mk (av G0 B0);rw[pH] at s1;clear G0 B0;have kb:=al.mk (av hb bO);clear hb bO;obtain⟨H0,hH⟩:∃H0,(h.push (aJ 0 0 [] .nil 0 [])).push (aJ 3 0 [] .nil 0 [])=H0:=⟨_,rfl⟩;rw[hH] at s1 kG0;refine da rfl Tryz.func165 rfl ?_;refine cR @Lg @bB @jV ?_;refine bM.gen λe0 aF bD cN cH=>?_;have f0:e0.get 0=.list k 1 (ints l):=by rw[aF];exact gS
 have f2:e0.get 2=.ptr (.box h.boxes.length) 0:=by rw[aF];exact gS
 have f3:e0.get 3=.ptr (.box (h.boxes.length+1)) 0:=by rw[aF];simp only[gW,reduceIte,aZ,aQ,cX]
 have f4:e0.get 4=.v (.int .i64 (0:Nat)):=by rw[aF];exact gR
 have fd:e0.defers=[]:=by rw[bD];exact gS
 clear aF bD cN cH s1 hH z bd;refine cE (λm e H=>∃(i:Nat) (t:Tok) (sz:Nat),i<=l.length/\m=l.length - i/\al (p8 h H (h.boxes.length+1) ((l.map Vl.int).take i) t sz ((l.take i).map fB)/\H.boxes[h.boxes.length]?=aa (aJ 0 0 [] .nil 0 []))/\al (0<i->(∃n,t=.free n)/\sz=4)/\e.get 0=.list k 1 (ints l)/\e.get 2=.ptr (.box h.boxes.length) 0/\e.get 3=.ptr (.box (h.boxes.length+1)) 0/\e.get 4=.v (.int .i64 (i:Nat))/\e.defers=[]) ?_ l.length _ _ ?_;rotate_left 1
 ·exact⟨0,.nil,0,cG _,rfl,kG0,⟨λq=>absurd q (FW _)⟩,f0,f2,f3,f4,fd⟩
 clear f0 f2 f3 f4 fd kG0;rintro m e H ⟨i,t,sz,hi,rfl,kG,kN,g0,g2,g3,g4,hd⟩;by_cases aB:i<l.length
 ·have hv:l[i]?=aa (ak l i):=by rw[aT aB,ga aB]
  have iK:cY (.int (ak l i)) (fB (ak l i)):=.int _ (kb.out.1 _ (dn hv));have ld:=e7 (H:=H) (s:=1) aB;have c:=λH=>KW (ak l i) H;have cS:((l.take i).map fB).length<1000000:=by rw[bE,fj];omega
  have l3:=nV kG.out.1.box;have ap:=Be (r:=fB (ak l i)) cS kG.out.1.four kG.out.1.nil kG.out.1.can;have bl:=Bh (r:=fB (ak l i)) rfl rfl;have st:=CD (H:=H.app t) (t2:=.free H.tn) (sz2:=4) (rows2:=(l.take i).map fB++[fB (ak l i)]) (by rw[eL];exact kG.out.1.box);have G2:=kG.out.1.put iK rfl;have e1:(l.take i).map fB++[fB (ak l i)]=(l.take (i+1)).map fB:=by rw[fW hv,mT];rfl
  have e2:(l.map Vl.int).take i++[Vl.int (ak l i)]=(l.map Vl.int).take (i+1):=by rw[fW (x:=Vl.int (ak l i)) (by rw[ev,hv];rfl)]
  rw[e1,e2] at G2;rw[e1] at ap st;have kG2:al (p8 h ((H.app t).put (h.boxes.length+1) (aJ 3 0 [] (.free H.tn) 4 ((l.take (i+1)).map fB))) (h.boxes.length+1) ((l.map Vl.int).take (i+1)) (.free H.tn) 4 ((l.take (i+1)).map fB)/\((H.app t).put (h.boxes.length+1) (aJ 3 0 [] (.free H.tn) 4 ((l.take (i+1)).map fB))).boxes[h.boxes.length]?=aa (aJ 0 0 [] .nil 0 [])):=⟨G2,by rw[dg ah,eL];exact kG.out.2⟩;have kN2:al (0<i+1->(∃n,Tok.free H.tn=.free n)/\4=4):=⟨λ_=>⟨⟨_,rfl⟩,rfl⟩⟩;have fA:(i:Int)<(l.length:Int):=by omega
  have irw:aJ 1 (ak l i) [] .nil 0 []=fB (ak l i):=rfl;rw[irw] at c;clear G2 e1 e2 hv iK cS kG kN irw;generalize fB (ak l i)=r at *
  generalize ak l i=n at *
  unfold im at *
  refine cR @Lg @fO @a9 ?_
  repeat' (first|simp(maxSteps:=999999)(disch:=first|exact dZ|fail)only[gW,reduceIte,aZ,aQ,Lg,fO,a9, *]|(refine dX ?_ ?_<;>(intro _;try omega))|refine dR Dv fg ?_)
  exact⟨l.length - (i+1),by omega,i+1,.free H.tn,4,by omega,rfl,(by first|exact kG2|trivial),(by first|exact kN2|trivial),by simp⟩
 ·have gT:i=l.length:=by omega
  subst gT;obtain⟨⟨n,rfl⟩,rfl⟩:=kN.out (Ms.2 kb.out.2);have hG:=kG.out.1;rw[fI] at hG;have ld:=pP (r:=aJ 3 0 [] (.free n) 4 (l.map fB)) rfl hG.box;have st:=aay (r:=aJ 3 0 [] (.free n) 4 (l.map fB)) kG.out.2 rfl rfl rfl;have ll:=XM (H:=H) (r:=aJ 3 0 [] (.free n) 4 (l.map fB)) rfl (aV.1 kG.out.2).1;clear hG kG kN;refine bI @Lg ?_;exact⟨_,_,rfl,n,rfl⟩
def L7:List bm:=L6++[37,38,39,85,15,47,141,162,64,62,73,19,175,191,58,60,165,95]
noncomputable def QD:bm->Option (List AV->ao->Option (AV × ao)):=qb W6 L7
noncomputable abbrev W7:=whole aq Gt QD
def Gb:pX QD L7:=xY
section
variable (R:Rec) (L:List bm)
noncomputable def up:Rec:=whole aq Gt (qb R L)
def CT:Prop:=∀n h,R.call 120 [im n] h=aa (.ret (.agg (fB n)),h)
def CY:Prop:=∀s h,R.call 121 [sv s] h=aa (.ret (.agg (aJ 2 0 s .nil 0 [])),h)
def CR:Prop:=∀(bu b:List UInt8) (k:Tok),b.length<=1099511610000->bu.length<=1099511610000->∀h,R.call 123 [.v (.string (bs bu)),.list k 1 (bf b)] h=aa (.ret (im (mK (gi bu b):Nat)),h)
def CP:Prop:=∀(v:Vl) (r:List AV),cY v r->gq v<=16->(dI v).length<=1099511600000->∃t,∀h,R.call 118 [.agg r] h=aa (.ret (.tuple [.list t 1 (bf (dI v)),.v (.int .i64 0)]),h)
def CU:Prop:=∀(l:List Vl) (ae:List (List AV)),nK l ae->eU ae=ae->∀k:Tok,ae.length<=1000000->∀h,R.call 119 [.list k 4 ae] h=aa (.ret (.agg (aJ 3 0 [] (cd k) 4 ae)),h)
def uI(g:bm):Prop:=∀x n h,R.call g [im x,im n] h=aa (.ret (im (ft x n)),h)
def zu(g:bm):Prop:=∀x n h,R.call g [im x,im n] h=aa (.ret (im (jx x n)),h)
def zn(g:bm):Prop:=∀x n h,R.call g [im x,im n] h=aa (.ret (im (cQ x n)),h)
def xI(g:bm):Prop:=∀x n h,R.call g [im x,im n] h=aa (.ret (im (bX x n)),h)
def Me(g:bm):Prop:=∀x h,R.call g [im x] h=aa (.ret (.v (.bool (bN x))),h)
def Ft:Prop:=∀p h,R.call 162 [.agg (bQ p)] h=aa (.ret (.v (.bool (vE p))),h)
def zt:Prop:=∀x l,PL x l->l.length<=1000000->∃X,IL X (l.map Pr.au)/\∀h,R.call 64 [x] h=aa (.ret X,h)
def zo:Prop:=∀x y ae ag,RL x ae->IL y ag->ae.length<=1000000->∀h,R.call 115 [.agg [x,y]] h=aa (.ret (im (de ae ag)),h)
def vV:Prop:=∀x y z ae ag aA,RL x ae->IL y ag->IL z aA->ae.length<=1000000->aA.length<=1099511627776->
 (∃e,gC ae ag aA=([],az,e)/\∀h,R.call 63 [.agg [x,y],z] h=aa (.ret (.tuple [.list .nil 0 [],.v (.bool az),.v (.int .i64 e)]),h))∨
 ∃l,gC ae ag aA=(l,ai,0)/\l.length=ae.length/\∀h,R.call 63 [.agg [x,y],z] h=aa (.ret (.tuple [.list .held 1 (ints l),.v (.bool ai),.v (.int .i64 0)]),h)
def Fm:Prop:=∀x y z ae ag aj,RL x ae->IL y ag->IL z aj->aj.length<=1000000->∀h,R.call 141 [.agg [x,y],z] h=aa (.ret (.v (.bool (aj.all bN&&decide (aj.length=b9 ae)))),h)
def IG:Prop:=∀x y ae ag,RL x ae->IL y ag->∃b,(b=ai->ae.length<=80/\ag.length<=80)/\∀h,R.call 47 [.agg [x,y]] h=aa (.ret (.v (.bool b)),h)
def IH:Prop:=∀(k:Tok) (l:List Int),l.length<=1000->l≠[]->(∀n∈l,0<=n/\n<=4611686018427387903)->∀h,R.call 165 [.list k 1 (ints l)] h=aa (.ret (.agg (aJ 3 0 [] .held 4 (l.map fB))),h)
def Md(g:bm):Prop:=∀x y a b,IL x a->IL y b->a.length<=1000000->b.length<=1000000->∀h,R.call g [x,y] h=aa (.ret (.v (.bool (decide (a=b)))),h)
end
section
variable {R:Rec} {L:List bm}
def PL.fb{x}{l}(h:PL x l):PL (aD x) l/\aL 0 0 0 (aD x)=ai:=by
 obtain⟨k,s,rfl,hs⟩:=h;have h1:∀l:List Pr,eU (eS l)=eS l:=λl=>by
  induction l with
  |nil=>rfl|cons p l ih=>show cr (bQ p)::eU (eS l)=_;rw[ih];rfl
 have h2:∀l:List Pr,gL 0 0 0 (eS l)=ai:=λl=>by
  induction l with
  |nil=>rfl|cons p l ih=>show(aW 0 0 0 (bQ p)&&gL 0 0 0 (eS l))=ai;rw[ih];rfl
 rw[aD,h1];exact⟨⟨cd k,s,rfl,hs⟩,by rw[aL,fy,h2];rfl⟩
def CT.up(hg:L.contains 120=ai)(c:CT R):CT (up R L):=λn=>br hg rfl rfl (c n _) rfl rfl
def CY.up(hg:L.contains 121=ai)(c:CY R):CY (up R L):=λs=>br hg rfl rfl (c s _) rfl rfl
def CR.up(hg:L.contains 123=ai)(c:CR R):CR (up R L):=λbu b k hb ht=>
 br (cA:=[.v (.string (bs bu)),.list (cd k) 1 (bf b)]) hg (by rw[cr,cr,aD.eq_1,pJ];rfl) (by simp[aW,aL,fy,jS]) (c bu b _ hb ht _) rfl rfl
def CP.up(hg:L.contains 118=ai)(c:CP R):CP (up R L):=λv r hv hd hl=>by obtain⟨h1,h2⟩:=cY.hold v r hv;obtain⟨t,c⟩:=c v _ h1 hd hl;exact⟨cd t,br (cA:=[.agg (cr r)]) hg rfl (by simpa [aW,aL] using h2) (c _) rfl (by simp[aL,aW,fy,jS])⟩
def CU.up(hg:L.contains 119=ai)(c:CU R):CU (up R L):=λl ae hr hh k hm=>by
 have hv:cY (.list l) (aJ 3 0 [] k 4 ae):=.list l k 4 ae hr.1 (λ_=>rfl) hm hr.2;obtain⟨h1,h2⟩:=cY.hold _ _ hv;have e:cr (aJ 3 0 [] k 4 ae)=aJ 3 0 [] (cd k) 4 (eU ae):=rfl;rw[e,hh] at h1 h2;refine br (cA:=[.list (cd k) 4 ae]) hg ?_ ?_ (c l ae hr hh (cd k) hm _) ?_ ?_
 ·simp only[cr,aD,hh]
 ·unfold aJ at h2;simp only[aW,bL] at h2 ⊢;exact⟨h2.2.2.2.1,trivial⟩
 ·show AV.agg [im 3,im 0,sv [],.list (cd (cd (cd k))) 4 ae]=_;rw[fb,fb];rfl
 ·rw[aL];exact h2
def uI.up{g:bm}(hg:L.contains g=ai)(c:uI R g):uI (up R L) g:=λx n=>br hg rfl rfl (c x n _) rfl rfl
def zu.up{g:bm}(hg:L.contains g=ai)(c:zu R g):zu (up R L) g:=λx n=>br hg rfl rfl (c x n _) rfl rfl
def zn.up{g:bm}(hg:L.contains g=ai)(c:zn R g):zn (up R L) g:=λx n=>br hg rfl rfl (c x n _) rfl rfl
def xI.up{g:bm}(hg:L.contains g=ai)(c:xI R g):xI (up R L) g:=λx n=>br hg rfl rfl (c x n _) rfl rfl
def Me.up{g:bm}(hg:L.contains g=ai)(c:Me R g):Me (up R L) g:=λx=>br hg rfl rfl (c x _) rfl rfl
def Ft.up(hg:L.contains 162=ai)(c:Ft R):Ft (up R L):=λp=>br hg rfl rfl (c p _) rfl rfl
def IL.Hn{x}{l}(hx:IL x l)(h):IL (jM h x) l/\aL 0 0 0 (jM h x)=ai:=by obtain⟨k,s,rfl,hs⟩:=hx;refine⟨⟨cd k,s,rfl,hs⟩,?_⟩;show aL 0 0 0 (.list (cd k) s (ints l))=ai;rw[aL,fy,nL];rfl
def zt.up(hg:L.contains 64=ai)(c:zt R):zt (up R L):=λx l hx hl=>by obtain⟨h1,h2⟩:=hx.fb;obtain⟨X,hX,c⟩:=c _ l h1 hl;obtain⟨h3,h4⟩:=hX.Hn ⟨[],[],0,[]⟩;exact⟨_,h3,br (cA:=[aD x]) hg rfl (by simp[aW,h2]) (c _) rfl h4⟩
def zo.up(hg:L.contains 115=ai)(c:zo R):zo (up R L):=λx y ae ag hx hy hl=>by obtain⟨h1,h2⟩:=hx.fb;obtain⟨h3,h4⟩:=hy.hold;exact br (cA:=[.agg [aD x,aD y]]) hg rfl (by simp[aW,aL,h2,h4]) (c _ _ ae ag h1 h3 hl _) rfl rfl
def vV.up(hg:L.contains 63=ai)(c:vV R):vV (up R L):=λx y z ae ag aA hx hy hz hl hw=>by
 obtain⟨h1,h2⟩:=hx.fb;obtain⟨h3,h4⟩:=hy.hold;obtain⟨h5,h6⟩:=hz.hold;rcases c _ _ _ ae ag aA h1 h3 h5 hl hw with⟨e,e1,hc⟩|⟨l,e1,e2,hc⟩
 ·exact .inl ⟨e,e1,br (cA:=[.agg [aD x,aD y],aD z]) hg rfl (by simp[aW,aL,h2,h4,h6]) (hc _) rfl rfl⟩
 ·exact .inr ⟨l,e1,e2,br (cA:=[.agg [aD x,aD y],aD z]) hg rfl (by simp[aW,aL,h2,h4,h6]) (hc _) rfl (by simp[aL,aW,nL,rG])⟩
def Fm.up(hg:L.contains 141=ai)(c:Fm R):Fm (up R L):=λx y z ae ag aj hx hy hz hl=>by obtain⟨h1,h2⟩:=hx.fb;obtain⟨h3,h4⟩:=hy.hold;obtain⟨h5,h6⟩:=hz.hold;exact br (cA:=[.agg [aD x,aD y],aD z]) hg rfl (by simp[aW,aL,h2,h4,h6]) (c _ _ _ ae ag aj h1 h3 h5 hl _) rfl rfl
def IG.up(hg:L.contains 47=ai)(c:IG R):IG (up R L):=λx y ae ag hx hy=>by obtain⟨g1,g2⟩:=hx.fb;obtain⟨g3,g4⟩:=hy.hold;obtain⟨b,hb,hc⟩:=c _ _ ae ag g1 g3;exact⟨b,hb,br (cA:=[.agg [aD x,aD y]]) hg rfl (by simp[aW,aL,g2,g4]) (hc _) rfl rfl⟩
def OX:∀l:List Int,eU (l.map fB)=l.map fB/\gL 0 0 0 (l.map fB)=ai
 | []=>⟨rfl,rfl⟩
 |n::l=>by
  obtain⟨h1,h2⟩:=OX l;refine⟨?_,?_⟩
  ·show cr (fB n)::eU (l.map fB)=_;rw[h1];rfl
  ·show(aW 0 0 0 (fB n)&&gL 0 0 0 (l.map fB))=ai;rw[h2];rfl
def IH.up(hg:L.contains 165=ai)(c:IH R):IH (up R L):=λk l hl hn hb=>
 br (cA:=[.list (cd k) 1 (ints l)]) hg (by rw[cr,cr,aD,Ke]) (by simp[aW,aL,fy,nL]) (c _ l hl hn hb _) rfl (by simp only[aJ,aL,aW,(OX l).2];rfl)
def Md.up{g:bm}(hg:L.contains g=ai)(c:Md R g):Md (up R L) g:=λx y a b hx hy ha hb=>by obtain⟨h1,h2⟩:=hx.hold;obtain⟨h3,h4⟩:=hy.hold;exact br (cA:=[aD x,aD y]) hg rfl (by simp[aW,h2,h4]) (c _ _ a b h1 h3 ha hb _) rfl rfl
end
def ake:CT W7:=CT.up rfl λn h=>KW n h
def atv:CY W7:=CY.up rfl λs h=>Z8 s h
def aiR:CR W7:=CR.up rfl λbu b k hb ht h=>Zw bu b k hb ht h
def ag7:CP W7:=CP.up rfl λv r hv hd hl=>Zs hv hd hl
def akZ:CU W7:=CU.up rfl λl ae hr hh k hm h=>by rw[Zx hr hh k hm h]
def am9:uI W7 62:=uI.up rfl λx n h=>anm x n h
def YZ:uI W7 175:=uI.up rfl λx n h=>ank x n h
def alD:zu W7 73:=zu.up rfl λx n h=>atF x n h
def ae9:zn W7 65:=zn.up rfl λx n h=>anR x n h
def ahS:xI W7 66:=xI.up rfl λx n h=>apx x n h
def agq:Ft W7:=λp=>by obtain⟨h',c,-⟩:=amr ⟨[],[],0,[]⟩ p;exact br (L:=L7) rfl rfl rfl c rfl rfl
def akt:zt W7:=λx l hx hl=>by obtain⟨h1,h2⟩:=hx.fb;obtain⟨r,h',c,t,rfl⟩:=aku ⟨[],[],0,[]⟩ rfl (aD x) l h1 hl;obtain⟨h3,h4⟩:=IL.Hn (x:=.list t 1 (ints (l.map Pr.au))) ⟨_,_,rfl,λ_=>rfl⟩ h';exact⟨_,h3,br (L:=L7) (cA:=[aD x]) rfl rfl (by simp[aW,h2]) c rfl h4⟩
def ac8:vV W6:=λx y z ae ag aA hx hy hz hl hw=>by
 obtain⟨h1,h2⟩:=hx.fb;obtain⟨h3,h4⟩:=hy.hold;obtain⟨h5,h6⟩:=hz.hold;obtain⟨r,h',hc,⟨e,e1,rfl⟩|⟨l,b,e1,e2,rfl,e3⟩⟩:=adf ⟨[],[],0,[]⟩ rfl _ _ _ ae ag aA h1 h3 h5 hl hw
 ·exact .inl ⟨e,e1,br (L:=L6) (cA:=[.agg [aD x,aD y],aD z]) rfl rfl (by simp[aW,aL,h2,h4,h6]) hc rfl rfl⟩
 ·refine .inr ⟨l,e1,e2,br (L:=L6) (cA:=[.agg [aD x,aD y],aD z]) rfl rfl (by simp[aW,aL,h2,h4,h6]) hc ?_ (by simp[aL,aW,nL,rG])⟩;rw[jM,tE,Ci e3 e2];rfl
def ac9:vV W7:=vV.up rfl ac8
def afJ:zo W6:=zo.up rfl λx y ae ag hx hy hl h=>Zj x y ae ag hx hy hl h
def afK:zo W7:=zo.up rfl afJ
def Us:Fm W7:=λx y z ae ag aj hx hy hz hl=>by obtain⟨h1,h2⟩:=hx.fb;obtain⟨h3,h4⟩:=hy.hold;obtain⟨h5,h6⟩:=hz.hold;obtain⟨r,h',c,-,rfl⟩:=agd ⟨[],[],0,[]⟩ _ _ _ ae ag aj h1 h3 h5 hl;exact br (L:=L7) (cA:=[.agg [aD x,aD y],aD z]) rfl rfl (by simp[aW,aL,h2,h4,h6]) c rfl rfl
def ahx:IG W7:=λx y ae ag hx hy=>by obtain⟨g1,g2⟩:=hx.fb;obtain⟨g3,g4⟩:=hy.hold;obtain⟨r,h',c,-,b,rfl,hb⟩:=ahw ⟨[],[],0,[]⟩ _ _ ae ag g1 g3;exact⟨b,hb,br (L:=L7) (cA:=[.agg [aD x,aD y]]) rfl rfl (by simp[aW,aL,g2,g4]) c rfl rfl⟩
def akg:IH W7:=λk l hl hn hb=>by obtain⟨r,h',c,n,rfl⟩:=akf ⟨[],[],0,[]⟩ rfl (cd k) l hl hn hb;exact br (L:=L7) (cA:=[.list (cd k) 1 (ints l)]) rfl (by rw[cr,cr,aD,Ke]) (by simp[aW,aL,fy,nL]) c rfl (by simp only[aJ,aL,aW,(OX l).2];rfl)
def QX:Tryz.f16.results.toList=[.tmp 6]:=by kernel_rfl
def QR:Tryz.f116.results.toList=[.tmp 2]:=by kernel_rfl
def ahv(h:ao)(ep:Int)(X Y C T L:AV)(ae:List (List Int))(ag aj:List Int)(text:List UInt8)(l:List Pr)(hx:RL X ae)(hy:IL Y ag)(hc:IL C aj)(ht:BL T text)(hp:PL L l):
 ∃h' b,W7.call 16 [.agg (aP ep X Y C),T,L] h=aa (.ret (.v (.bool b)),h')/\(b=ai->ae.length<=80/\ag.length<=80/\aj.length<=80/\text.length<=70000/\l.length<=80):=by
 obtain⟨b,hb,c1⟩:=ahx X Y ae ag hx hy;have bx:=vv (ep:=ep) hx hy hc;have b0:=bh h (aP ep X Y C);have l1:aI aq Gt (h.push (aP ep X Y C)) 25 (.ptr (.box h.boxes.length) 1)=aa (.agg [X,Y]):=by rw[iC sW y9 b0 (jZ rfl)];rfl
 have l2:aI aq Gt (h.push (aP ep X Y C)) 23 (.ptr (.box h.boxes.length) 3)=aa C:=dx pC b0 rfl;have lc:=hc.dW;have lt:=ht.dW;have lp:=hp.dW;have kb:=al.mk hb;clear hb hx hy hc ht hp b0;obtain⟨H,hH⟩:∃H,h.push (aP ep X Y C)=H:=⟨_,rfl⟩;rw[hH] at l1 l2;generalize aP ep X Y C=K at *
 suffices hs:∃r h',W7.call 16 [.agg K,T,L] h=aa (r,h')/\∃b,r=.ret (.v (.bool b))/\(b=ai->ae.length<=80/\ag.length<=80/\aj.length<=80/\text.length<=70000/\l.length<=80) by obtain⟨r,h',c,b,rfl,q⟩:=hs;exact⟨h',b,c,q⟩
 refine da rfl Tryz.func16 rfl ?_;cases b with
 |false=>refine bG @QX @bB @hH (av @eD @iP) ?_;exact⟨_,_,rfl,az,rfl,λq=>by cases q⟩|true=>
 obtain⟨k1,k2⟩:=kb.out rfl;by_cases q1:(aj.length:Int)<=80;rotate_left 1
 ·have d1:decide ((aj.length:Int)<=80)=az:=cT q1;clear kb q1;refine bG @QX @bB @hH (av @eD @iP) ?_;exact⟨_,_,rfl,az,rfl,λq=>by cases q⟩
 have d1:decide ((aj.length:Int)<=80)=ai:=cz q1;have key:((text.length:Int)<=300)∨(¬(text.length:Int)<=300/\¬(65536:Int)<text.length)∨(¬(text.length:Int)<=300/\(65536:Int)<text.length/\¬(text.length:Int)<=70000)∨(¬(text.length:Int)<=300/\(65536:Int)<text.length/\(text.length:Int)<=70000):=by omega
 have key2:((l.length:Int)<=8)∨(¬(l.length:Int)<=8/\¬(64:Int)<l.length)∨(¬(l.length:Int)<=8/\(64:Int)<l.length/\¬(l.length:Int)<=80)∨(¬(l.length:Int)<=8/\(64:Int)<l.length/\(l.length:Int)<=80):=by omega
 have kq:al (ae.length<=80/\ag.length<=80/\aj.length<=80):=⟨k1,k2,by omega⟩;clear k1 k2 q1 kb;rcases key with t1|⟨t1,t2⟩|⟨t1,t2,t3⟩|⟨t1,t2,t3⟩<;>rcases key2 with p1|⟨p1,p2⟩|⟨p1,p2,p3⟩|⟨p1,p2,p3⟩
 all_goals
  refine bG @QX @bB @hH (av @eD @iP) ?_
  first|exact⟨_,_,rfl,az,rfl,λq=>by cases q⟩|exact⟨_,_,rfl,ai,rfl,λ_=>⟨kq.out.1,kq.out.2.1,kq.out.2.2,by omega,by omega⟩⟩
def akv(h:ao)(ep:Int)(X Y C:AV)(ae:List (List Int))(ag aj:List Int)(hx:RL X ae)(hy:IL Y ag)(hc:IL C aj)(hl:aj.length<=1000000):
 ∃r h',W7.call 116 [.agg (aP ep X Y C)] h=aa (r,h')/\r=.ret (.v (.bool (kU ae ep aj))):=by
 have c1:=Us X Y C ae ag aj hx hy hc hl;have bx:=vv (ep:=ep) hx hy hc;have b0:=bh h (aP ep X Y C);have l0:aI aq Gt (h.push (aP ep X Y C)) 3 (.ptr (.box h.boxes.length) 0)=aa (.v (.int .i64 ep)):=dx fa b0 rfl;have l1:aI aq Gt (h.push (aP ep X Y C)) 25 (.ptr (.box h.boxes.length) 1)=aa (.agg [X,Y]):=by rw[iC sW y9 b0 (jZ rfl)];rfl
 have l2:aI aq Gt (h.push (aP ep X Y C)) 23 (.ptr (.box h.boxes.length) 3)=aa C:=dx pC b0 rfl;have kv:al (kU ae ep aj=(decide (0<=ep)&&decide (ep<=64)&&decide (aj.length=b9 ae)&&aj.all bN)):=⟨rfl⟩;generalize kU ae ep aj=res at *
 clear hx hy hc b0;obtain⟨H,hH⟩:∃H,h.push (aP ep X Y C)=H:=⟨_,rfl⟩;rw[hH] at l0 l1 l2;generalize aP ep X Y C=K at *
 refine da rfl Tryz.func116 rfl ?_;by_cases h1:0<=ep;rotate_left 1
 ·have hf:res=az:=by rw[kv.out];simp[h1]
  have dU:decide (0<=ep)=az:=cT h1;clear h1 kv;subst hf;refine bG @QR @bB @hH (av @uY (av @eD @iP)) ?_;exact⟨_,_,rfl,rfl⟩
 have dU:decide (0<=ep)=ai:=cz h1;by_cases h2:ep<=64;rotate_left 1
 ·have hf:res=az:=by rw[kv.out];simp[h2]
  have gu:decide (ep<=64)=az:=cT h2;clear h1 h2 kv;subst hf;refine bG @QR @bB @hH (av @uY (av @eD @iP)) ?_;exact⟨_,_,rfl,rfl⟩
 have gu:decide (ep<=64)=ai:=cz h2;have kr:al (res=(aj.all bN&&decide (aj.length=b9 ae))):=⟨by rw[kv.out,dU,gu,oc,oc,Bool.and_comm]⟩;clear h1 h2 kv;generalize (aj.all bN&&decide (aj.length=b9 ae))=dd at *
 refine bG @QR @bB @hH (av @uY (av @eD @iP)) ?_;exact⟨_,_,rfl,by rw[kr.out]⟩
def K6:Tryz.f122.results.toList=[.cell 2 96]:=by kernel_rfl
def aeH(a b c d):fX aq 23 4 [(0,.v (.int .i64 a)),(1,.v (.int .i64 b)),(2,.v (.int .i64 c)),(3,.v (.int .i64 d))]=aa (.list .tight 1 (ints [a,b,c,d])):=by kernel_rfl
def gM(p:Pr):List AV:=aJ 3 0 [] .held 4 ([p.au,p.no,p.d,p.e].map fB)
def Dj(p:Pr):Prop:=∀n∈[p.au,p.no,p.d,p.e],0<=n/\n<=4611686018427387903
def akl{l:List Int}(h:∀n∈l,0<=n/\n<=4611686018427387903):nK (l.map Vl.int) (l.map fB):=by refine⟨bH,λi v r hv hr=>?_⟩;rw[ev,dy] at hv hr;obtain⟨n,hn,rfl⟩:=hv;obtain⟨m,hm,rfl⟩:=hr;rw[hn] at hm;injection hm with hm;subst hm;exact .int n (h n (dn hn))
def Y8{p}(h:Dj p):cY p.val (gM p):=by have q:=akl h;exact .list _ _ _ _ q.1 (λ_=>rfl) bH q.2
def at7(h:ao)(bJ:cO h=ai)(k:Tok)(l:List Pr)(hl:l.length<=1000)(bO:l≠[])(hb:∀p∈l,Dj p):
 ∃r h',W7.call 122 [.list k 4 (eS l)] h=aa (r,h')/\∃n,r=.ret (.agg (aJ 3 0 [] (.free n) 4 (l.map gM))):=by
 have z:=xD;have bd:=Tu;have u29:=uO;have u94:=py;have z85:=rE;have cK:=vG l;have s1:=aaz (H:=h.push (aJ 0 0 [] .nil 0 [])) (r:=aJ 3 0 [] .nil 0 []) rfl rfl;have pH:(h.push (aJ 0 0 [] .nil 0 [])).boxes.length=h.boxes.length+1:=cX _ _;have G0:p8 h ((h.push (aJ 0 0 [] .nil 0 [])).push (aJ 3 0 [] .nil 0 [])) (h.boxes.length+1) ((l.map Pr.val).take 0) .nil 0 []:=⟨by rw[<-pH];exact bh _ _,.inl rfl,bJ,(Ext.push _ _).trans (.push _ _),FV _,⟨rfl,λi v r q=>by simp at q⟩,λq=>absurd rfl q,λ_=>.inr rfl,rfl⟩;have B0:((h.push (aJ 0 0 [] .nil 0 [])).push (aJ 3 0 [] .nil 0 [])).boxes[h.boxes.length]?=aa (aJ 0 0 [] .nil 0 []):=bA (bh _ _);have kG0:=al.mk (av G0 B0);rw[pH] at s1;clear G0 B0;have kb:=al.mk (av hb bO);clear hb bO;obtain⟨H0,hH⟩:∃H0,(h.push (aJ 0 0 [] .nil 0 [])).push (aJ 3 0 [] .nil 0 [])=H0:=⟨_,rfl⟩;rw[hH] at s1 kG0;refine da rfl Tryz.func122 rfl ?_;refine cR @K6 @bB @jV ?_;refine bM.gen λe0 aF bD cN cH=>?_;have f0:e0.get 0=.list k 4 (eS l):=by rw[aF];exact gS
 have f2:e0.get 2=.ptr (.box h.boxes.length) 0:=by rw[aF];exact gS
 have f3:e0.get 3=.ptr (.box (h.boxes.length+1)) 0:=by rw[aF];simp only[gW,reduceIte,aZ,aQ,cX]
 have f4:e0.get 4=.v (.int .i64 (0:Nat)):=by rw[aF];exact gR
 have fd:e0.defers=[]:=by rw[bD];exact gS
 clear aF bD cN cH s1 hH z bd;refine cE (λm e H=>∃(i:Nat) (t:Tok) (sz:Nat),i<=l.length/\m=l.length - i/\al (p8 h H (h.boxes.length+1) ((l.map Pr.val).take i) t sz ((l.take i).map gM)/\H.boxes[h.boxes.length]?=aa (aJ 0 0 [] .nil 0 []))/\al (0<i->(∃n,t=.free n)/\sz=4)/\e.get 0=.list k 4 (eS l)/\e.get 2=.ptr (.box h.boxes.length) 0/\e.get 3=.ptr (.box (h.boxes.length+1)) 0/\e.get 4=.v (.int .i64 (i:Nat))/\e.defers=[]) ?_ l.length _ _ ?_;rotate_left 1
 ·exact⟨0,.nil,0,cG _,rfl,kG0,⟨λq=>absurd q (FW _)⟩,f0,f2,f3,f4,fd⟩
 clear f0 f2 f3 f4 fd kG0;rintro m e H ⟨i,t,sz,hi,rfl,kG,kN,g0,g2,g3,g4,hd⟩;by_cases aB:i<l.length
 ·obtain⟨p,hv⟩:∃p,l[i]?=aa p:=⟨_,aT aB⟩;have uj:=kb.out.1 p (dn hv);have iK:=Y8 uj;have lde:=Aw (s:=4) hv;have c:=akg .tight [p.au,p.no,p.d,p.e] bH bH uj;have b4:=aeH p.au p.no p.d p.e;have cS:((l.take i).map gM).length<1000000:=by rw[bE,fj];omega
  have l3:=nV kG.out.1.box;have ap:=Be (r:=gM p) cS kG.out.1.four kG.out.1.nil kG.out.1.can;have bl:=Bh (r:=gM p) rfl rfl;have st:=CD (H:=H.app t) (t2:=.free H.tn) (sz2:=4) (rows2:=(l.take i).map gM++[gM p]) (by rw[eL];exact kG.out.1.box);have G2:=kG.out.1.put iK rfl;have e1:(l.take i).map gM++[gM p]=(l.take (i+1)).map gM:=by rw[fW hv,mT];rfl
  have e2:(l.map Pr.val).take i++[p.val]=(l.map Pr.val).take (i+1):=by rw[fW (x:=p.val) (by rw[ev,hv];rfl)]
  rw[e1,e2] at G2;rw[e1] at ap st;have kG2:al (p8 h ((H.app t).put (h.boxes.length+1) (aJ 3 0 [] (.free H.tn) 4 ((l.take (i+1)).map gM))) (h.boxes.length+1) ((l.map Pr.val).take (i+1)) (.free H.tn) 4 ((l.take (i+1)).map gM)/\((H.app t).put (h.boxes.length+1) (aJ 3 0 [] (.free H.tn) 4 ((l.take (i+1)).map gM))).boxes[h.boxes.length]?=aa (aJ 0 0 [] .nil 0 [])):=⟨G2,by rw[dg ah,eL];exact kG.out.2⟩;have kN2:al (0<i+1->(∃n,Tok.free H.tn=.free n)/\4=4):=⟨λ_=>⟨⟨_,rfl⟩,rfl⟩⟩;have fA:(i:Int)<(l.length:Int):=by omega
  have irw:aJ 3 0 [] .held 4 ([p.au,p.no,p.d,p.e].map fB)=gM p:=rfl;rw[irw] at c;clear G2 e1 e2 hv iK cS kG kN irw uj;generalize gM p=r at *
  refine bG @K6 @fO @jH @a9 ?_
  repeat' (first|simp(maxSteps:=999999)(disch:=first|exact dZ|fail)only[gW,reduceIte,aZ,aQ,K6,fO,jH,a9, *]|(refine dX ?_ ?_<;>(intro _;try omega))|refine dR Gb fg ?_)
  exact⟨l.length - (i+1),by omega,i+1,.free H.tn,4,by omega,rfl,(by first|exact kG2|trivial),(by first|exact kN2|trivial),by simp⟩
 ·have gT:i=l.length:=by omega
  subst gT;obtain⟨⟨n,rfl⟩,rfl⟩:=kN.out (Ms.2 kb.out.2);have hG:=kG.out.1;rw[fI] at hG;have ld:=pP (r:=aJ 3 0 [] (.free n) 4 (l.map gM)) rfl hG.box;have st:=aay (r:=aJ 3 0 [] (.free n) 4 (l.map gM)) kG.out.2 rfl rfl rfl;have ll:=XM (H:=H) (r:=aJ 3 0 [] (.free n) 4 (l.map gM)) rfl (aV.1 kG.out.2).1;clear hG kG kN;refine bI @K6 ?_;exact⟨_,_,rfl,n,rfl⟩
def OY:∀l:List Pr,eU (l.map gM)=l.map gM/\gL 0 0 0 (l.map gM)=ai
 | []=>⟨rfl,rfl⟩
 |p::l=>by
  obtain⟨h1,h2⟩:=OY l;refine⟨?_,?_⟩
  ·show cr (gM p)::eU (l.map gM)=_;rw[h1];rfl
  ·show(aW 0 0 0 (gM p)&&gL 0 0 0 (l.map gM))=ai;rw[h2];rfl
def at6{l}(h:∀p∈l,Dj p)(hl:l.length<=1000):cY (tH l) (aJ 3 0 [] .held 4 (l.map gM)):=by refine .list _ _ _ _ bH (λ_=>rfl) (by simp;omega) λi v r hv hr=>?_;rw[ev,dy] at hv hr;obtain⟨p,hp,rfl⟩:=hv;obtain⟨q,hq,rfl⟩:=hr;rw[hp] at hq;injection hq with hq;subst hq;exact Y8 (h p (dn hp))
def L8:List bm:=L7++[31,33,35,16,116,122,142,169]
noncomputable def QE:bm->Option (List AV->ao->Option (AV × ao)):=qb W7 L8
noncomputable abbrev W8:=whole aq Gt QE
def zN:pX QE L8:=xY
section
variable (R:Rec)
def IK:Prop:=∀(k:Tok) (l:List Pr),l.length<=1000->l≠[]->(∀p∈l,Dj p)->∀h,R.call 122 [.list k 4 (eS l)] h=aa (.ret (.agg (aJ 3 0 [] .held 4 (l.map gM))),h)
def II:Prop:=∀ep X Y C ae ag aj,RL X ae->IL Y ag->IL C aj->aj.length<=1000000->∀h,R.call 116 [.agg (aP ep X Y C)] h=aa (.ret (.v (.bool (kU ae ep aj))),h)
def CQ:Prop:=∀ep X Y C T L ae ag aj text l,RL X ae->IL Y ag->IL C aj->BL T text->PL L l->
 ∃b,(b=ai->ae.length<=80/\ag.length<=80/\aj.length<=80/\text.length<=70000/\l.length<=80)/\∀h,R.call 16 [.agg (aP ep X Y C),T,L] h=aa (.ret (.v (.bool b)),h)
end
def BL.fb{x}{b}(h:BL x b):BL (aD x) b/\aL 0 0 0 (aD x)=ai:=by obtain⟨k,s,rfl,hs⟩:=h;rw[aD,pJ];exact⟨⟨cd k,s,rfl,hs⟩,by rw[aL,fy,jS];rfl⟩
def KL(l):eU (eS l)=eS l/\gL 0 0 0 (eS l)=ai:=by
 induction l with
 |nil=>exact⟨rfl,rfl⟩|cons p l ih=>
  refine⟨?_,?_⟩
  ·show cr (bQ p)::eU (eS l)=_;rw[ih.1];rfl
  ·show(aW 0 0 0 (bQ p)&&gL 0 0 0 (eS l))=ai;rw[ih.2];rfl
section
variable {R:Rec} {L:List bm}
def U4(l:List Pr):aL 0 0 0 (.agg (aJ 3 0 [] .held 4 (l.map gM)))=ai:=by simp only[aJ,aL,aW,(OY l).2];rfl
def IK.up(hg:L.contains 122=ai)(c:IK R):IK (up R L):=λk l hl hn hb=>
 br (cA:=[.list (cd k) 4 (eS l)]) hg (by rw[cr,cr,aD,(KL l).1]) (by simp[aW,aL,fy,(KL l).2]) (c _ l hl hn hb _) rfl (U4 l)
def II.up(hg:L.contains 116=ai)(c:II R):II (up R L):=λep X Y C ae ag aj hx hy hc hl=>by obtain⟨h1,h2⟩:=hx.fb;obtain⟨h3,h4⟩:=hy.hold;obtain⟨h5,h6⟩:=hc.hold;exact br (cA:=[.agg (aP ep (aD X) (aD Y) (aD C))]) hg rfl (by simp[aP,aW,aL,h2,h4,h6]) (c ep _ _ _ ae ag aj h1 h3 h5 hl _) rfl rfl
def CQ.up(hg:L.contains 16=ai)(c:CQ R):CQ (up R L):=λep X Y C T l' ae ag aj text l hx hy hc ht hp=>by obtain⟨h1,h2⟩:=hx.fb;obtain⟨h3,h4⟩:=hy.hold;obtain⟨h5,h6⟩:=hc.hold;obtain⟨h7,h8⟩:=ht.fb;obtain⟨h9,BB⟩:=hp.fb;obtain⟨b,hb,c⟩:=c ep _ _ _ _ _ ae ag aj text l h1 h3 h5 h7 h9;exact⟨b,hb,br (cA:=[.agg (aP ep (aD X) (aD Y) (aD C)),aD T,aD l']) hg rfl (by simp[aP,aW,aL,h2,h4,h6,h8,BB]) (c _) rfl rfl⟩
end
def Xv:CT W8:=ake.up rfl
def atw:CY W8:=atv.up rfl
def aiS:CR W8:=aiR.up rfl
def ag8:CP W8:=ag7.up rfl
def ak2:CU W8:=akZ.up rfl
def ana:uI W8 62:=am9.up rfl
def alE:zu W8 73:=alD.up rfl
def adj:zn W8 65:=ae9.up rfl
def agr:Ft W8:=agq.up rfl
def XH:zt W8:=akt.up rfl
def S7:vV W8:=ac9.up rfl
def Nt:zo W8:=afK.up rfl
def at5:IK W8:=λk l hl hn hb=>by obtain⟨r,h',c,n,rfl⟩:=at7 ⟨[],[],0,[]⟩ rfl (cd k) l hl hn hb;exact br (L:=L8) (cA:=[.list (cd k) 4 (eS l)]) rfl (by rw[cr,cr,aD,(KL l).1]) (by simp[aW,aL,fy,(KL l).2]) c rfl (U4 l)
def akw:II W8:=λep X Y C ae ag aj hx hy hc hl=>by obtain⟨h1,h2⟩:=hx.fb;obtain⟨h3,h4⟩:=hy.hold;obtain⟨h5,h6⟩:=hc.hold;obtain⟨r,h',c,rfl⟩:=akv ⟨[],[],0,[]⟩ ep _ _ _ ae ag aj h1 h3 h5 hl;exact br (L:=L8) (cA:=[.agg (aP ep (aD X) (aD Y) (aD C))]) rfl rfl (by simp[aP,aW,aL,h2,h4,h6]) c rfl rfl
def ahy:CQ W8:=λep X Y C T l' ae ag aj text l hx hy hc ht hp=>by obtain⟨h1,h2⟩:=hx.fb;obtain⟨h3,h4⟩:=hy.hold;obtain⟨h5,h6⟩:=hc.hold;obtain⟨h7,h8⟩:=ht.fb;obtain⟨h9,BB⟩:=hp.fb;obtain⟨h',b,c,hb⟩:=ahv ⟨[],[],0,[]⟩ ep _ _ _ _ _ ae ag aj text l h1 h3 h5 h7 h9;exact⟨b,hb,br (L:=L8) (cA:=[.agg (aP ep (aD X) (aD Y) (aD C)),aD T,aD l']) rfl rfl (by simp[aP,aW,aL,h2,h4,h6,h8,BB]) c rfl rfl⟩
def Lk:Tryz.f51.results.toList=[.tmp 8]:=by kernel_rfl
def ru:Tryz.f117.results.toList=[.tmp 4]:=by kernel_rfl
def Ij:Tryz.f50.results.toList=[.tmp 6]:=by kernel_rfl
def aeN(a b)(t)(V):fX aq 94 4 [(0,.agg (fB a)),(1,.agg (aJ 2 0 t .nil 0 [])),(2,.agg (aJ 3 0 [] .held 4 V)),(3,.agg (fB b))]=aa (.list .tight 4 [fB a,aJ 2 0 t .nil 0 [],aJ 3 0 [] .held 4 V,fB b]):=by kernel_rfl
def aex(h:ao)(ep:Int)(X Y C T L:AV)(aj:List Int)(text:List UInt8)(l:List Pr)(au:Int)(bx:(AV.agg (aP ep X Y C)).cD=aa (aP ep X Y C))(hc:IL C aj)(ht:BL T text)(hp:PL L l)
 (lG:0<aj.length) (BH:0<=ak aj 0/\ak aj 0<=4611686018427387903) (yH:text.length<=65536) (hl:l.length<=64) (bO:l≠[]) (hb:∀p∈l,Dj p) (hk:0<=au/\au<=4611686018427387903):
 ∃r h',W8.call 51 [.agg (aP ep X Y C),T,L,im au] h=aa (r,h')/\h'=h.push (aP ep X Y C)/\r=.ret (im ((eY (ak aj 0) text l au:Nat):Int)):=by
 obtain⟨kc,sc,rfl,um⟩:=hc;obtain⟨kt,st,rfl,ct⟩:=ht;obtain⟨kp,sp,rfl,lH⟩:=hp;have Pm:sc=1:=um (by intro e;rw[e] at lG;simp at lG);subst Pm;have ajS:sp=4:=lH bO;subst ajS;have c1:=λh=>Xv (ak aj 0) h;have c2:=λh=>atw text h;have c3:=at5 kp l ah bO hb;have c4:=λh=>Xv au h;have iK:=at6 hb ah;have hr:nK [.int (ak aj 0),.text text,tH l,.int au] [fB (ak aj 0),aJ 2 0 text .nil 0 [],aJ 3 0 [] .held 4 (l.map gM),fB au]:=by
  refine⟨rfl,λi v r hv hr=>?_⟩
  match i with
  |0=>injection hv with hv;injection hr with hr;subst hv;subst hr;exact .int _ BH
  |1=>injection hv with hv;injection hr with hr;subst hv;subst hr;exact .text text ah
  |2=>injection hv with hv;injection hr with hr;subst hv;subst hr;exact iK
  |3=>injection hv with hv;injection hr with hr;subst hv;subst hr;exact .int _ hk
  |i+4=>simp at hv
 have si:eU [fB (ak aj 0),aJ 2 0 text .nil 0 [],aJ 3 0 [] .held 4 (l.map gM),fB au]=[fB (ak aj 0),aJ 2 0 text .nil 0 [],aJ 3 0 [] .held 4 (l.map gM),fB au]:=by
  have e:cr (aJ 3 0 [] .held 4 (l.map gM))=aJ 3 0 [] .held 4 (l.map gM):=by show[im 3,im 0,sv [],.list .held 4 (eU (l.map gM))]=_;rw[(OY l).1];rfl
  show[cr (fB (ak aj 0)),cr (aJ 2 0 text .nil 0 []),cr (aJ 3 0 [] .held 4 (l.map gM)),cr (fB au)]=_;rw[e];rfl
 have c5:=ak2 _ _ hr si .tight bH;have hv:cY (.list [.int (ak aj 0),.text text,tH l,.int au]) (aJ 3 0 [] (cd .tight) 4 [fB (ak aj 0),aJ 2 0 text .nil 0 [],aJ 3 0 [] .held 4 (l.map gM),fB au]):=.list _ _ _ _ rfl (λ_=>rfl) bH hr.2;have hd:=aa5 l;have mh:=TA (ak aj 0) text l au;obtain⟨t,c6⟩:=ag8 _ _ hv (by simp[tH,gq,hJ];omega) ah;have c7:=aiS CA (dI (.list [.int (ak aj 0),.text text,tH l,.int au])) t ah aO;have hh:mK (gi CA (dI (.list [.int (ak aj 0),.text text,tH l,.int au])))=eY (ak aj 0) text l au:=rfl;rw[hh] at c7;rw[show CA=[98,105,110,100] from rfl] at c7;have bk:=aeN (ak aj 0) au text (l.map gM);have cv:=λH=>Js (k:=kt) ct H;have b0:=bh h (aP ep X Y (.list kc 1 (ints aj)));have l2:aI aq Gt (h.push (aP ep X Y (.list kc 1 (ints aj)))) 23 (.ptr (.box h.boxes.length) 3)=aa (.list kc 1 (ints aj)):=dx pC b0 rfl;have l4:=e7 (H:=h.push (aP ep X Y (.list kc 1 (ints aj)))) (l:=aj) (i:=0) (s:=1) lG;have cK:=dp aj;have u23:=dN;have z3:=fH;have G8:(0:Int)<(aj.length:Int):=by omega
 have z0:(0:Int).toNat=0:=rfl;clear hr hv mh hh ct si iK hd b0 um lH hb;generalize eY (ak aj 0) text l au=n at *
 generalize aJ 3 0 [] (cd .tight) 4 [fB (ak aj 0),aJ 2 0 text .nil 0 [],aJ 3 0 [] .held 4 (l.map gM),fB au]=R at *
 generalize fB (ak aj 0)=r0 at *
 generalize fB au=r3 at *
 generalize aJ 2 0 text .nil 0 []=r1 at *
 generalize aJ 3 0 [] .held 4 (l.map gM)=r2 at *
 generalize dI (.list [.int (ak aj 0),.text text,tH l,.int au])=eb at *
 generalize ak aj 0=c0 at *
 obtain⟨H0,hH⟩:∃H0,h.push (aP ep X Y (.list kc 1 (ints aj)))=H0:=⟨_,rfl⟩;rw[hH] at l2 l4;rw[hH];generalize aP ep X Y (.list kc 1 (ints aj))=K at *
 unfold sv at c2;unfold im at *
 refine da rfl Tryz.func51 rfl ?_;have svs:=Im kc 1 aj;refine bG @Lk @bB @hH (av @iP @a9) ?_;refine my [(1,6),(3,6)] zN fg (λp hp=>?_) ?_
 ·simp only[iq,uM,or_false] at hp;rcases hp with rfl|rfl
  ·refine AP (x:=.ptr (.box h.boxes.length) 3) (v:=.list kc 1 (ints aj)) fg rfl rfl rfl fg (svs) ?_ ?_<;>(simp only[gl,fm];exact mf @Lk @iP @a9 @and_self)
  ·refine AP (x:=.elem 1 (ints aj) 0 0) (v:=.v (.int .i64 c0)) fg rfl rfl rfl fg (by simp[fe,lY]) ?_ ?_<;>(simp only[gl,fm];exact mf @Lk @iP @a9 @and_self)
 refine cR @Lk @iP @a9 ?_;exact⟨_,_,rfl,rfl,rfl⟩
def adw:gU aq 27=aa ai:=by kernel_rfl
def atm:dC aq 27=aa 4:=by kernel_rfl
def Av{H}{b}{K}(hb:H.boxes[b]?=aa K)(hl:K.length=4):aI aq Gt H 27 (.ptr (.box b) 0)=aa (.agg K):=by rw[iC adw atm hb ah,List.drop_zero,<-hl,fI]
def EJ(ae:List (List Int))(ag:List Int)(l:List Pr):Bool:=decide (1<=l.length)&&decide (l.length<=64)&&fQ (-1) l&&(gC ae ag (l.map Pr.au)).2.1&&decide ((gC ae ag (l.map Pr.au)).2.2=0)
def amB{cW}{p}{l}(h:vE p=az)(h1: -1<=cW):fQ cW (p::l)=az:=by
 unfold vE at h;rw[NT.fQ];by_cases q:0<=p.au
 ·rw[cz q,oc] at h;by_cases q2:cW<p.au
  ·rw[cz q2,oc,h];rfl
  ·rw[cT q2];rfl
 ·rw[cT (ah:¬cW<p.au)];rfl
def YK{cW}{p}{l}(h:vE p=ai)(h1:cW<p.au):fQ cW (p::l)=fQ p.au l:=by unfold vE at h;rw[NT.fQ];simp only[bL] at h;obtain⟨⟨⟨⟨⟨-,h2⟩,h3⟩,h4⟩,h5⟩,h6⟩:=h;rw[cz h1,h2,h3,h4,h5,h6];rfl
def amA{cW}{p}{l}(h1:p.au<=cW):fQ cW (p::l)=az:=by rw[NT.fQ,cT (ah:¬cW<p.au)];rfl
def amv{p}(h:vE p=ai):0<=p.au:=by unfold vE at h;simp only[bL,decide_eq_true_eq] at h;exact h.1.1.1.1.1
def amz(h:ao)(ep:Int)(X Y C L:AV)(ae:List (List Int))(ag:List Int)(l:List Pr)(bx:(AV.agg (aP ep X Y C)).cD=aa (aP ep X Y C))(hx:RL X ae)(hy:IL Y ag)(hp:PL L l)(cS:ae.length<=1000000)(eO:l.length<=1000000):
 ∃r h',W8.call 117 [.agg (aP ep X Y C),L] h=aa (r,h')/\r=.ret (.v (.bool (EJ ae ag l))):=by
 obtain⟨Z,hZ,ck⟩:=XH L l hp eO;have ca:=S7 X Y Z ae ag (l.map Pr.au) hx hy hZ cS (by rw[bE];omega);have b0:=bh h (aP ep X Y C);have l1:aI aq Gt (h.push (aP ep X Y C)) 25 (.ptr (.box h.boxes.length) 1)=aa (.agg [X,Y]):=by rw[iC sW y9 b0 (jZ rfl)];rfl
 have kv:al (EJ ae ag l=(decide (1<=l.length)&&decide (l.length<=64)&&fQ (-1) l&&(gC ae ag (l.map Pr.au)).2.1&&decide ((gC ae ag (l.map Pr.au)).2.2=0))):=⟨rfl⟩;generalize EJ ae ag l=res at *
 obtain⟨kp,sp,rfl,lH⟩:=hp;have lp:dW aq 29 (.list kp sp (eS l))=aa (.v (.int .i64 (l.length:Nat))):=PL.dW ⟨_,_,rfl,lH⟩;have u29:=uO;have z85:=rE;have cK:=vG l;obtain⟨H0,hH⟩:∃H0,h.push (aP ep X Y C)=H0:=⟨_,rfl⟩;rw[hH] at l1;generalize aP ep X Y C=K at *
 have kc:=al.mk (av ca lH);have kck:=al.mk ck;clear b0 hx hy hZ ca lH ck;refine da rfl Tryz.func117 rfl ?_;by_cases q1:l.length<1
 ·have q1I:((l.length:Nat):Int)<1:=by omega
  have kf:al (res=az):=⟨by rw[kv.out,cT ah];rfl⟩;clear q1 kv;refine cR @ru @bB @hH ?_;exact⟨_,_,rfl,by rw[kf.out]⟩
 have q1I:¬((l.length:Nat):Int)<1:=by omega
 by_cases q2:64<l.length
 ·have q2I:(64:Int)<((l.length:Nat):Int):=by omega
  have kf:al (res=az):=⟨by rw[kv.out,cT (ah:¬l.length<=64),Bool.and_false];rfl⟩;clear q1 q2 kv;refine cR @ru @bB @hH ?_;exact⟨_,_,rfl,by rw[kf.out]⟩
 have q2I:¬(64:Int)<((l.length:Nat):Int):=by omega
 have bF:sp=4:=kc.out.2 (by intro q;rw[q] at q1;simp at q1);subst bF;have kv2:al (res=(fQ (-1) l&&(gC ae ag (l.map Pr.au)).2.1&&decide ((gC ae ag (l.map Pr.au)).2.2=0))):=⟨by rw[kv.out,cz (ah:1<=l.length),cz (ah:l.length<=64)];rfl⟩;clear kv;refine cR @ru @bB @hH ?_;refine bM.gen λe0 aF bD cN cH=>?_;have f1:e0.get 1=.list kp 4 (eS l):=by rw[aF];exact gS
 have f2:e0.get 2=.ptr (.box h.boxes.length) 0:=by rw[aF];exact gS
 have f5:e0.get 5=.v (.int .i64 (0:Nat)):=by rw[aF];exact gR
 have fd:e0.defers=[]:=by rw[bD];exact gS
 clear aF bD cN cH bx hH q1I q2I;refine cE (λm e H=>∃(i:Nat) (cW:Int),i<=l.length/\m=l.length - i/\al (fQ cW (l.drop i)=fQ (-1) l)/\ -1<=cW/\al (i=0->cW= -1)/\al (∀q,0<i->l[i - 1]?=aa q->q.au=cW)/\e.get 1=.list kp 4 (eS l)/\e.get 2=.ptr (.box h.boxes.length) 0/\e.get 5=.v (.int .i64 (i:Nat))/\e.defers=[]/\H=H0) ?_ l.length _ _ ?_;rotate_left 1
 ·exact⟨0,-1,cG _,rfl,⟨rfl⟩,Int.le_refl _,⟨λ_=>rfl⟩,⟨λ_ q=>absurd q (FW _)⟩,f1,f2,f5,fd,rfl⟩
 clear f1 f2 f5 fd;rintro m e H ⟨i,cW,hi,rfl,kP,lR,k0,k1,g1,g2,g5,hd,rfl⟩;by_cases aB:i<l.length;rotate_left 1
 ·have gT:i=l.length:=by omega
  subst gT;have hf:fQ (-1) l=ai:=by rw[<-kP.out,List.drop_of_length_le (aM _)];rfl
  have kv3:al (res=((gC ae ag (l.map Pr.au)).2.1&&decide ((gC ae ag (l.map Pr.au)).2.2=0))):=⟨by rw[kv2.out,hf,oc]⟩;have ck:=kck.out;clear hf kv2 kP k0 k1;rcases kc.out.1 with⟨e,e1,ca⟩|⟨w,e1,-,ca⟩
  ·have kf:al (res=az):=⟨by rw[kv3.out,e1];rfl⟩;clear kv3 e1;refine bV @ru @eD ?_
   repeat' (first|simp(maxSteps:=999999)(disch:=first|exact dZ|fail)only[gW,reduceIte,aZ,aQ,ru,eD, *]|(refine dX ?_ ?_<;>(intro _;try omega))|refine dR zN fg ?_)
   exact⟨_,_,rfl,by rw[kf.out]⟩
  ·have kf:al (res=ai):=⟨by rw[kv3.out,e1];rfl⟩;clear kv3 e1;refine bV @ru @eD ?_
   repeat' (first|simp(maxSteps:=999999)(disch:=first|exact dZ|fail)only[gW,reduceIte,aZ,aQ,ru,eD, *]|(refine dX ?_ ?_<;>(intro _;try omega))|refine dR zN fg ?_)
   exact⟨_,_,rfl,by rw[kf.out]⟩
 obtain⟨p,fG⟩:∃p,l[i]?=aa p:=⟨_,aT aB⟩;have oV:l.drop i=p::l.drop (i+1):=by rw[xP aB,(aV.1 fG).2]
 have ld:=λH=>Ew (H:=H) (s:=4) fG;obtain⟨ld0,-⟩:=Aw (s:=4) fG;have cp:=agr p;have fA:(i:Int)<(l.length:Int):=by omega
 have kpp:al (fQ cW (p::l.drop (i+1))=fQ (-1) l):=⟨by rw[<-oV];exact kP.out⟩;have kpv:=al.mk fG;clear oV fG;cases hq:vE p with
 |false=>
  rw[hq] at cp;have kf:al (res=az):=⟨by rw[kv2.out,<-kpp.out,amB hq lR];rfl⟩;clear hq lR kv2 k0 k1 kP;refine cR @ru @jH @a9 ?_
  repeat' (first|simp(maxSteps:=999999)(disch:=first|exact dZ|fail)only[gW,reduceIte,aZ,aQ,ru,jH,a9, *]|(refine dX ?_ ?_<;>(intro _;try omega))|refine dR zN fg ?_)
  exact⟨_,_,rfl,by rw[kf.out]⟩
 |true=>
 rw[hq] at cp;have OM:=amv hq;by_cases GH:i=0
 ·subst GH;have Am:=k0.out rfl;have kP2:al (fQ p.au (l.drop (0+1))=fQ (-1) l):=⟨by rw[<-kpp.out,YK hq ah]⟩;have kk1:al (∀q,0<0+1->l[0+1 - 1]?=aa q->q.au=p.au):=⟨λq _ h2=>by rw[show 0+1 - 1=0 from rfl,kpv.out] at h2;injection h2 with h2;rw[h2]⟩;have GJ: -1<=p.au:=by omega
  clear hq Am lR k0 k1 kP OM;refine cR @ru @jH @a9 ?_
  repeat' (first|simp(maxSteps:=999999)(disch:=first|exact dZ|fail)only[gW,reduceIte,aZ,aQ,ru,jH,a9, *]|(refine dX ?_ ?_<;>(intro _;try omega))|refine dR zN fg ?_)
  exact⟨l.length - 1,by omega,0+1,p.au,by omega,rfl,(by first|exact kP2|trivial),(by first|exact GJ|trivial),⟨λq=>absurd q ah⟩,(by first|exact kk1|trivial),by simp⟩
 ·obtain⟨q,o5⟩:∃q,l[i - 1]?=aa q:=⟨_,aT ah⟩;have Pb:=k1.out q ah o5;obtain⟨lq0,-⟩:=Aw (s:=4) o5;rw[Pb] at lq0;have G8:(0:Int)<(i:Int):=by omega
  have jB:(i:Int) - 1=((i - 1:Nat):Int):=by omega
  have Wp:((i - 1:Nat):Int)<(l.length:Int):=by omega
  clear o5;by_cases c3:p.au<=cW
  ·have kf:al (res=az):=⟨by rw[kv2.out,<-kpp.out,amA c3];rfl⟩;clear hq lR kv2 k0 k1 kP OM Pb;refine cR @ru @jH @a9 ?_
   repeat' (first|simp(maxSteps:=999999)(disch:=first|exact dZ|fail)only[gW,reduceIte,aZ,aQ,ru,jH,a9, *]|(refine dX ?_ ?_<;>(intro _;try omega))|refine dR zN fg ?_)
   exact⟨_,_,rfl,by rw[kf.out]⟩
  ·have kP2:al (fQ p.au (l.drop (i+1))=fQ (-1) l):=⟨by rw[<-kpp.out,YK hq ah]⟩;have kk1:al (∀q,0<i+1->l[i+1 - 1]?=aa q->q.au=p.au):=⟨λq _ h2=>by rw[show i+1 - 1=i from rfl,kpv.out] at h2;injection h2 with h2;rw[h2]⟩;have GJ: -1<=p.au:=(by omega);clear hq lR k0 k1 kP OM Pb;refine cR @ru @jH @a9 ?_
   repeat' (first|simp(maxSteps:=999999)(disch:=first|exact dZ|fail)only[gW,reduceIte,aZ,aQ,ru,jH,a9, *]|(refine dX ?_ ?_<;>(intro _;try omega))|refine dR zN fg ?_)
   exact⟨l.length - (i+1),by omega,i+1,p.au,by omega,rfl,(by first|exact kP2|trivial),(by first|exact GJ|trivial),⟨λq=>absurd q ah⟩,(by first|exact kk1|trivial),by simp⟩
def aef{ae}{ag aj}{ep}{text}{l}(h1:de ae ag=0)(h2:kU ae ep aj=ai)(h3:text.length<=65536):
 dA ae ag ep aj text l=if EJ ae ag l=ai then 0 else 420:=by
 unfold dA;unfold kU at h2;rw[aH (by simp[h1]),aH (by rw[h2];simp),aH ah];unfold EJ;by_cases q1:64<l.length
 ·rw[aG q1,cT (ah:¬l.length<=64)];simp
 rw[aH q1,cz (ah:l.length<=64)];cases q2:fQ (-1) l with
 |false=>simp|true=>
  rw[aH bH];obtain⟨w,ok,e⟩:=gC ae ag (l.map Pr.au);dsimp only;by_cases q3:l.length=0
  ·rw[aG (.inr (.inr q3)),cT (ah:¬1<=l.length)];simp
  ·rw[cz (ah:1<=l.length)];cases ok with
   |false=>simp|true=>
    by_cases q4:e=0
    ·subst q4;simp[q3]
    ·simp[q4]
def aho(h:ao)(ep:Int)(X Y C T L:AV)(ae:List (List Int))(ag aj:List Int)(text:List UInt8)(l:List Pr)(hx:RL X ae)(hy:IL Y ag)(hc:IL C aj)(ht:BL T text)(hp:PL L l)
 (cS:ae.length<=1000000) (dF:aj.length<=1000000) (eO:l.length<=1000000):
 ∃r h',W8.call 50 [.agg (aP ep X Y C),T,L] h=aa (r,h')/\r=.ret (im (dA ae ag ep aj text l)):=by
 have bx:=vv (ep:=ep) hx hy hc;have c1:=Nt X Y ae ag hx hy cS;have c2:=akw ep X Y C ae ag aj hx hy hc dF;obtain⟨_,H2,c3,rfl⟩:=amz (h.push (aP ep X Y C)) ep X Y C L ae ag l bx hx hy hp cS eO;have b0:=bh h (aP ep X Y C);have l0:aI aq Gt (h.push (aP ep X Y C)) 27 (.ptr (.box h.boxes.length) 0)=aa (.agg (aP ep X Y C)):=Av b0 rfl;have l1:aI aq Gt (h.push (aP ep X Y C)) 25 (.ptr (.box h.boxes.length) 1)=aa (.agg [X,Y]):=by rw[iC sW y9 b0 (jZ rfl)];rfl
 have lt:=ht.dW;have kE:=al.mk (@aef ae ag aj ep text l);have kE0:al (de ae ag≠0->dA ae ag ep aj text l=de ae ag):=⟨λq=>by unfold dA;rw[aG q]⟩;have kE1:al (de ae ag=0->kU ae ep aj=az->dA ae ag ep aj text l=380):=⟨λq1 q2=>by unfold kU at q2;unfold dA;rw[aH (by simp[q1]),aG (by rw[q2];rfl)]⟩;have kE2:al (de ae ag=0->kU ae ep aj=ai->65536<text.length->dA ae ag ep aj text l=2):=⟨λq1 q2 q3=>by unfold kU at q2;unfold dA;rw[aH (by simp[q1]),aH (by rw[q2];simp),aG q3]⟩;generalize dA ae ag ep aj text l=res at *
 obtain⟨H0,hH⟩:∃H0,h.push (aP ep X Y C)=H0:=⟨_,rfl⟩;rw[hH] at c3 l0 l1;clear b0 hx hy hc ht hp;generalize aP ep X Y C=K at *
 unfold im at c1;refine da rfl Tryz.func50 rfl ?_;by_cases q1:de ae ag=0;rotate_left 1
 ·have kf:=al.mk (kE0.out q1);have bD:decide (de ae ag=0)=az:=cT q1;generalize de ae ag=pe at *
  clear q1 kE kE0 kE1 kE2;refine bG @Ij @bB @hH @eD ?_;exact⟨_,_,rfl,by rw[kf.out];rfl⟩
 rw[q1] at c1;cases q2:kU ae ep aj with
 |false=>rw[q2] at c2;have kf:=al.mk (kE1.out q1 q2);clear q1 q2 kE kE0 kE1 kE2;refine bG @Ij @bB @hH @eD ?_;exact⟨_,_,rfl,by rw[kf.out];rfl⟩
 |true=>
 rw[q2] at c2;by_cases q3:65536<text.length
 ·have q3I:(65536:Int)<((text.length:Nat):Int):=by omega
  have kf:=al.mk (kE2.out q1 q2 q3);clear q1 q2 q3 kE kE0 kE1 kE2;refine bG @Ij @bB @hH @eD ?_;exact⟨_,_,rfl,by rw[kf.out];rfl⟩
 have q3I:¬(65536:Int)<((text.length:Nat):Int):=by omega
 have kf:=al.mk (kE.out q1 q2 ah);clear q1 q2 q3 kE kE0 kE1 kE2;cases q4:EJ ae ag l with
 |false=>rw[q4] at c3 kf;refine bG @Ij @bB @hH @eD ?_;exact⟨_,_,rfl,by rw[kf.out];rfl⟩
 |true=>rw[q4] at c3 kf;refine bG @Ij @bB @hH @eD ?_;exact⟨_,_,rfl,by rw[kf.out];rfl⟩
def RH(ep:Int)(X Y C S W L N:AV):List AV:=[im ep,X,Y,C,S,W,L,N]
abbrev nl:AV:=.list .nil 0 []
def aa0:dC aq 27=aa 4:=aw
def ato:dC aq 36=aa 1:=aw
def aeI(p):fX aq 29 1 [(0,.agg (bQ p))]=aa (.list .tight 4 [bQ p]):=aw
structure TI(h H:ao)(X Y:AV)(T:List AV)(t:Tok):Prop where
 ext:Ext h H
 ok:cO H=ai
 can:dD h.tn H t
 pb:H.boxes[h.boxes.length]?=aa [X,Y]
 tb:H.boxes[h.boxes.length+1]?=aa T
section
variable {h H:ao} {X Y:AV} {T:List AV} {t:Tok}
def TI.app(b:TI h H X Y T t):TI h (H.app t) X Y T (.free H.tn):=by have gr:=Grown.one b.can b.ok b.ext.tn;exact⟨gr.ext b.ext (aM _),gr.ok,gr.can,by rw[eL];exact b.pb,by rw[eL];exact b.tb⟩
def TI.push(b:TI h H X Y T t)(cs:List AV):TI h (H.push cs) X Y T t:=⟨b.ext.trans (.push _ _),b.ok,by rw[Dy];exact b.can,bA b.pb,bA b.tb⟩
def TI.put(b:TI h H X Y T t)(T2:List AV):TI h (H.put (h.boxes.length+1) T2) X Y T2 t:=by have hl:=(aV.1 b.tb).1;exact⟨b.ext.gh ah _,b.ok,by rw[Dz];exact b.can,by rw[dg ah];exact b.pb,eP hl⟩
def TI.nil(b:TI h H X Y T t):TI h H X Y T .nil:=⟨b.ext,b.ok,.inl rfl,b.pb,b.tb⟩
end
section
variable {H:ao} {b:Nat} {ep:Int} {X Y C S W L N x:AV}
def stS(hb:H.boxes[b]?=aa (RH ep X Y C S W L N))(hx:x.cD=aa [x]):cI aq H 36 (.ptr (.box b) 4) x=aa (H.put b (RH ep X Y C x W L N)):=
 ig (off:=4) (cs:=RH ep X Y C S W L N) (xs:=[x]) hx ato hb rfl (jZ rfl)
end
structure auY(ae:List (List Int))(ag aj:List Int)(sh:List (Int × Int))(aA:List Int)(l:List Pr)(nn:List Int)(X Y C S W L N:AV):Prop where
 x:RL X ae
 y:IL Y ag
 c:IL C aj
 s:SL S sh
 w:IL W aA
 p:PL L l
 n:IL N nn
 wl:aA.length<=16
 nl:nn.length=2 * aA.length
 sl:sh.length<=1000
 inn:∀p∈sh,0<=p.1/\p.1<ag.length
 cl:aj.length<=1000000
 ll:l.length<=1000000
structure TB(h H:ao)(T:List AV)(t:Tok):Prop where
 ext:Ext h H
 ok:cO H=ai
 can:dD h.tn H t
 tb:H.boxes[h.boxes.length]?=aa T
section
variable {h H:ao} {T:List AV} {t:Tok}
def TB.app(b:TB h H T t):TB h (H.app t) T (.free H.tn):=by have gr:=Grown.one b.can b.ok b.ext.tn;exact⟨gr.ext b.ext (aM _),gr.ok,gr.can,by rw[eL];exact b.tb⟩
def TB.push(b:TB h H T t)(cs:List AV):TB h (H.push cs) T t:=⟨b.ext.trans (.push _ _),b.ok,by rw[Dy];exact b.can,bA b.tb⟩
def TB.start(bJ:cO h=ai)(T:List AV):TB h (h.push T) T .nil:=⟨.push _ _,bJ,.inl rfl,bh _ _⟩
end
structure pY(aA N:List Int)(l:List Pr):Prop where
 len:l.length=aA.length
 nl:N.length=2 * aA.length
 ok:∀x∈N,okF x
 at_:∀i<aA.length,∃no:Int,0<=no/\no<4096/\l[i]?=aa ⟨ak aA i,no,(bC Gn (ak N (2 * i)):Nat),(bC Gn (ak N (2 * i+1)):Nat)⟩
def pY.vC{aA N}{l}(c:pY aA N l){i}(h:i<aA.length):okF (ak N (2 * i))/\okF (ak N (2 * i+1)):=⟨c.ok _ (M4 (by rw[c.nl];omega)),c.ok _ (M4 (by rw[c.nl];omega))⟩
def pY.kQ{aA N}{l}(c:pY aA N l):l.map Pr.au=aA:=by
 refine qL λi=>?_;rcases dV i aA.length with h|h
 ·obtain⟨no,-,-,q⟩:=c.at_ i h;rw[ev,q,eW,ga h,aT h]
 ·rw[tS (by rw[bE,c.len];exact h),tS h]
def Jw(n):bN ((bC Gn n:Nat):Int)=ai:=by have h:=vI qK n;unfold bN;rw[dK,h,CO,decide_eq_true_eq];have:=(elem_iff.1 h).1;omega
def YJ:∀{l:List Pr} {cW:Int},gx cW (l.map Pr.au)=ai->(∀p∈l,0<=p.no/\p.no<4096/\bN p.d=ai/\bN p.e=ai)->fQ cW l=ai:=by
 intro l
 induction l with
 |nil=>intro _ _ _;rfl|cons p l ih=>intro cW h1 h2;rw[List.map_cons,gx] at h1;simp only[bL,decide_eq_true_eq] at h1;obtain⟨q1,q2,q3,q4⟩:=h2 p List.mem_cons_self;rw[NT.fQ,ih h1.2 λq hq=>h2 q (List.mem_cons_of_mem _ hq),q3,q4];simp only[CO,bL,decide_eq_true_eq];omega
def pY.mem{aA N}{l}(c:pY aA N l){p}(hp:p∈l):∃i,∃(_:i<aA.length) (no:Int),0<=no/\no<4096/\l[i]?=aa p/\p=⟨ak aA i,no,(bC Gn (ak N (2 * i)):Nat),(bC Gn (ak N (2 * i+1)):Nat)⟩:=by obtain⟨i,hi⟩:=List.getElem?_of_mem hp;have cK:=(aV.1 hi).1;rw[c.len] at cK;obtain⟨no,n1,n2,q⟩:=c.at_ i cK;rw[hi] at q;injection q with q;exact⟨i,cK,no,n1,n2,hi,q⟩
def pY.KN{aA N}{l}(c:pY aA N l)(hw:gx (-1) aA=ai):fQ (-1) l=ai:=by refine YJ (by rw[c.kQ];exact hw) λp hp=>?_;obtain⟨i,hi,no,n1,n2,-,rfl⟩:=c.mem hp;exact⟨n1,n2,Jw _,Jw _⟩
def Cl(aA:List Int)(k:Int):Nat:=aA.idxOf k
def XD{aA}(hn:aA.Nodup){i}(h:i<aA.length):Cl aA (ak aA i)=i:=by unfold Cl;rw[ga h];exact hn.idxOf_getElem i h
def pY.ak7{aA N}{l}(c:pY aA N l)(hw:gx (-1) aA=ai):MB l (λk=>ak N (2 * Cl aA k)) (λk=>ak N (2 * Cl aA k+1)):=by intro p hp;obtain⟨i,hi,no,n1,n2,-,rfl⟩:=c.mem hp;simp only[XD (Qs hw).2 hi];exact⟨trivial,trivial⟩
section
variable {ae:List (List Int)} {ag aA N s y:List Int} {l:List Pr} {text:List UInt8} {ep:Int}
def Ny{aj:List Int}(c:pY aA N l)(ha:gC ae ag aA=(y,ai,0))(bO:aA≠[])(kL:aA.length<=64)(ht:text.length<=65536)(he:0<=ep/\ep<=64)(hc:aj.length=b9 ae)(hce:aj.all bN=ai):dA ae ag ep aj text l=0:=by obtain⟨hp,hw,-⟩:=zG ha;unfold dA;rw[aH (by simp[hp]),aH (by simp[hc,hce,he.1,he.2]),aH ah,aH (by rw[c.len];omega),aH (by rw[c.KN hw];simp),c.kQ,ha];have:aA.length≠0:=λq=>bO (List.length_eq_zero_iff.1 q);simp[c.len,this]
def wy(hs:s.length=b9 ae):(dT s).length=b9 ae/\(dT s).all bN=ai:=⟨by unfold dT;rw[bE,hs],age⟩
def Uw(c:pY aA N l)(ha:gC ae ag aA=(y,ai,0))(bO:aA≠[])(kL:aA.length<=64)(ht:text.length<=65536)(he:0<=ep/\ep<=64)(hs:s.length=b9 ae){i:Nat}(hi:i<aA.length):
 lq ae ag ep (dT s) text l (ak aA i) (jF ag (ie ae s) (ak aA i)) (ak N (2 * i)) (ak N (2 * i+1))=
  (lI ae ag (dT s) text l (ak aA i) (ak N (2 * i)) (ak N (2 * i+1)) (jF ag (ie ae s) (ak aA i)),0):=by
 obtain⟨hp,hw,-⟩:=zG ha;unfold lq;rw[aH (by rw[Ny c ha bO kL ht he (wy hs).1 (wy hs).2];simp)];obtain⟨no,-,-,q⟩:=c.at_ i hi;have hm:=dn q;exact alo hp hs (c.KN hw) hm rfl rfl (c.vC hi).1 (c.vC hi).2
def agv(c:pY aA N l)(ha:gC ae ag aA=(y,ai,0))(bO:aA≠[])(kL:aA.length<=64)(ht:text.length<=65536)(he:0<=ep/\ep<=64)(hs:s.length=b9 ae){i:Nat}(hi:i<aA.length){z:Int}(hz:okF z):
 lU ae ag ep (dT s) text l (ak aA i) z=
  (decide (z=lI ae ag (dT s) text l (ak aA i) (ak N (2 * i)) (ak N (2 * i+1)) (jF ag (ie ae s) (ak aA i))),0):=by
 obtain⟨hp,hw,-⟩:=zG ha;unfold lU;rw[aH (by rw[Ny c ha bO kL ht he (wy hs).1 (wy hs).2];simp)];obtain⟨no,-,-,q⟩:=c.at_ i hi;have hm:=dn q;have uj:=YI (c.KN hw) hm;unfold tc;rw[uj];simp only[yK.2 hz,Bool.not_true,Bool.false_eq_true,if_false];rw[ahJ hp hs rfl rfl hz]
def Ux(c:pY aA N l)(ha:gC ae ag aA=(y,ai,0))(hs:s.length=b9 ae):
 vR (ak (dT s) 0) text ((eZ (ak (dT s) 0) text l:Nat):Int) (((bR aA.length).map λi=>lI ae ag (dT s) text l (ak aA i) (ak N (2 * i)) (ak N (2 * i+1)) (jF ag (ie ae s) (ak aA i))).foldl cQ 0)=ai:=by
 obtain⟨hp,hw,-⟩:=zG ha;have Pn:=aal (text:=text) (l:=l) (by rw[c.kQ];exact ha) hs (c.ak7 hw);rw[c.kQ] at Pn;have e:(aA.map λk=>lI ae ag (dT s) text l k (ak N (2 * Cl aA k)) (ak N (2 * Cl aA k+1)) (jF ag (ie ae s) k))=(bR aA.length).map λi=>lI ae ag (dT s) text l (ak aA i) (ak N (2 * i)) (ak N (2 * i+1)) (jF ag (ie ae s) (ak aA i)):=by
  refine qL λi=>?_;rcases dV i aA.length with h|h
  ·have hx:=XD (Qs hw).2 h;rw[ev,ev,List.getElem?_range h,aT h,eW,eW];rw[ga h] at hx ⊢;rw[hx]
  ·rw[tS (by simpa using h),tS (by simpa using h)]
 rw[e] at Pn;exact Pn
end
def R3:List (List Int):=[[1,1],[1,2],[1,3]]
def O3:List Int:=[0,1,2]
def S2:List Int:=[10,4]
def fM:List UInt8:=[116,101,120,116]
def pA:Pr:=⟨0,0,(bC Gn 5:Nat),(bC Gn 6:Nat)⟩
def pB:Pr:=⟨2,2,(bC Gn 7:Nat),(bC Gn 8:Nat)⟩
def zF:gC R3 O3 [0,2]=([536870896,0,536870894],ai,0):=by decide+kernel
def ac7:gC R3 O3 [0]=([],az,0):=by decide+kernel
def Y7:de R3 O3=0:=by decide+kernel
def agK:tZ R3 O3 10 [4]=0:=by decide+kernel
def agN:rZ R3 S2=[(0,14),(1,18),(2,22)]:=by decide+kernel
def Qn:jF O3 (ie R3 S2) 0=[(0,14)]:=by decide+kernel
def YD:jF O3 (ie R3 S2) 2=[(2,22)]:=by decide+kernel
def DB:pY [0,2] [5,6,7,8] [pA,pB]:=by
 refine⟨rfl,rfl,λx hx=>?_,λi hi=>?_⟩
 ·simp only[iq,uM,or_false] at hx;rcases hx with rfl|rfl|rfl|rfl<;>exact⟨aO,by decide⟩
 ·match i,hi with
  |0,_=>exact⟨0,by decide,by decide,rfl⟩
  |1,_=>exact⟨2,by decide,by decide,rfl⟩
  |i+2,hi=>simp at hi;omega
abbrev C3:List Int:=dT S2
abbrev b3(k:Int):Int:=((eY (ak C3 0) fM [pA,pB] k:Nat):Int)
abbrev rX:Int:=((eZ (ak C3 0) fM [pA,pB]:Nat):Int)
def Na:dA R3 O3 0 C3 fM [pA,pB]=0:=Ny DB zF bH bH aO aO (wy (ae:=R3) (s:=S2) rfl).1 (wy (ae:=R3) (s:=S2) rfl).2
def Tw:dA R3 O3 0 C3 fM []=420:=by unfold dA;rw[aH (by rw[Y7];simp),aH (by rw[(wy (ae:=R3) (s:=S2) rfl).1,(wy (ae:=R3) (s:=S2) rfl).2];decide),aH aO,aH aO,aH aO];split;simp
def Tv:dA R3 O3 0 C3 fM [pA]=420:=by
 have hw:fQ (-1) [pA]=ai:=YJ aO λp hp=>by rw[List.mem_singleton] at hp;subst hp;exact⟨aO,by decide,Jw _,Jw _⟩
 unfold dA;rw[aH (by rw[Y7];simp),aH (by rw[(wy (ae:=R3) (s:=S2) rfl).1,(wy (ae:=R3) (s:=S2) rfl).2];decide),aH aO,aH aO,aH (by rw[hw];simp)];have e:[pA].map Pr.au=[0]:=rfl;rw[e,ac7];simp
def x3:Int:=cQ (cQ 5 (bX 6 (b3 0))) (bX rX 21)
def y3:Int:=cQ (cQ 7 (bX 8 (b3 2))) (bX rX 1073741778)
def aa8:eF R3 O3 [pA,pB]=[536870896,0,536870894]:=by unfold eF;have e:[pA,pB].map Pr.au=[0,2]:=rfl;rw[e,zF]
def Qq:lI R3 O3 C3 fM [pA,pB] 0 5 6 [(0,14)]=x3:=by
 unfold lI x3;rw[aa8];have e:gZ [536870896,0,536870894] [(0,14)]=21:=by decide+kernel
 rw[e]
def YL:lI R3 O3 C3 fM [pA,pB] 2 7 8 [(2,22)]=y3:=by
 unfold lI y3;rw[aa8];have e:gZ [536870896,0,536870894] [(2,22)]=1073741778:=by decide+kernel
 rw[e]
def alj:lq R3 O3 0 C3 fM [pA,pB] 0 [(0,14)] 5 6=(x3,0):=by have h:=Uw (i:=0) (text:=fM) (ep:=0) (s:=S2) DB zF bH bH aO aO rfl aO;change lq R3 O3 0 C3 fM [pA,pB] 0 (jF O3 (ie R3 S2) 0) 5 6=(lI R3 O3 C3 fM [pA,pB] 0 5 6 (jF O3 (ie R3 S2) 0),0) at h;rw[Qn,Qq] at h;exact h
def alm:lq R3 O3 0 C3 fM [pA,pB] 2 [(2,22)] 7 8=(y3,0):=by have h:=Uw (i:=1) (text:=fM) (ep:=0) (s:=S2) DB zF bH bH aO aO rfl aO;change lq R3 O3 0 C3 fM [pA,pB] 2 (jF O3 (ie R3 S2) 2) 7 8=(lI R3 O3 C3 fM [pA,pB] 2 7 8 (jF O3 (ie R3 S2) 2),0) at h;rw[YD,YL] at h;exact h
def alk:lq R3 O3 0 C3 fM [pA,pB] 1 [(1,18)] 7 8=(0,1):=by unfold lq xc;rw[aH (by rw[Na];simp)];have e:mN [pA,pB] 1=ar:=rfl;rw[e]
def ahH:lU R3 O3 0 C3 fM [pA,pB] 0 1073741789=(az,1):=by unfold lU tc;rw[aH (by rw[Na];simp)];have e:mN [pA,pB] 0=aa pA:=rfl;rw[e];rfl
def RY:okF x3:=Gh _ _
def ahG:lU R3 O3 0 C3 fM [pA,pB] 0 x3=(ai,0):=by have h:=agv (i:=0) (text:=fM) (ep:=0) (s:=S2) DB zF bH bH aO aO rfl aO RY;change lU R3 O3 0 C3 fM [pA,pB] 0 x3=(decide (x3=lI R3 O3 C3 fM [pA,pB] 0 5 6 (jF O3 (ie R3 S2) 0)),0) at h;rw[Qn,Qq] at h;rw[h];simp
def E8:Int:=cQ (bX (b3 0) 6) (cQ (bX (b3 2) 8) (cQ 12 (bX rX 10)))
def aaP:cQ x3 y3=E8:=by unfold x3 y3 E8;generalize b3 0=a;generalize b3 2=b;generalize rX=c;simp only[yd,sd,Qi];omega
def aub:vR (ak C3 0) fM rX E8=ai:=by
 have h:=Ux (text:=fM) (s:=S2) DB zF rfl;change vR (ak C3 0) fM rX (cQ (cQ 0 (lI R3 O3 C3 fM [pA,pB] 0 5 6 (jF O3 (ie R3 S2) 0))) (lI R3 O3 C3 fM [pA,pB] 2 7 8 (jF O3 (ie R3 S2) 2)))=ai at h;rw[Qn,YD,Qq,YL] at h;have e:cQ 0 x3=x3:=by rw[yd,Int.zero_add];exact Int.emod_eq_of_lt RY.1 RY.2
 rw[e,aaP] at h;exact h
def amS:bN ((gV (ak C3 0) fM [pA,pB]:Nat):Int)=ai:=by have hw:fQ (-1) [pA,pB]=ai:=DB.KN aO;have h:=YY (c0:=ak C3 0) (text:=fM) hw;unfold bN;rw[dK,h,CO,decide_eq_true_eq];have:=(elem_iff.1 h).1;omega
def HY:Tryz.f15.results.toList=[.tmp 0]:=aw
def aeF(a b):fX aq 23 2 [(0,.v (.int .i64 a)),(1,.v (.int .i64 b))]=aa (.list .tight 1 (ints [a,b])):=aw
def X3:AV:=.list .tight 1 [[.list .tight 1 (ints [1,1])],[.list .tight 1 (ints [1,2])],[.list .tight 1 (ints [1,3])]]
def Y3:AV:=.list .tight 1 (ints [0,1,2])
def Z3:AV:=.list .tight 1 (ints [4])
def T3:AV:=.list .held 1 (bf fM)
def xg:RL X3 R3:=by
 refine⟨.tight,1,[.list .tight 1 (ints [1,1]),.list .tight 1 (ints [1,2]),.list .tight 1 (ints [1,3])],rfl,λ_=>rfl,rfl,λi a r ha hr=>?_⟩
 match i with
 |0=>injection ha with ha;injection hr with hr;subst ha;subst hr;exact⟨_,_,rfl,λ_=>rfl⟩
 |1=>injection ha with ha;injection hr with hr;subst ha;subst hr;exact⟨_,_,rfl,λ_=>rfl⟩
 |2=>injection ha with ha;injection hr with hr;subst ha;subst hr;exact⟨_,_,rfl,λ_=>rfl⟩
 |i+3=>simp at ha
def wX:IL Y3 O3:=⟨_,_,rfl,λ_=>rfl⟩
def Bj:BL T3 fM:=⟨_,_,rfl,λ_=>rfl⟩
def blT:fX aq 28 4 [(0,.v (.int .u8 116)),(1,.v (.int .u8 101)),(2,.v (.int .u8 120)),(3,.v (.int .u8 116))]=aa (.list .tight 1 (bf fM)):=aw
def ae8(h)(bJ:cO h=ai)(es):∃H5 H6,h.fresh 1 es=(.list (.free h.tn) 1 es,H5)/\nm aq H5 28 28 (.list (.free h.tn) 1 es)=aa (.list .held 1 es,H6)/\Ext h H6/\H6.boxes=h.boxes:=by
 have eM:alive {h with tn:=h.tn+1} h.tn=ai:=by
  unfold cO at bJ;unfold alive;simp only[bL,decide_eq_true_eq,Bool.not_eq_true'];refine⟨Nat.lt_succ_self _,?_⟩;cases hc:h.dead.contains h.tn with|false=>rfl|true=>have:=ej.1 bJ h.tn (by simpa using hc);simp at this
 have u28:=Tryz.underlying28;have u5:aq.underlying 5=aa (.int .u8):=aw;refine⟨{h with tn:=h.tn+1},{h with tn:=h.tn+1,dead:=h.tn::h.dead},rfl,?_,?_,rfl⟩
 ·unfold nm;rw[u28];simp only[u5,eM,and_self,if_true]
 ·refine⟨λ_ _ q=>q,λ_ _ q=>q,FV _,λn hn q=>?_,λho=>?_⟩
  ·rcases iq.1 q with q|q
   ·omega
   ·exact q
  ·unfold cO at *
   rw[List.all_cons,bL];refine⟨bH,ej.2 λx hx=>?_⟩;have:=ej.1 ho x hx;simp at this ⊢;omega
def ad6:mW aq 25 [(0,X3),(1,Y3)]=aa (.agg [X3,Y3]):=aw
def aeA:fX aq 22 3 [(0,.list .tight 1 (ints [1,1])),(1,.list .tight 1 (ints [1,2])),(2,.list .tight 1 (ints [1,3]))]=aa X3:=aw
def aeD:fX aq 23 3 [(0,.v (.int .i64 0)),(1,.v (.int .i64 1)),(2,.v (.int .i64 2))]=aa Y3:=aw
def aeE:fX aq 23 1 [(0,.v (.int .i64 4))]=aa Z3:=aw
def aeJ(p q):fX aq 29 2 [(0,.agg (bQ p)),(1,.agg (bQ q))]=aa (.list .tight 4 (eS [p,q])):=aw
def auF:(jf aq 25).bind AV.cD=aa [nl,nl]:=aw
def auG:(jf aq 27).bind AV.cD=aa (aP 0 nl nl nl):=aw
def ad7{X Y C}{ae}{ag aj}(hx:RL X ae)(hy:IL Y ag)(hc:IL C aj):mW aq 27 [(1,.agg [X,Y]),(2,C)]=aa (.agg (aP 0 X Y C)):=by obtain⟨_,_,_,rfl,-⟩:=hx.form;obtain⟨_,_,rfl,-⟩:=hy;obtain⟨_,_,rfl,-⟩:=hc;kernel_rfl
def ar9(k)(a b c):gY aq 36 (.list k 2 (fV [a,b,c])) ar (aa (.v (.int .i64 1))) ar=aa (.list (qg k az az 1) 2 (fV [a])):=aw
def asa(k)(a b c):gY aq 36 (.list k 2 (fV [a,b,c])) (aa (.v (.int .i64 2))) ar ar=aa (.list (qg k ai az 1) 2 (fV [c])):=aw
def asb(k)(a b c):gY aq 36 (.list k 2 (fV [a,b,c])) (aa (.v (.int .i64 1))) (aa (.v (.int .i64 2))) ar=aa (.list (qg k az az 1) 2 (fV [b])):=aw
def ad8(a b):mW aq 50 [(0,im a),(1,im b)]=aa (.agg [im a,im b]):=aw
def ary(h:ao)(bJ:cO h=ai):∃r h',W6.call 15 [] h=aa (r,h')/\Ext h h'/\r=.ret (.v (.bool ai)):=by
 obtain⟨U,C,hU,hC,c1⟩:∃U C,SL U [(0,14),(1,18),(2,22)]/\IL C C3/\∀h,W6.call 44 [.agg [X3,Y3],im 10,Z3] h=aa (.ret (.tuple [U,C,im 0]),h):=by
  rcases agM X3 Y3 Z3 R3 O3 [4] 10 xg wX ⟨_,_,rfl,λ_=>rfl⟩ aO aO with⟨z,-⟩|⟨-,U,C,z1,z2,z3⟩
  ·exact absurd agK z
  ·exact⟨U,C,by have:=agN;unfold S2 at this;rw[this] at z1;exact z1,z2,z3⟩
 have c2:∀h,W6.call 45 [im 0,im 5,im 6] h=aa (.ret (.tuple [.agg (bQ pA),.v (.bool ai)]),h):=YF 0 5 6 aO;have c3:∀h,W6.call 45 [im 2,im 7,im 8] h=aa (.ret (.tuple [.agg (bQ pB),.v (.bool ai)]),h):=YF 2 7 8 aO;have DR:PL (.list .tight 4 (eS [pA,pB])) [pA,pB]:=⟨_,_,rfl,λ_=>rfl⟩;have VA:PL (.list .tight 4 (eS [pA])) [pA]:=⟨_,_,rfl,λ_=>rfl⟩;have Vz:PL nl []:=⟨_,_,rfl,λq=>absurd rfl q⟩;have dF:C3.length<=1000000:=by decide
 obtain⟨Zb,JQ,c4⟩:∃Z,IL Z [b3 0,b3 2]/\∀h,W6.call 17 [.agg (aP 0 X3 Y3 C),T3,.list .tight 4 (eS [pA,pB])] h=aa (.ret (.tuple [Z,im ((gV (ak C3 0) fM [pA,pB]:Nat):Int),im rX,im 0]),h):=by
  rcases Ng 0 X3 Y3 C T3 _ R3 O3 C3 fM [pA,pB] xg wX hC Bj DR dF aO with⟨z,-⟩|⟨-,z⟩
  ·exact absurd Na z
  ·exact z
 have c5:∀h,W6.call 17 [.agg (aP 0 X3 Y3 C),T3,nl] h=aa (.ret (.tuple [nl,im 0,im 0,im 420]),h):=by
  rcases Ng 0 X3 Y3 C T3 _ R3 O3 C3 fM [] xg wX hC Bj Vz dF aO with⟨-,z⟩|⟨z,-⟩
  ·rw[Tw] at z;exact z
  ·rw[Tw] at z;exact absurd z aO
 have c6:∀h,W6.call 17 [.agg (aP 0 X3 Y3 C),T3,.list .tight 4 (eS [pA])] h=aa (.ret (.tuple [nl,im 0,im 0,im 420]),h):=by
  rcases Ng 0 X3 Y3 C T3 _ R3 O3 C3 fM [pA] xg wX hC Bj VA dF aO with⟨-,z⟩|⟨z,-⟩
  ·rw[Tv] at z;exact z
  ·rw[Tv] at z;exact absurd z aO
 obtain⟨k,s,rfl,hs⟩:=hU;have jr:s=2:=hs bH;subst jr;have mk:=λ(t:Tok) (l:List (Int × Int)) (n d f:Int) (hl:l.length<=1000000)=>Yc 0 X3 Y3 C T3 _ R3 O3 C3 fM [pA,pB] xg wX hC Bj DR dF aO (.list t 2 (fV l)) l n d f ⟨_,_,rfl,λ_=>rfl⟩ hl;have c7:=mk (qg k az az 1) [(0,14)] 0 5 6 aO;have c8:=mk (qg k ai az 1) [(2,22)] 2 7 8 aO;have c9:=mk (qg k az az 1) [(1,18)] 1 7 8 aO;rw[alj] at c7;rw[alm] at c8;rw[alk] at c9;have c10:=NJ 0 X3 Y3 C T3 _ R3 O3 C3 fM [pA,pB] xg wX hC Bj DR dF aO 0 1073741789;have c11:=NJ 0 X3 Y3 C T3 _ R3 O3 C3 fM [pA,pB] xg wX hC Bj DR dF aO 0 x3;rw[ahH] at c10;rw[ahG] at c11;have m1:=P6 (b3 0) 6;have m2:=P6 (b3 2) 8;have m3:=P6 rX 10;have m4:=Ja 12 (bX rX 10);have m5:=Ja (bX (b3 2) 8) (cQ 12 (bX rX 10));have m6:∀h,W6.call 28 [im (bX (b3 0) 6),im (cQ (bX (b3 2) 8) (cQ 12 (bX rX 10)))] h=aa (.ret (im E8),h):=Ja (bX (b3 0) 6) (cQ (bX (b3 2) 8) (cQ 12 (bX rX 10)));have m7:=Ja x3 y3;rw[aaP] at m7;have m8:=at4 ((gV (ak C3 0) fM [pA,pB]:Nat):Int);rw[amS] at m8;have m9:=auc (ak C3 0) rX E8 T3 fM Bj aO;rw[aub] at m9;have lnZ:dW aq 23 Zb=aa (.v (.int .i64 2)):=JQ.dW;have ix0:dG aq 23 Zb (.v (.int .i64 0))=aa (.elem 1 (ints [b3 0,b3 2]) 0 0):=JQ.ix (i:=0) bH;have ix1:dG aq 23 Zb (.v (.int .i64 1))=aa (.elem 1 (ints [b3 0,b3 2]) 1 0):=JQ.ix (i:=1) bH;have ld0:∀K:ao,aI aq Gt K 3 (.elem 1 (ints [b3 0,b3 2]) 0 0)=aa (.v (.int .i64 (b3 0))):=λK=>e7 bH;have ld1:∀K:ao,aI aq Gt K 3 (.elem 1 (ints [b3 0,b3 2]) 1 0)=aa (.v (.int .i64 (b3 2))):=λK=>e7 bH;have ixC:dG aq 23 C (.v (.int .i64 0))=aa (.elem 1 (ints C3) 0 0):=hC.ix (i:=0) aO;have ldC:∀K:ao,aI aq Gt K 3 (.elem 1 (ints C3) 0 0)=aa (.v (.int .i64 (ak C3 0))):=λK=>e7 aO;have bk:=ad7 xg wX hC;have bp:=aeJ pA pB;have bq:fX aq 29 1 [(0,.agg (bQ pA))]=aa (.list .tight 4 (eS [pA])):=aeI pA;have sl1:=ar9 k (0,14) (1,18) (2,22);have sl2:=asa k (0,14) (1,18) (2,22);have sl3:=asb k (0,14) (1,18) (2,22);have lnU:dW aq 36 (.list k 2 (fV [(0,14),(1,18),(2,22)]))=aa (.v (.int .i64 3)):=by have:SL (.list k 2 (fV [(0,14),(1,18),(2,22)])) [(0,14),(1,18),(2,22)]:=⟨_,_,rfl,λ_=>rfl⟩;exact this.dW
 have kcell:(AV.agg (aP 0 X3 Y3 C)).cD=aa (aP 0 X3 Y3 C):=vv xg wX hC;have pcell:(AV.agg [X3,Y3]).cD=aa [X3,Y3]:=pQ xg wX;obtain⟨H1,jJ⟩:∃H1,h.push [X3,Y3]=H1:=⟨_,rfl⟩;obtain⟨H2,nM⟩:∃H2,H1.push (bQ pA)=H2:=⟨_,rfl⟩;obtain⟨H3,wH⟩:∃H3,H2.push (bQ pB)=H3:=⟨_,rfl⟩;obtain⟨H4,zW⟩:∃H4,H3.push (aP 0 X3 Y3 C)=H4:=⟨_,rfl⟩;have s1:cI aq (h.push [nl,nl]) 25 (.ptr (.box h.boxes.length) 0) (.agg [X3,Y3])=aa H1:=by rw[<-jJ];exact l9 pcell aw rfl rfl
 have s2:cI aq (H1.push (bQ ⟨0,0,0,0⟩)) 85 (.ptr (.box H1.boxes.length) 0) (.agg (bQ pA))=aa H2:=by rw[<-nM];exact xB pA
 have s3:cI aq (H2.push (bQ ⟨0,0,0,0⟩)) 85 (.ptr (.box H2.boxes.length) 0) (.agg (bQ pB))=aa H3:=by rw[<-wH];exact xB pB
 have s4:cI aq (H3.push (aP 0 nl nl nl)) 27 (.ptr (.box H3.boxes.length) 0) (.agg (aP 0 X3 Y3 C))=aa H4:=by rw[<-zW];exact l9 kcell aa0 rfl rfl
 have b1:H1.boxes[h.boxes.length]?=aa [X3,Y3]:=by rw[<-jJ];exact bh _ _
 have b2:H2.boxes[H1.boxes.length]?=aa (bQ pA):=by rw[<-nM];exact bh _ _
 have b3':H3.boxes[H2.boxes.length]?=aa (bQ pB):=by rw[<-wH];exact bh _ _
 have b4:H4.boxes[H3.boxes.length]?=aa (aP 0 X3 Y3 C):=by rw[<-zW];exact bh _ _
 have o2:∀{b:Nat} {cs:List AV},H1.boxes[b]?=aa cs->H2.boxes[b]?=aa cs:=λq=>by rw[<-nM];exact bA q
 have o3:∀{b:Nat} {cs:List AV},H2.boxes[b]?=aa cs->H3.boxes[b]?=aa cs:=λq=>by rw[<-wH];exact bA q
 have o4:∀{b:Nat} {cs:List AV},H3.boxes[b]?=aa cs->H4.boxes[b]?=aa cs:=λq=>by rw[<-zW];exact bA q
 have x4:Ext h H4:=by rw[<-zW,<-wH,<-nM,<-jJ];exact(((Ext.push _ _).trans (.push _ _)).trans (.push _ _)).trans (.push _ _)
 obtain⟨H5,H6,f1,f2,x6,f3⟩:=ae8 H4 (x4.ok bJ) (bf fM);have l0:aI aq Gt H1 25 (.ptr (.box h.boxes.length) 0)=aa (.agg [X3,Y3]):=rk b1;have l1:aI aq Gt H3 25 (.ptr (.box h.boxes.length) 0)=aa (.agg [X3,Y3]):=rk (o3 (o2 b1));have l2:aI aq Gt H6 85 (.ptr (.box H1.boxes.length) 0)=aa (.agg (bQ pA)):=w8 (by rw[f3];exact o4 (o3 b2));have l3:aI aq Gt H6 85 (.ptr (.box H2.boxes.length) 0)=aa (.agg (bQ pB)):=w8 (by rw[f3];exact o4 b3');have l4:aI aq Gt H6 27 (.ptr (.box H3.boxes.length) 0)=aa (.agg (aP 0 X3 Y3 C)):=by rw[iC aw aa0 (by rw[f3];exact b4) (jZ rfl)];rfl
 have kx:=al.mk (x4.trans x6);have g1:=ad6;have g2:=aeA;have g3:=aeD;have g4:=aeE;have g5:=blT;unfold T3 at *
 clear DR VA Vz dF hC JQ mk hs kcell b1 b2 b3' b4 o2 o3 o4 x4 x6 f3 jJ nM wH zW bJ;generalize bQ pA=rA at *
 generalize bQ pB=rB at *
 generalize eS [pA,pB]=rAB at *
 generalize eS [pA]=rA1 at *
 generalize ((gV (ak C3 0) fM [pA,pB]:Nat):Int)=pt at *
 generalize b3 0=v0 at *
 generalize b3 2=v2 at *
 generalize rX=vc at *
 generalize ak C3 0=key at *
 generalize bf fM=tt at *
 generalize X3=X at *
 generalize Y3=Y at *
 generalize Z3=Z at *
 generalize x3=x at *
 generalize y3=y at *
 generalize E8=sec at *
 generalize ([(0,14),(1,18),(2,22)]:List (Int × Int))=shs at *
 have bd:=ad8 vc sec;unfold im at *
 refine da rfl Tryz.func15 rfl ?_;refine bG @HY @aeF @auF (av @auG @AS) ?_;refine bM.gen λe0 aF bD cN cH=>?_;have q0_0:e0.get 0=.v (.bool az):=by rw[aF];exact gS
 have q0_2:e0.get 2=.list k 2 (fV shs):=by rw[aF];exact gS
 have q0_3:e0.get 3=C:=by rw[aF];exact gS
 have q0_5:e0.get 5=.ptr (.box H1.boxes.length) 0:=by rw[aF];exact gS
 have q0_7:e0.get 7=.ptr (.box H2.boxes.length) 0:=by rw[aF];exact gS
 have q0_9:e0.get 9=.ptr (.box H3.boxes.length) 0:=by rw[aF];exact gS
 have q0_10:e0.get 10=.list .held 1 tt:=by rw[aF];exact gS
 have q0_11:e0.get 11=Zb:=by rw[aF];exact gS
 have q0_12:e0.get 12=.v (.int .i64 pt):=by rw[aF];exact gS
 have q0_13:e0.get 13=.v (.int .i64 vc):=by rw[aF];exact gS
 have q0_14:e0.get 14=.v (.int .i64 0):=by rw[aF];exact gS
 have q0_18:e0.get 18=.v (.int .i64 420):=by rw[aF];exact gS
 have q0_22:e0.get 22=.v (.int .i64 420):=by rw[aF];exact gS
 have q0_d:e0.defers=[]:=by rw[bD];exact gS
 clear aF bD cN cH c1 c2 c3 c4 c5 c6 s1 s2 s3 s4 l0 l1 f1 f2 g1 g2 g3 g4 g5 bk bq;refine dR Dv aw ?_;refine bI @HY ?_;refine bM.gen λe1 iI dU ui yC=>?_;have q1_0:e1.get 0=.v (.bool az):=by rw[iI];exact gA
 have q1_2:e1.get 2=.list k 2 (fV shs):=by rw[iI];exact gA
 have q1_3:e1.get 3=C:=by rw[iI];exact gA
 have q1_5:e1.get 5=.ptr (.box H1.boxes.length) 0:=by rw[iI];exact gA
 have q1_7:e1.get 7=.ptr (.box H2.boxes.length) 0:=by rw[iI];exact gA
 have q1_9:e1.get 9=.ptr (.box H3.boxes.length) 0:=by rw[iI];exact gA
 have q1_10:e1.get 10=.list .held 1 tt:=by rw[iI];exact gA
 have q1_11:e1.get 11=Zb:=by rw[iI];exact gA
 have q1_12:e1.get 12=.v (.int .i64 pt):=by rw[iI];exact gA
 have q1_13:e1.get 13=.v (.int .i64 vc):=by rw[iI];exact gA
 have q1_14:e1.get 14=.v (.int .i64 0):=by rw[iI];exact gA
 have q1_18:e1.get 18=.v (.int .i64 420):=by rw[iI];exact gA
 have q1_22:e1.get 22=.v (.int .i64 420):=by rw[iI];exact gA
 have q1_23:e1.get 23=.v (.int .i64 x):=by rw[iI];exact gA
 have q1_24:e1.get 24=.v (.int .i64 0):=by rw[iI];exact gA
 have q1_d:e1.defers=[]:=by rw[dU];exact gA
 clear iI dU ui yC q0_0 q0_2 q0_3 q0_5 q0_7 q0_9 q0_10 q0_11 q0_12 q0_13 q0_14 q0_18 q0_22 q0_d c7 sl1;refine dR Dv aw ?_;refine bI @HY ?_;refine bM.gen λe2 fw gu ni jj=>?_;have q2_0:e2.get 0=.v (.bool az):=by rw[fw];exact gA
 have q2_2:e2.get 2=.list k 2 (fV shs):=by rw[fw];exact gA
 have q2_3:e2.get 3=C:=by rw[fw];exact gA
 have q2_5:e2.get 5=.ptr (.box H1.boxes.length) 0:=by rw[fw];exact gA
 have q2_7:e2.get 7=.ptr (.box H2.boxes.length) 0:=by rw[fw];exact gA
 have q2_9:e2.get 9=.ptr (.box H3.boxes.length) 0:=by rw[fw];exact gA
 have q2_10:e2.get 10=.list .held 1 tt:=by rw[fw];exact gA
 have q2_11:e2.get 11=Zb:=by rw[fw];exact gA
 have q2_12:e2.get 12=.v (.int .i64 pt):=by rw[fw];exact gA
 have q2_13:e2.get 13=.v (.int .i64 vc):=by rw[fw];exact gA
 have q2_14:e2.get 14=.v (.int .i64 0):=by rw[fw];exact gA
 have q2_18:e2.get 18=.v (.int .i64 420):=by rw[fw];exact gA
 have q2_22:e2.get 22=.v (.int .i64 420):=by rw[fw];exact gA
 have q2_23:e2.get 23=.v (.int .i64 x):=by rw[fw];exact gA
 have q2_24:e2.get 24=.v (.int .i64 0):=by rw[fw];exact gA
 have q2_25:e2.get 25=.v (.int .i64 y):=by rw[fw];exact gA
 have q2_26:e2.get 26=.v (.int .i64 0):=by rw[fw];exact gA
 have q2_d:e2.defers=[]:=by rw[gu];exact gA
 clear fw gu ni jj q1_0 q1_2 q1_3 q1_5 q1_7 q1_9 q1_10 q1_11 q1_12 q1_13 q1_14 q1_18 q1_22 q1_23 q1_24 q1_d c8 sl2;refine dR Dv aw ?_;refine bI @HY ?_;refine dR Dv aw ?_;refine bI @HY ?_;exact⟨_,_,rfl,kx.out,rfl⟩
section
variable {ae:List (List Int)} {ag gX avw:List Int} {gy sm:Int} {text:List UInt8}
def amC(ae:List (List Int))(ag s aA N:List Int)(l:List Pr)(text:List UInt8)(i:Nat):Int:=
 lI ae ag (dT s) text l (ak aA i) (ak N (2 * i)) (ak N (2 * i+1)) (jF ag (ie ae s) (ak aA i))
end
section
variable {ae:List (List Int)} {ag aA N s y z:List Int} {l:List Pr} {text:List UInt8} {ep:Int}
def amE(ae:List (List Int))(ag s aA N:List Int)(l:List Pr)(text:List UInt8):List Int:=(bR aA.length).map (amC ae ag s aA N l text)
structure R9(ae:List (List Int))(ag aA N s y:List Int)(l:List Pr)(text:List UInt8)(ep:Int):Prop where
 agu:pY aA N l
 acc:gC ae ag aA=(y,ai,0)
 ne:aA≠[]
 wl:aA.length<=64
 tl:text.length<=65536
 ep:0<=ep/\ep<=64
 sl:s.length=b9 ae
def R9.aal(c:R9 ae ag aA N s y l text ep):vR (ak (dT s) 0) text ((eZ (ak (dT s) 0) text l:Nat):Int) ((amE ae ag s aA N l text).foldl cQ 0)=ai:=
 Ux c.agu c.acc c.sl
end
def Z6:Tryz.f95.results.toList=[.tmp 6]:=aw
def aeM(a b)(t):fX aq 94 3 [(0,.agg (aJ 1 a [] .nil 0 [])),(1,.agg (aJ 1 b [] .nil 0 [])),(2,.agg (aJ 2 0 t .nil 0 []))]=aa (.list .tight 4 [aJ 1 a [] .nil 0 [],aJ 1 b [] .nil 0 [],aJ 2 0 t .nil 0 []]):=aw
def aiT(h:ao)(p key:Int)(T:AV)(text:List UInt8)(hp:0<=p/\p<=4611686018427387903)(hk:0<=key/\key<=4611686018427387903)(ht:BL T text)(hl:text.length<=1000000):
 ∃r h',W6.call 95 [im p,im key,T] h=aa (r,h')/\h'=h/\r=.ret (im ((tK p key text:Nat):Int)):=by
 have c1:=KW p;have c2:=KW key;have c3:=Z8 text;have hr:nK [.int p,.int key,.text text] [aJ 1 p [] .nil 0 [],aJ 1 key [] .nil 0 [],aJ 2 0 text .nil 0 []]:=by
  refine⟨rfl,λi v r hv hr=>?_⟩
  match i with
  |0=>injection hv with hv;injection hr with hr;subst hv;subst hr;exact .int p hp
  |1=>injection hv with hv;injection hr with hr;subst hv;subst hr;exact .int key hk
  |2=>injection hv with hv;injection hr with hr;subst hv;subst hr;exact .text text ah
  |i+3=>simp at hv
 have c4:=Zx hr rfl .tight bH;have hv:cY (.list [.int p,.int key,.text text]) (aJ 3 0 [] (cd .tight) 4 [aJ 1 p [] .nil 0 [],aJ 1 key [] .nil 0 [],aJ 2 0 text .nil 0 []]):=.list _ _ _ _ rfl (λ_=>rfl) bH hr.2;have bZ:=Rr p key text;obtain⟨t,c5⟩:=Zs hv (by simp[gq,hJ]) ah;have c6:=Zw xu (dI (.list [.int p,.int key,.text text])) t ah aO;have hh:mK (gi xu (dI (.list [.int p,.int key,.text text])))=tK p key text:=rfl;rw[hh] at c6;rw[show xu=[115,105,103,110] from rfl] at c6;have bk:=aeM p key text;obtain⟨kt,st,rfl,ct⟩:=ht;have cv:=λH=>Js (k:=kt) ct H;generalize tK p key text=n at *
 generalize aJ 3 0 [] (cd .tight) 4 [aJ 1 p [] .nil 0 [],aJ 1 key [] .nil 0 [],aJ 2 0 text .nil 0 []]=R at *
 generalize aJ 1 p [] .nil 0 []=r0 at *
 generalize aJ 1 key [] .nil 0 []=r1 at *
 generalize aJ 2 0 text .nil 0 []=r2 at *
 generalize dI (.list [.int p,.int key,.text text])=eb at *
 clear hr hv bZ hh ct;unfold sv at c3;unfold im at *
 refine da rfl Tryz.func95 rfl ?_;refine bI @Z6 ?_;refine dR Dv aw ?_;refine bI @Z6 ?_;exact⟨_,_,rfl,rfl,rfl⟩
def L9:List bm:=L8++[117,51,50,170,74]
noncomputable def QF:bm->Option (List AV->ao->Option (AV × ao)):=qb W8 L9
noncomputable abbrev W9:=whole aq Gt QF
def Jj:pX QF L9:=xY
structure oK(X Y C T L:AV)(ae:List (List Int))(ag aj:List Int)(text:List UInt8)(l:List Pr):Prop where
 x:RL X ae
 y:IL Y ag
 c:IL C aj
 t:BL T text
 p:PL L l
structure Fw(aj:List Int)(text:List UInt8)(l:List Pr):Prop where
 pos:0<aj.length
 c0:0<=ak aj 0/\ak aj 0<=4611686018427387903
 tl:text.length<=65536
 ll:l.length<=64
 ne:l≠[]
 ok:∀p∈l,Dj p
 el:∀p∈l,bN p.d=ai/\bN p.e=ai
section
variable {X Y C T L:AV} {ae:List (List Int)} {ag aj:List Int} {text:List UInt8} {l:List Pr}
def oK.hold(g:oK X Y C T L ae ag aj text l):oK (aD X) (aD Y) (aD C) (aD T) (aD L) ae ag aj text l/\aL 0 0 0 (aD X)=ai/\aL 0 0 0 (aD Y)=ai/\aL 0 0 0 (aD C)=ai/\aL 0 0 0 (aD T)=ai/\aL 0 0 0 (aD L)=ai:=by obtain⟨h1,h2⟩:=g.x.fb;obtain⟨h3,h4⟩:=g.y.hold;obtain⟨h5,h6⟩:=g.c.hold;obtain⟨h7,h8⟩:=g.t.fb;obtain⟨h9,BB⟩:=g.p.fb;exact⟨⟨h1,h3,h5,h7,h9⟩,h2,h4,h6,h8,BB⟩
def oK.cells(g:oK X Y C T L ae ag aj text l)(ep:Int):(AV.agg (aP ep X Y C)).cD=aa (aP ep X Y C):=vv g.x g.y g.c
end
section
variable (R:Rec)
def Fl:Prop:=∀ep X Y C T L ae ag aj text l au,oK X Y C T L ae ag aj text l->Fw aj text l->0<=au/\au<=4611686018427387903->∀h,R.call 51 [.agg (aP ep X Y C),T,L,im au] h=aa (.ret (im ((eY (ak aj 0) text l au:Nat):Int)),h)
def Fo:Prop:=∀ep X Y C T L ae ag aj text l,oK X Y C T L ae ag aj text l->ae.length<=1000000->aj.length<=1000000->l.length<=1000000->∀h,R.call 50 [.agg (aP ep X Y C),T,L] h=aa (.ret (im (dA ae ag ep aj text l)),h)
def CX:Prop:=∀p key T text,0<=p/\p<=4611686018427387903->0<=key/\key<=4611686018427387903->BL T text->text.length<=1000000->∀h,R.call 95 [im p,im key,T] h=aa (.ret (im ((tK p key text:Nat):Int)),h)
end
section
variable {R:Rec} {L:List bm}
def Fl.up(hg:L.contains 51=ai)(c:Fl R):Fl (up R L):=λep X Y C T L' ae ag aj text l au g f hk=>by obtain⟨g2,f1,f2,f3,f4,f5⟩:=g.hold;exact br (cA:=[.agg (aP ep (aD X) (aD Y) (aD C)),aD T,aD L',im au]) hg rfl (by simp[aP,im,aW,aL,f1,f2,f3,f4,f5]) (c ep _ _ _ _ _ ae ag aj text l au g2 f hk _) rfl rfl
def Fo.up(hg:L.contains 50=ai)(c:Fo R):Fo (up R L):=λep X Y C T L' ae ag aj text l g q1 q2 q3=>by obtain⟨g2,f1,f2,f3,f4,f5⟩:=g.hold;exact br (cA:=[.agg (aP ep (aD X) (aD Y) (aD C)),aD T,aD L']) hg rfl (by simp[aP,aW,aL,f1,f2,f3,f4,f5]) (c ep _ _ _ _ _ ae ag aj text l g2 q1 q2 q3 _) rfl rfl
def CX.up(hg:L.contains 95=ai)(c:CX R):CX (up R L):=λp key T text hp hk ht hl=>by obtain⟨h1,h2⟩:=ht.fb;exact br (cA:=[im p,im key,aD T]) hg rfl (by simp[im,aW,aL,h2]) (c p key _ text hp hk h1 hl _) rfl rfl
end
def ar2:CX W7:=λp key T text hp hk ht hl=>by obtain⟨h1,h2⟩:=ht.fb;obtain⟨r,h',c,-,rfl⟩:=aiT ⟨[],[],0,[]⟩ p key _ text hp hk h1 hl;exact br (L:=L7) (cA:=[im p,im key,aD T]) rfl rfl (by simp[im,aW,aL,h2]) c rfl rfl
def ar3:CX W8:=ar2.up rfl
def ar4:CX W9:=ar3.up rfl
def Y1:uI W9 62:=ana.up rfl
def P7:zu W9 73:=alE.up rfl
def afa:zn W9 65:=adj.up rfl
def afC:CQ W9:=ahy.up rfl
def Ua:Fl W9:=λep X Y C T L' ae ag aj text l au g f hk=>by obtain⟨g2,f1,f2,f3,f4,f5⟩:=g.hold;obtain⟨r,h',c,-,rfl⟩:=aex ⟨[],[],0,[]⟩ ep _ _ _ _ _ aj text l au (g2.cells ep) g2.c g2.t g2.p f.pos f.c0 f.tl f.ll f.ne f.ok hk;exact br (L:=L9) (cA:=[.agg (aP ep (aD X) (aD Y) (aD C)),aD T,aD L',im au]) rfl rfl (by simp[aP,im,aW,aL,f1,f2,f3,f4,f5]) c rfl rfl
def afA:Fo W9:=λep X Y C T L' ae ag aj text l g q1 q2 q3=>by obtain⟨g2,f1,f2,f3,f4,f5⟩:=g.hold;obtain⟨r,h',c,rfl⟩:=aho ⟨[],[],0,[]⟩ ep _ _ _ _ _ ae ag aj text l g2.x g2.y g2.c g2.t g2.p q1 q2 q3;exact br (L:=L9) (cA:=[.agg (aP ep (aD X) (aD Y) (aD C)),aD T,aD L']) rfl rfl (by simp[aP,aW,aL,f1,f2,f3,f4,f5]) c rfl rfl
def Ll:Tryz.f52.results.toList=[.tmp 6]:=by kernel_rfl
def Lm:Tryz.f53.results.toList=[.tmp 6]:=by kernel_rfl
def amT(h:ao)(ep:Int)(X Y C T L:AV)(ae:List (List Int))(ag aj:List Int)(text:List UInt8)(l:List Pr)(g:oK X Y C T L ae ag aj text l)(f:Fw aj text l):
 ∃r h',W9.call 52 [.agg (aP ep X Y C),T,L] h=aa (r,h')/\h'=h.push (aP ep X Y C)/\r=.ret (im ((gV (ak aj 0) text l:Nat):Int)):=by
 have bx:=g.cells ep;have cb:=λk hk=>Ua ep X Y C T L ae ag aj text l k g f hk;have b0:=bh h (aP ep X Y C);have l0:aI aq Gt (h.push (aP ep X Y C)) 27 (.ptr (.box h.boxes.length) 0)=aa (.agg (aP ep X Y C)):=Av b0 rfl;obtain⟨kp,sp,rfl,lH⟩:=g.p;have bF:sp=4:=lH f.ne;subst bF;have u29:=uO;have z85:=rE;have cK:=vG l;have kf:=al.mk (av f cb);have eO:=f.ll;have O9:al (gV (ak aj 0) text l=l.foldl (λx p=>x * iL (ak aj 0) text l p%P) 1):=⟨rfl⟩;generalize gV (ak aj 0) text l=pt at *
 obtain⟨H0,hH⟩:∃H0,h.push (aP ep X Y C)=H0:=⟨_,rfl⟩;rw[hH] at l0;rw[hH];clear b0 g f lH cb;generalize aP ep X Y C=K at *
 refine da rfl Tryz.func52 rfl ?_;refine cR @Ll @bB @hH ?_;refine bM.gen λe0 aF bD cN cH=>?_;have f1:e0.get 1=T:=by rw[aF];exact gS
 have f2:e0.get 2=.list kp 4 (eS l):=by rw[aF];exact gS
 have f3:e0.get 3=.ptr (.box h.boxes.length) 0:=by rw[aF];exact gS
 have f7:e0.get 7=.v (.int .i64 (((l.take 0).foldl (λx p=>x * iL (ak aj 0) text l p%P) 1:Nat):Int)):=by rw[aF];exact gR
 have f8:e0.get 8=.v (.int .i64 (0:Nat)):=by rw[aF];exact gR
 have fd:e0.defers=[]:=by rw[bD];exact gS
 clear aF bD cN cH bx hH;refine cE (λm e H=>∃i:Nat,i<=l.length/\m=l.length - i/\e.get 1=T/\e.get 2=.list kp 4 (eS l)/\e.get 3=.ptr (.box h.boxes.length) 0/\e.get 7=.v (.int .i64 (((l.take i).foldl (λx p=>x * iL (ak aj 0) text l p%P) 1:Nat):Int))/\e.get 8=.v (.int .i64 (i:Nat))/\e.defers=[]/\H=H0) ?_ l.length _ _ ?_;rotate_left 1
 ·exact⟨0,cG _,rfl,f1,f2,f3,f7,f8,fd,rfl⟩
 clear f1 f2 f3 f7 f8 fd;rintro m e H ⟨i,hi,rfl,g1,g2,g3,g7,g8,hd,rfl⟩;by_cases aB:i<l.length
 ·obtain⟨p,hv⟩:∃p,l[i]?=aa p:=⟨_,aT aB⟩;have pI:=dn hv;have uj:=kf.out.1.ok p pI;obtain⟨fF,yq⟩:=kf.out.1.el p pI;obtain⟨ld0,-,ld2,jN⟩:=Aw (s:=4) hv;have c1:=kf.out.2 p.au (uj p.au bH);have c2:=Y1 p.e ((eY (ak aj 0) text l p.au:Nat):Int);have c3:=P7 p.d (ft p.e ((eY (ak aj 0) text l p.au:Nat):Int));have hN:jx p.d (ft p.e ((eY (ak aj 0) text l p.au:Nat):Int))=((iL (ak aj 0) text l p:Nat):Int):=by rw[yg fF (uX yq _),ox yq];unfold iL;rw[dK];unfold eY;rw[HJ]
  rw[hN] at c3;have bO:=Cr (c0:=ak aj 0) (text:=text) (l:=l) fF yq;have Xp:elem ((l.take i).foldl (λx p=>x * iL (ak aj 0) text l p%P) 1)=ai:=
   AG (λq hq=>Cr (kf.out.1.el q (oO hq)).1 (kf.out.1.el q (oO hq)).2) zR
  have c4:=P7 (((l.take i).foldl (λx p=>x * iL (ak aj 0) text l p%P) 1:Nat):Int) ((iL (ak aj 0) text l p:Nat):Int);have ct:jx (((l.take i).foldl (λx p=>x * iL (ak aj 0) text l p%P) 1:Nat):Int) ((iL (ak aj 0) text l p:Nat):Int)=(((l.take (i+1)).foldl (λx p=>x * iL (ak aj 0) text l p%P) 1:Nat):Int):=by rw[yg (qi Xp) (qi bO),fW hv,List.foldl_append,dK,dK];rfl
  rw[ct] at c4;have fA:(i:Int)<(l.length:Int):=by omega
  clear hv pI uj fF yq hN bO Xp ct;generalize (((l.take i).foldl (λx p=>x * iL (ak aj 0) text l p%P) 1:Nat):Int)=x0 at *
  generalize ((iL (ak aj 0) text l p:Nat):Int)=nn at *
  generalize ((eY (ak aj 0) text l p.au:Nat):Int)=bn at *
  generalize ft p.e bn=pw at *
  unfold im at *
  refine cR @Ll @jH @a9 ?_
  repeat' (first|simp(maxSteps:=999999)(disch:=first|exact dZ|fail)only[gW,reduceIte,aZ,aQ,Ll,jH,a9, *]|(refine dX ?_ ?_<;>(intro _;try omega))|refine dR Jj fg ?_)
  exact⟨l.length - (i+1),by omega,i+1,by omega,rfl,by simp⟩
 ·have gT:i=l.length:=by omega
  subst gT;rw[fI,<-O9.out] at g7;refine bI @Ll ?_;exact⟨_,_,rfl,rfl,rfl⟩
def amU{c0}{text}{l}(h:∀p∈l,bN p.d=ai/\bN p.e=ai):0<=((gV c0 text l:Nat):Int)/\((gV c0 text l:Nat):Int)<=4611686018427387903:=by
 have he:elem (gV c0 text l)=ai:=AG (λp hp=>Cr (h p hp).1 (h p hp).2) zR;have:=(elem_iff.1 he).2.1;have hP:P<=4611686018427387903:=by decide
 omega
def afH(h:ao)(ep:Int)(X Y C T L:AV)(ae:List (List Int))(ag aj:List Int)(text:List UInt8)(l:List Pr)(g:oK X Y C T L ae ag aj text l)(f:Fw aj text l):
 ∃r h',W9.call 53 [.agg (aP ep X Y C),T,L] h=aa (r,h')/\Ext h h'/\r=.ret (im ((eZ (ak aj 0) text l:Nat):Int)):=by
 have bx:=g.cells ep;obtain⟨_,H2,c1,e2,rfl⟩:=amT (h.push (aP ep X Y C)) ep X Y C T L ae ag aj text l g f;have c2:=ar4 ((gV (ak aj 0) text l:Nat):Int) (ak aj 0) T text (amU f.el) f.c0 g.t (by have:=f.tl;omega);have vh:tK ((gV (ak aj 0) text l:Nat):Int) (ak aj 0) text=eZ (ak aj 0) text l:=rfl;rw[vh] at c2;have b0:=bh h (aP ep X Y C);have l0:aI aq Gt (h.push (aP ep X Y C)) 27 (.ptr (.box h.boxes.length) 0)=aa (.agg (aP ep X Y C)):=Av b0 rfl;obtain⟨kc,sc,rfl,um⟩:=g.c;have lG:=f.pos;have bF:sc=1:=um (by intro e;rw[e] at lG;simp at lG);subst bF;have l2:aI aq Gt (h.push (aP ep X Y (.list kc 1 (ints aj)))) 23 (.ptr (.box h.boxes.length) 3)=aa (.list kc 1 (ints aj)):=dx pC b0 rfl;have l3:aI aq Gt H2 23 (.ptr (.box h.boxes.length) 3)=aa (.list kc 1 (ints aj)):=by rw[e2];exact dx pC (bA b0) rfl
 have l4:=λH=>e7 (H:=H) (l:=aj) (i:=0) (s:=1) lG;have X2:Ext h H2:=by rw[e2];exact(Ext.push _ _).trans (.push _ _)
 have u23:=dN;have z3:=fH;have cK:=dp aj;have G8:(0:Int)<(aj.length:Int):=by omega
 have z0:(0:Int).toNat=0:=rfl;have svs:=Im kc 1 aj;clear b0 e2 vh um lG g f;generalize ((eZ (ak aj 0) text l:Nat):Int)=ch at *
 generalize ((gV (ak aj 0) text l:Nat):Int)=pt at *
 generalize ak aj 0=c0 at *
 obtain⟨H0,hH⟩:∃H0,h.push (aP ep X Y (.list kc 1 (ints aj)))=H0:=⟨_,rfl⟩;rw[hH] at l0 l2 c1;generalize aP ep X Y (.list kc 1 (ints aj))=K at *
 unfold im at *
 refine da rfl Tryz.func53 rfl ?_;refine cR @Lm @bB @hH ?_;refine my [(3,5),(3,7)] Jj fg (λp hp=>?_) ?_
 ·simp only[iq,uM,or_false] at hp;rcases hp with rfl|rfl
  ·refine rD (x:=.ptr (.box h.boxes.length) 3) (v:=.list kc 1 (ints aj)) fg rfl rfl rfl fg (svs) ?_ ?_<;>(simp only[gl,fm];exact mf @Lm @iP @a9 @and_self)
  ·refine rD (x:=.elem 1 (ints aj) 0 0) (v:=.v (.int .i64 c0)) fg rfl rfl rfl fg (by simp[fe,lY]) ?_ ?_<;>(simp only[gl,fm];exact mf @Lm @iP @a9 @and_self)
 refine cR @Lm @iP @a9 ?_;exact⟨_,_,rfl,X2,rfl⟩
def rJ:List bm:=L9++[52,53,131]
noncomputable def Qz:bm->Option (List AV->ao->Option (AV × ao)):=qb W9 rJ
noncomputable abbrev mE:=whole aq Gt Qz
def xV:pX Qz rJ:=xY
section
variable (R:Rec)
def aby:Prop:=∀ep X Y C T L ae ag aj text l,oK X Y C T L ae ag aj text l->Fw aj text l->∀h,R.call 53 [.agg (aP ep X Y C),T,L] h=aa (.ret (im ((eZ (ak aj 0) text l:Nat):Int)),h)
end
def Ud:aby mE:=λep X Y C T L' ae ag aj text l g f=>by obtain⟨g2,f1,f2,f3,f4,f5⟩:=g.hold;obtain⟨r,h',c,-,rfl⟩:=afH ⟨[],[],0,[]⟩ ep _ _ _ _ _ ae ag aj text l g2 f;exact br (L:=rJ) (cA:=[.agg (aP ep (aD X) (aD Y) (aD C)),aD T,aD L']) rfl rfl (by simp[aP,aW,aL,f1,f2,f3,f4,f5]) c rfl rfl
def T9:Fl mE:=Ua.up rfl
def Ug:Fo mE:=afA.up rfl
def afB:CQ mE:=afC.up rfl
def Nm:zn mE 65:=afa.up rfl
def NF{x}(h:bN x=ai):0<=x/\x<=4611686018427387903:=by
 have h1:=(elem_iff.1 (Bo h)).2.1;unfold bN at h;simp only[bL,decide_eq_true_eq] at h;have hP:P<=4611686018427387903:=by decide
 have:=h.1;omega
def UZ{ae}{ag aj}{ep}{text}{l}(h:dA ae ag ep aj text l=0):Fw aj text l:=by
 obtain⟨h1,h2,h3,h4,h5,h6⟩:=Dt h;obtain⟨n1,-⟩:=uW h1;have hm:=yV h6;refine⟨ah,NF ?_,h5,h4,?_,λp hp n hn=>?_,λp hp=>⟨(hm p hp).2.2.2.2.1,(hm p hp).2.2.2.2.2⟩⟩
 ·refine ej.1 h3 _ ?_;rw[ga (ah:0<aj.length)];exact List.getElem_mem _
 ·rintro rfl;unfold dA at h;rw[aH (by simp[h1])] at h;split at h
  ·cases h
  ·rw[aH ah,aH bH] at h;simp[NT.fQ] at h
 ·obtain⟨q1,q2,q3,q4,q5,q6⟩:=hm p hp;simp only[iq,uM,or_false] at hn;rcases hn with rfl|rfl|rfl|rfl
  ·omega
  ·omega
  ·exact NF q5
  ·exact NF q6
def Ln:Tryz.f58.results.toList=[.tmp 4]:=by kernel_rfl
def Lo:Tryz.f60.results.toList=[.tmp 4]:=by kernel_rfl
def QZ:Tryz.f191.results.toList=[.tmp 4]:=by kernel_rfl
def IN(l:List Pr)(au i:Int):Prop:=(mN l au=ar/\i= -1)∨∃(j:Nat) (q:Pr),i=(j:Nat)/\l[j]?=aa q/\mN l au=aa q
def aj9(h:ao)(x:AV)(l:List Pr)(au:Int)(hx:PL x l)(hl:l.length<=1000000):
 ∃r h',W6.call 58 [x,im au] h=aa (r,h')/\h'=h/\∃i,r=.ret (im i)/\IN l au i:=by
 obtain⟨k,s,rfl,hs⟩:=hx;have ks:=al.mk hs;clear hs;have u29:=uO;have z85:=rE;have cK:=vG l;unfold im;refine da rfl Tryz.func58 rfl ?_;refine bI @Ln ?_;refine cE (λm e H=>∃i:Nat,i<=l.length/\m=l.length - i/\al ((l.take i).find? (λp=>decide (p.au=au))=ar)/\e.get 0=.list k s (eS l)/\e.get 1=.v (.int .i64 au)/\e.get 5=.v (.int .i64 (i:Nat))/\e.defers=[]/\H=h) ?_ l.length _ _ ?_;rotate_left 1
 ·refine⟨0,cG _,rfl,⟨rfl⟩,?_,?_,?_,?_,rfl⟩<;>exact gR
 rintro m e H ⟨i,hi,rfl,kf,g0,g1,g5,hd,rfl⟩;by_cases aB:i<l.length
 ·have bF:s=4:=ks.out (by intro q;rw[q] at aB;simp at aB);subst bF;obtain⟨p,hp⟩:∃p,l[i]?=aa p:=⟨_,aT aB⟩;obtain⟨ld,-⟩:=Aw (s:=4) hp;have fA:(i:Int)<(l.length:Int):=by omega
  have kp:=al.mk hp;clear hp;by_cases hc:p.au=au
  ·have dU:decide (p.au=au)=ai:=(by simp[hc]);have kI:al (IN l au (i:Nat)):=⟨.inr ⟨i,p,rfl,kp.out,by unfold mN;have e:l=l.take i++p::l.drop (i+1):=(by have:=List.take_append_drop i l;rw[xP aB,(aV.1 kp.out).2] at this;exact this.symm);rw[e,Mn,kf.out,acJ];simp only[ab0,dU]⟩⟩;have khc:=al.mk hc;generalize p.au=v at *
   clear hc
   repeat' (first|simp(maxSteps:=999999)(disch:=first|exact dZ|fail)only[gW,reduceIte,aZ,aQ,Ln,a9,jH, *]|refine dX ?_ ?_<;>(intro _;try omega))
   all_goals first|exact⟨_,_,rfl,rfl,_,rfl,kI.out⟩|exact absurd khc.out (by assumption)
  ·have dU:decide (p.au=au)=az:=(by simp[hc]);have kf2:al ((l.take (i+1)).find? (λp=>decide (p.au=au))=ar):=⟨by rw[fW kp.out,Mn,kf.out,acJ];simp only[ab0,dU,List.find?_nil]⟩;generalize p.au=v at *
   repeat' (first|simp(maxSteps:=999999)(disch:=first|exact dZ|fail)only[gW,reduceIte,aZ,aQ,Ln,a9,jH, *]|refine dX ?_ ?_<;>(intro _;try omega))
   all_goals exact⟨l.length - (i+1),by omega,i+1,by omega,rfl,kf2,by simp⟩
 ·have:i=l.length:=by omega
  subst this;have hn:=kf.out;rw[fI] at hn;have kI:al (IN l au (-1)):=⟨.inl ⟨hn,rfl⟩⟩;clear hn;refine bI @Ln ?_;exact⟨_,_,rfl,rfl,_,rfl,kI.out⟩
def apW(h:ao)(bJ:cO h=ai)(x y:AV)(ae:List (List Int))(ag:List Int)(au:Int)(hx:RL x ae)(hy:IL y ag)(hl:ag.length<=1000000):
 ∃r h',W6.call 60 [.agg [x,y],im au] h=aa (r,h')/\∃t,r=.ret (.list t 1 (ints (bP (eu ag au)))):=by
 have bx:=pQ hx hy;have b0:=bh h [x,y];obtain⟨ky,sy,rfl,jL⟩:=hy;have ks:=al.mk jL;have u23:=dN;have z3:=fH;have cK:=dp ag;have bn:fX aq 23 0 []=aa (.list .tight 1 []):=by kernel_rfl
 have kok:al (cO (h.push [x,.list ky sy (ints ag)])=ai):=⟨bJ⟩;have kB:=al.mk b0;have kX:=al.mk (Ext.push h [x,.list ky sy (ints ag)]);obtain⟨H0,hH⟩:∃H0,h.push [x,.list ky sy (ints ag)]=H0:=⟨_,rfl⟩;rw[hH] at kok kB kX;clear jL hx b0;unfold im;refine da rfl Tryz.func60 rfl ?_;refine cR @Lo @bB @hH ?_;refine bM.gen λe0 aF bD cN cH=>?_;have f1:e0.get 1=.v (.int .i64 au):=by rw[aF];exact gS
 have f2:e0.get 2=.ptr (.box h.boxes.length) 0:=by rw[aF];exact gS
 have f5:e0.get 5=.list .tight 1 (ints (bP ((bR 0).filter λi=>decide (ak ag i=au)))):=by rw[aF];exact gR
 have f6:e0.get 6=.v (.int .i64 (0:Nat)):=by rw[aF];exact gR
 have fd:e0.defers=[]:=by rw[bD];exact gS
 clear aF bD cN cH bx hH bn;refine cE (λm e H=>∃(i:Nat) (t:Tok),i<=ag.length/\m=ag.length - i/\al (Ext h H/\cO H=ai/\dD h.tn H t/\H.boxes[h.boxes.length]?=aa [x,.list ky sy (ints ag)])/\e.get 1=.v (.int .i64 au)/\e.get 2=.ptr (.box h.boxes.length) 0/\e.get 5=.list t 1 (ints (bP ((bR i).filter λi=>decide (ak ag i=au))))/\e.get 6=.v (.int .i64 (i:Nat))/\e.defers=[]) ?_ ag.length _ _ ?_;rotate_left 1
 ·exact⟨0,.tight,cG _,rfl,⟨kX.out,kok.out,.inr (.inl rfl),kB.out⟩,f1,f2,f5,f6,fd⟩
 clear f1 f2 f5 f6 fd kX kok kB;rintro m e H ⟨i,t,hi,rfl,kM,g1,g2,g5,g6,hd⟩;have l1:=Cn kM.out.2.2.2;by_cases aB:i<ag.length
 ·have bF:sy=1:=ks.out (by intro q;rw[q] at aB;simp at aB);subst bF;have ld:=e7 (H:=H) (s:=1) aB;have fA:(i:Int)<(ag.length:Int):=by omega
  by_cases hc:ak ag i=au
  ·have dU:decide (ak ag i=au)=ai:=(by simp[hc]);have nw:((bR i).filter λi=>decide (ak ag i=au)).length<=i:=(by have:=List.length_filter_le (λi=>decide (ak ag i=au)) (bR i);rw[List.length_range] at this;exact this);have bl:=qa (i:Int);have ap:=uR (H:=H) (x:=(i:Int)) (es:=bP ((bR i).filter λi=>decide (ak ag i=au))) (sz:=1) (by unfold bP;rw[bE];omega) (.inl rfl) kM.out.2.2.1;have ct:bP ((bR i).filter λi=>decide (ak ag i=au))++[(i:Int)]=bP ((bR (i+1)).filter λi=>decide (ak ag i=au)):=(by rw[nH,zB,FF,aG dU];unfold bP;simp);rw[ct] at ap;have hG:=Grown.one kM.out.2.2.1 kM.out.2.1 kM.out.1.tn;have kM2:al (Ext h (H.app t)/\cO (H.app t)=ai/\dD h.tn (H.app t) (.free H.tn)/\(H.app t).boxes[h.boxes.length]?=aa [x,.list ky 1 (ints ag)]):=⟨hG.ext kM.out.1 (aM _),hG.ok,hG.can,by rw[eL];exact kM.out.2.2.2⟩;have khc:=al.mk hc;clear hG kM ct nw hc;generalize ak ag i=v at *
   repeat' (first|simp(maxSteps:=999999)(disch:=first|exact dZ|fail)only[gW,reduceIte,aZ,aQ,Lo,eG,a9, *]|refine dX ?_ ?_<;>(intro _;try omega))
   all_goals first|exact⟨ag.length - (i+1),by omega,i+1,.free H.tn,by omega,rfl,(by first|exact kM2|trivial),by simp⟩|exact absurd khc.out (by assumption)
  ·have dU:decide (ak ag i=au)=az:=(by simp[hc]);have ct:bP ((bR i).filter λi=>decide (ak ag i=au))=bP ((bR (i+1)).filter λi=>decide (ak ag i=au)):=(by rw[nH,zB,FF,aH (by rw[dU];simp)];simp);rw[ct] at g5;clear ct;generalize ak ag i=v at *
   repeat' (first|simp(maxSteps:=999999)(disch:=first|exact dZ|fail)only[gW,reduceIte,aZ,aQ,Lo,eG,a9, *]|refine dX ?_ ?_<;>(intro _;try omega))
   all_goals exact⟨ag.length - (i+1),by omega,i+1,t,by omega,rfl,(by first|exact kM|trivial),by simp⟩
 ·have:i=ag.length:=by omega
  subst this;refine bV @Lo @eG ?_;exact⟨_,_,rfl,t,rfl⟩
def arN(h:ao)(x y:AV)(ae:List (List Int))(ag:List Int)(a v:Int)(hx:RL x ae)(hy:IL y ag):
 ∃r h',W6.call 191 [.agg [x,y],.agg [im a,im v]] h=aa (r,h')/\r=.ret (.v (.bool (jm ae (a,v)))):=by
 have bx:=pQ hx hy;have b2:(AV.agg [im a,im v]).cD=aa [im a,im v]:=rfl;have l0:aI aq Gt ((h.push [x,y]).push [im a,im v]) 22 (.ptr (.box h.boxes.length) 0)=aa x:=pO (bA (bh h [x,y]));have l1:=Hs (bh (h.push [x,y]) [im a,im v]);have l2:=Ht (bh (h.push [x,y]) [im a,im v]);have nP:(h.push [x,y]).boxes.length=h.boxes.length+1:=cX _ _;have c:=Yv v;obtain⟨k,s,xs,rfl,-,dB,-⟩:=hx;have u22:=ir;have cK:(xs.map λa=>[a]).length=ae.length:=by rw[bE];exact dB
 have kv:al (jm ae (a,v)=(decide (0<=a)&&decide (a<ae.length)&&cU v)):=⟨rfl⟩;generalize jm ae (a,v)=res at *
 rw[nP] at l1 l2;obtain⟨H0,hH⟩:∃H0,(h.push [.list k s (xs.map λa=>[a]),y]).push [im a,im v]=H0:=⟨_,rfl⟩;rw[hH] at l0 l1 l2;clear hy;generalize cU v=vq at *
 unfold im at *
 refine da rfl Tryz.func191 rfl ?_;by_cases h1:0<=a;rotate_left 1
 ·have hf:res=az:=by rw[kv.out];simp[h1]
  have dU:decide (0<=a)=az:=cT h1;clear h1 kv;subst hf;refine bG @QZ @bB @nP (av @hH (av @yb (av @yc @dw))) ?_;exact⟨_,_,rfl,rfl⟩
 have dU:decide (0<=a)=ai:=cz h1;by_cases h2:a<(ae.length:Int);rotate_left 1
 ·have hf:res=az:=by rw[kv.out];simp[h2]
  have gu:decide (a<(ae.length:Int))=az:=cT h2;clear h1 h2 kv;subst hf;refine bG @QZ @bB @nP (av @hH (av @yb (av @yc @dw))) ?_;exact⟨_,_,rfl,rfl⟩
 have gu:decide (a<(ae.length:Int))=ai:=cz h2;have hf:res=vq:=by rw[kv.out,dU,gu];rfl
 clear h1 h2 kv;subst hf;refine bG @QZ @bB @nP (av @hH (av @yb (av @yc @dw))) ?_;exact⟨_,_,rfl,rfl⟩
end Go.Proofs.YtnfciiiohoafaaaGreatDoor
end
