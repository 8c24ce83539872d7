/-
  Part of the proof: TH.
-/
import Derived.Test.YtnfciiiohoafaaaGreatDoorTG
import Derived.Test.YtnfciiiohoafaaaGreatDoorTF
import Derived.Test.YtnfciiiohoafaaaGreatDoorTB
import Derived.LaidMore
import Derived.MakeChecks
import Derived.Stop.LaidErr
import Derived.Stop.Joined
import Derived.Lib.LaidTab
import Derived.Test.YtnfciiiohoafaaaGreatDoorRows
open Option renaming some->aa,map_eq_some_iff->dh,map_some->eJ,none->aq
open Go.Proofs.Tryz renaming underlying23->dJ,prog->al,underlying29->wS,underlying22->iq,underlying94->oH,underlying28->iO,func3->Cq,underlying3->Ah
open Bool renaming true->ah,false->av,and_eq_true->bC,true_and->rP,and_true->BT
open Nat renaming zero_le->cr,le_refl->aJ,reduceEqDiff->aX,le_succ->EP,lt_irrefl->ER,le_of_ble_eq_true->lW,lt_or_ge->dI
open List renaming getElem?_eq_getElem->aO,mem_of_getElem?->de,take_length->fA,getElem?_map->dW,length_map->bu,length_take->eP,map_append->lU,length_pos_iff->K8,getElem?_eq_some_iff->aP,mem_cons->gO,not_mem_nil->tT,take_succ_cons->hJ,take_zero->fB,ext_getElem?->p8,getElem?_eq_none->sZ,mem_cons_self->fR,mem_cons_of_mem->fi,range->bO,all_eq_true->dU,mem_of_mem_take->oa,map_map->zU,getD_eq_getElem?_getD->dP
open And renaming intro->ar
open Int renaming toNat_natCast->dL
open Array renaming all_eq_true'->KK,mem_of_getElem?->ZI
set_option maxHeartbeats 64000000
set_option maxRecDepth 100000
set_option linter.unusedSimpArgs false
set_option linter.unusedVariables false
set_option linter.constructorNameAsVariable false
set_option linter.defProp false
section
namespace Go.Proofs.YtnfciiiohoafaaaGreatDoor
open Go.AE Go.NT
def aoS:Tryz.f62.results.toList=[.tmp 4]:=by kernel_rfl
def aoW:Tryz.f73.results.toList=[.tmp 4]:=by kernel_rfl
def J2:Tryz.f141.results.toList=[.tmp 4]:=by kernel_rfl
def DX:Tryz.f162.results.toList=[.tmp 2]:=by kernel_rfl
def PU:Tryz.f64.results.toList=[.tmp 2]:=by kernel_rfl
def uR:Tryz.f47.results.toList=[.tmp 2]:=by kernel_rfl
def BC:Tryz.f19.results.toList=[.tmp 4]:=by kernel_rfl
def alA(x n)(h):W6.call 62 [im x,im n] h=aa (.ret (im (fU x n)),h):=by
 have c:=λh=>amK x n h;unfold im at *
 refine cC rfl Tryz.func62 rfl ?_;exact lG @aoS
def arJ(x n)(h):W6.call 73 [im x,im n] h=aa (.ret (im (jB x n)),h):=by
 have c:=λh=>amD x n h;unfold im at *
 refine cC rfl Tryz.func73 rfl ?_;exact lG @aoW
def aeC(h:ak)(x y z:AV)(ae:List (List Int))(owners ao:List Int)(hx:RL x ae)(hy:IL y owners)(hz:IL z ao)(hl:ao.length<=1000000):
 ∃r h',W6.call 141 [.agg [x,y],z] h=aa (r,h')/\h'=h.push [x,y]/\r=.ret (.v (.bool (ao.all bE&&decide (ao.length=bU ae)))):=by
 have bx:=vX hx hy;have c1:=aew x y ae owners hx hy;have l0:=uB (a9 h [x,y]);have hv:=λn=>P7 n;obtain⟨k,s,rfl,hs⟩:=hz;have ks:=aj.mk hs;clear hs hx hy;have u23:=dJ;have z3:=fP;have cH:=dn ao;obtain⟨H0,hH⟩:∃H0,h.push [x,y]=H0:=⟨_,rfl⟩;rw[hH] at l0;rw[hH];unfold im at c1 hv;refine df rfl Tryz.func141 rfl ?_;refine cY @J2 @bL @hH ?_;refine bG.gen λe0 aD bI cT cJ=>?_;have f1:e0.get 1=.list k s (ints ao):=by rw[aD];exact gS
 have f2:e0.get 2=.ptr (.box h.boxes.length) 0:=by rw[aD];exact gS
 have f5:e0.get 5=.v (.int .i64 (0:Nat)):=by rw[aD];exact gR
 have fd:e0.defers=[]:=by rw[bI];exact gS
 clear aD bI cT cJ bx;refine cq (λm e H=>∃i:Nat,i<=ao.length/\m=ao.length - i/\aj ((ao.take i).all bE=ah)/\e.get 1=.list k s (ints ao)/\e.get 2=.ptr (.box h.boxes.length) 0/\e.get 5=.v (.int .i64 (i:Nat))/\e.defers=[]/\H=H0) ?_ ao.length _ _ ?_;rotate_left 1
 ·exact⟨0,cr _,rfl,⟨bh⟩,f1,f2,f5,fd,rfl⟩
 clear f1 f2 f5 fd;rintro m e H ⟨i,hi,rfl,ka,g1,g2,g5,hd,rfl⟩;by_cases aA:i<ao.length
 ·have bB:s=1:=ks.out (by intro q;rw[q] at aA;simp at aA);subst bB;have ld:=e7 (H:=H) (s:=1) aA;have mT:ao[i]?=aa (ai ao i):=by rw[aO aA,fI aA]
  have fL:(i:Int)<(ao.length:Int):=by omega
  have cv:=hv (ai ao i);have oS:(ao.take (i+1)).all bE=bE (ai ao i):=by rw[fH mT,List.all_append,ka.out];simp
  have kt:=aj.mk (ar oS (de mT));clear oS mT hv;generalize ai ao i=n at *
  cases hq:bE n with
  |false=>rw[hq] at cv;have kf:aj (ao.all bE=av):=⟨by rw[List.all_eq_false];exact⟨n,kt.out.2,by rw[hq];simp⟩⟩;clear hq;refine bM @J2 @a8 ?_;exact⟨_,_,rfl,rfl,by rw[kf.out];rfl⟩
  |true=>rw[hq] at cv;have kt2:aj ((ao.take (i+1)).all bE=ah):=⟨kt.out.1.trans hq⟩;clear hq;refine bM @J2 @a8 ?_;exact⟨ao.length - (i+1),by omega,i+1,by omega,rfl,kt2,by simp⟩
 ·have:i=ao.length:=by omega
  subst this;have:=ka.out;rw[fA] at this;have kan:=aj.mk this;have CZ:decide ((ao.length:Int)=(bU ae:Int))=decide (ao.length=bU ae):=by rw[decide_eq_decide];omega
  have kd:=aj.mk CZ;clear this hv CZ;generalize decide (ao.length=bU ae)=dd at *
  refine br @J2 ?_;exact⟨_,_,rfl,rfl,by rw[kan.out,kd.out];rfl⟩
def uJ(p:Pr):Bool:=decide (0<=p.az)&&decide (p.az<64)&&decide (0<=p.no)&&decide (p.no<4096)&&bE p.d&&bE p.e
def akG(h:ak)(p:Pr):∃h',W6.call 162 [.agg (bF p)] h=aa (.ret (.v (.bool (uJ p))),h')/\h'=h.push (bF p):=by
 have bx:(AV.agg (bF p)).b8=aa (bF p):=rfl;have b0:=a9 h (bF p);have l0:aI al Gt (h.push (bF p)) 3 (.ptr (.box h.boxes.length) 0)=aa (.v (.int .i64 p.az)):=dg eM b0 rfl;have l1:aI al Gt (h.push (bF p)) 3 (.ptr (.box h.boxes.length) 1)=aa (.v (.int .i64 p.no)):=dg eM b0 rfl;have l2:aI al Gt (h.push (bF p)) 3 (.ptr (.box h.boxes.length) 2)=aa (.v (.int .i64 p.d)):=dg eM b0 rfl;have l3:aI al Gt (h.push (bF p)) 3 (.ptr (.box h.boxes.length) 3)=aa (.v (.int .i64 p.e)):=dg eM b0 rfl;have c1:=λh=>P7 p.d h;have c2:=λh=>P7 p.e h;have kv:aj (uJ p=(decide (0<=p.az)&&decide (p.az<64)&&decide (0<=p.no)&&decide (p.no<4096)&&bE p.d&&bE p.e)):=⟨rfl⟩;obtain⟨H,hH⟩:∃H,h.push (bF p)=H:=⟨_,rfl⟩;rw[hH] at l0 l1 l2 l3;rw[hH];generalize uJ p=res at *
 unfold im at c1 c2;clear b0;generalize bF p=row at *
 obtain⟨a,b,c,d⟩:=p;dsimp only at *
 refine gP rfl Tryz.func162 rfl ?_;by_cases h1:0<=a;rotate_left 1
 ·have hf:res=av:=by rw[kv.out];simp[h1]
  have eL:decide (0<=a)=av:=cI h1;clear h1 kv;subst hf;refine bJ @DX @bL @hH @iP ?_;exact⟨_,rfl,rfl⟩
 have eL:decide (0<=a)=ah:=bX h1;by_cases h2:a<64;rotate_left 1
 ·have hf:res=av:=by rw[kv.out];simp[h2]
  have gu:decide (a<64)=av:=cI h2;clear h1 h2 kv;subst hf;refine bJ @DX @bL @hH @iP ?_;exact⟨_,rfl,rfl⟩
 have gu:decide (a<64)=ah:=bX h2;by_cases h3:0<=b;rotate_left 1
 ·have hf:res=av:=by rw[kv.out];simp[h3]
  have su:decide (0<=b)=av:=cI h3;clear h1 h2 h3 kv;subst hf;refine bJ @DX @bL @hH @iP ?_;exact⟨_,rfl,rfl⟩
 have su:decide (0<=b)=ah:=bX h3;by_cases h4:b<4096;rotate_left 1
 ·have hf:res=av:=by rw[kv.out];simp[h4]
  have rk:decide (b<4096)=av:=cI h4;clear h1 h2 h3 h4 kv;subst hf;refine bJ @DX @bL @hH @iP ?_;exact⟨_,rfl,rfl⟩
 have rk:decide (b<4096)=ah:=bX h4;have kv2:aj (res=(bE c&&bE d)):=⟨by rw[kv.out,eL,gu,su,rk];rfl⟩;clear h1 h2 h3 h4 kv;cases hq:bE c with
 |false=>
  rw[hq] at c1;have hf:res=av:=by rw[kv2.out,hq];rfl
  subst hf;clear hq kv2;refine bJ @DX @bL @hH @iP ?_;exact⟨_,rfl,rfl⟩
 |true=>
  rw[hq] at c1;have hf:res=bE d:=by rw[kv2.out,hq];rfl
  subst hf;clear hq kv2;refine bJ @DX @bL @hH @iP ?_;exact⟨_,rfl,rfl⟩
def qi:(∀s ae i,gQ al 85 (.elem s ae i 0) 0=aa (.elem s ae i 0))/\(∀s ae i,gQ al 85 (.elem s ae i 0) 1=aa (.elem s ae i 1))/\(∀s ae i,gQ al 85 (.elem s ae i 0) 2=aa (.elem s ae i 2))/\∀s ae i,gQ al 85 (.elem s ae i 0) 3=aa (.elem s ae i 3):=
 ⟨λ_ _ _=>by kernel_rfl,λ_ _ _=>by kernel_rfl,λ_ _ _=>by kernel_rfl,λ_ _ _=>by kernel_rfl⟩
def DB{l}{i s}{p}(h:l[i]?=aa p):(∀H:ak,aI al Gt H 3 (.elem s (eS l) i 0)=aa (.v (.int .i64 p.az)))/\(∀H:ak,aI al Gt H 3 (.elem s (eS l) i 1)=aa (.v (.int .i64 p.no)))/\(∀H:ak,aI al Gt H 3 (.elem s (eS l) i 2)=aa (.v (.int .i64 p.d)))/\∀H:ak,aI al Gt H 3 (.elem s (eS l) i 3)=aa (.v (.int .i64 p.e)):=by
 have hr:(eS l)[i]?=aa (bF p):=by unfold eS;rw[dW,h];rfl
 refine⟨λH=>?_,λH=>?_,λH=>?_,λH=>?_⟩<;>(rw[qw eM hr];rfl)
def aiN(h:ak)(bA:cA h=ah)(x:AV)(l:List Pr)(hx:PL x l)(hl:l.length<=1000000):
 ∃r h',W6.call 64 [x] h=aa (r,h')/\∃t,r=.ret (.list t 1 (ints (l.map Pr.az))):=by
 obtain⟨k,s,rfl,hs⟩:=hx;have ks:=aj.mk hs;clear hs;have u29:=wS;have u23:=dJ;have z85:=sU;have cH:=xV l;have bn:fC al 23 0 []=aa (.list .tight 1 []):=by kernel_rfl
 have kok:=aj.mk bA;refine df rfl Tryz.func64 rfl ?_;refine br @PU ?_;refine cq (λm e H=>∃(i:Nat) (t:Tok),i<=l.length/\m=l.length - i/\aj (dj h.tn H t/\cA H=ah/\h.tn<=H.tn)/\e.get 0=.list k s (eS l)/\e.get 3=.list t 1 (ints ((l.take i).map Pr.az))/\e.get 4=.v (.int .i64 (i:Nat))/\e.defers=[]) ?_ l.length _ _ ?_;rotate_left 1
 ·refine⟨0,.tight,cr _,rfl,⟨.inr (.inl rfl),kok.out,aJ _⟩,?_,?_,?_,?_⟩<;>first|(simp only[gW,reduceIte,aX,aR];done)|(exact gR)
 rintro m e H ⟨i,t,hi,rfl,kc,g0,g3,g4,hd⟩;by_cases aA:i<l.length
 ·have bB:s=4:=ks.out (by intro q;rw[q] at aA;simp at aA);subst bB;obtain⟨p,hp⟩:∃p,l[i]?=aa p:=⟨_,aO aA⟩;obtain⟨ld,-⟩:=DB (s:=4) hp;have bl:=po p.az;have ap:=tY (H:=H) (x:=p.az) (es:=(l.take i).map Pr.az) (sz:=1) (show((l.take i).map Pr.az).length<1099511627776 by rw[bu,eP];omega) (.inl rfl) kc.out.1;have iH:((l.take i).map Pr.az)++[p.az]=(l.take (i+1)).map Pr.az:=by rw[fH hp,lU];rfl
  rw[iH] at ap;have kc2:aj (dj h.tn (H.app t) (.free H.tn)/\cA (H.app t)=ah/\h.tn<=(H.app t).tn):=⟨Mc kc.out.1 kc.out.2.1 kc.out.2.2,Cu kc.out.2.1 kc.out.1,by rw[Cv];have:=kc.out.2.2;omega⟩;have fL:(i:Int)<(l.length:Int):=by omega
  clear hp iH kc;refine cY @PU @a8 @qi ?_;exact⟨l.length - (i+1),by omega,i+1,_,by omega,rfl,kc2,by simp⟩
 ·have:i=l.length:=by omega
  subst this;rw[fA] at g3;refine br @PU ?_;exact⟨_,_,rfl,t,rfl⟩
def afP(h:ak)(x y:AV)(ae:List (List Int))(owners:List Int)(hx:RL x ae)(hy:IL y owners):
 ∃r h',W6.call 47 [.agg [x,y]] h=aa (r,h')/\h'=h.push [x,y]/\∃b,r=.ret (.v (.bool b))/\(b=ah->ae.length<=80/\owners.length<=80):=by
 have bx:=vX hx hy;have l0:=rE (a9 h [x,y]);have l1:=DC (a9 h [x,y]);obtain⟨k,s,xs,rfl,hs,dx,dR⟩:=hx;obtain⟨ky,sy,rfl,jX⟩:=hy;have kk:=aj.mk (ar hs dR);clear hs dR jX;have u23:=dJ;have u22:=iq;have z23:=iM;have cH:(xs.map λa=>[a]).length=ae.length:=by rw[bu];exact dx
 have atg:=dn owners;obtain⟨H0,hH⟩:∃H0,h.push [.list k s (xs.map λa=>[a]),.list ky sy (ints owners)]=H0:=⟨_,rfl⟩;rw[hH] at l0 l1;rw[hH];refine df rfl Tryz.func47 rfl ?_;by_cases q3:80<ae.length
 ·have q3I:(80:Int)<(ae.length:Int):=by omega
  have q1I:(16:Int)<(ae.length:Int):=by omega
  have q2I:¬(ae.length:Int)<=64:=by omega
  clear q3;refine bJ @uR @bL @hH (ar @dw @eG) ?_;exact⟨_,_,rfl,rfl,av,rfl,λq=>by cases q⟩
 by_cases q4:80<owners.length
 ·have q4I:(80:Int)<(owners.length:Int):=by omega
  have q3I:¬(80:Int)<(ae.length:Int):=by omega
  by_cases q1:16<ae.length
  ·have q1I:(16:Int)<(ae.length:Int):=(by omega);by_cases q2:ae.length<=64
   ·have q2I:(ae.length:Int)<=64:=(by omega);clear q1 q2 q3 q4;refine bJ @uR @bL @hH (ar @dw @eG) ?_;exact⟨_,_,rfl,rfl,av,rfl,λq=>by cases q⟩
   ·have q2I:¬(ae.length:Int)<=64:=(by omega);clear q1 q2 q3 q4;refine bJ @uR @bL @hH (ar @dw @eG) ?_;exact⟨_,_,rfl,rfl,av,rfl,λq=>by cases q⟩
  ·have q1I:¬(16:Int)<(ae.length:Int):=(by omega);clear q1 q3 q4;refine bJ @uR @bL @hH (ar @dw @eG) ?_;exact⟨_,_,rfl,rfl,av,rfl,λq=>by cases q⟩
 have kq:aj (ae.length<=80/\owners.length<=80):=⟨ag,by omega⟩;have cO:ae.length<=80:=by omega
 have q3I:¬(80:Int)<(ae.length:Int):=by omega
 have q4I:¬(80:Int)<(owners.length:Int):=by omega
 have key:(16<ae.length/\ae.length<=64)∨¬(16:Int)<(ae.length:Int)∨((16:Int)<(ae.length:Int)/\¬(ae.length:Int)<=64):=by omega
 rcases key with⟨q1,q2⟩|key
 ·have q1I:(16:Int)<(ae.length:Int):=by omega
  have q2I:(ae.length:Int)<=64:=by omega
  clear q1 q2 q3 q4;refine bJ @uR @bL @hH (ar @dw @eG) ?_;exact⟨_,_,rfl,rfl,av,rfl,λq=>by cases q⟩
 clear q3 q4;rcases key with q1I|⟨q1I,q2I⟩
 all_goals
  refine bJ @uR @bL @hH (ar @dw @eG) ?_;refine bG.gen λe0 aD bI cT cJ=>?_;have f1:e0.get 1=.ptr (.box h.boxes.length) 0:=by rw[aD];exact gS
  have f3:e0.get 3=.v (.int .i64 (0:Nat)):=by rw[aD];exact gR
  have fd:e0.defers=[]:=by rw[bI];exact gS
  clear aD bI cT cJ bx l1 q1I q3I q4I hH
  try clear q2I
  refine cq (λm e H=>∃i:Nat,i<=ae.length/\m=ae.length - i/\e.get 1=.ptr (.box h.boxes.length) 0/\e.get 3=.v (.int .i64 (i:Nat))/\e.defers=[]/\H=H0) ?_ ae.length _ _ ?_;rotate_left 1
  ·exact⟨0,cr _,rfl,f1,f3,fd,rfl⟩
  clear f1 f3 fd;rintro m e H ⟨i,hi,rfl,g1,g3,hd,rfl⟩;by_cases aA:i<ae.length
  ·have bB:s=1:=kk.out.1 (by intro q;rw[q] at aA;simp at aA);subst bB;obtain⟨a,fD⟩:∃a,xs[i]?=aa a:=⟨_,aO ag⟩;obtain⟨r,hv⟩:∃r,ae[i]?=aa r:=⟨_,aO aA⟩;have ld:=jY (H:=H) (s:=1) fD;obtain⟨ka,sa,rfl,iZ⟩:=kk.out.2 i a r fD hv;have vN:=dn r;have fL:(i:Int)<(ae.length:Int):=(by omega);clear fD hv iZ;by_cases p1:(16:Int)<(r.length:Int)
   ·by_cases p2:(r.length:Int)<=64
    ·refine bJ @uR @dw @eG @a8 ?_;exact⟨_,_,rfl,rfl,av,rfl,λq=>by cases q⟩
    ·by_cases p3:(80:Int)<(r.length:Int)
     ·refine bJ @uR @dw @eG @a8 ?_;exact⟨_,_,rfl,rfl,av,rfl,λq=>by cases q⟩
     ·refine bJ @uR @dw @eG @a8 ?_;exact⟨ae.length - (i+1),by omega,i+1,by omega,rfl,by simp⟩
   ·have p3:¬(80:Int)<(r.length:Int):=(by omega);refine bJ @uR @dw @eG @a8 ?_;exact⟨ae.length - (i+1),by omega,i+1,by omega,rfl,by simp⟩
  ·have:i=ae.length:=(by omega);subst this;refine cY @uR @dw @eG ?_;exact⟨_,_,rfl,rfl,ah,rfl,λ_=>⟨by first|trivial|omega,kq.out.2⟩⟩
def apx(h:ak)(x y:AV)(a b:List Int)(hx:IL x a)(hy:IL y b)(dY:a.length<=1000000)(js:b.length<=1000000):
 ∃r h',W6.call 19 [x,y] h=aa (r,h')/\h'=h/\r=.ret (.v (.bool (decide (a=b)))):=by
 have lx:=hx.ej;have ly:=hy.ej;have kk:=aj.mk (ar hx hy);clear hx hy;refine df rfl Tryz.func19 rfl ?_;by_cases hl:a.length=b.length;rotate_left 1
 ·have hI:¬((a.length:Nat):Int)=((b.length:Nat):Int):=by omega
  have kr:aj (decide (a=b)=av):=⟨cI λq=>hl (by rw[q])⟩;clear hl;refine br @BC ?_;exact⟨_,_,rfl,rfl,by rw[kr.out]⟩
 have hI:((a.length:Nat):Int)=((b.length:Nat):Int):=by omega
 have kl:=aj.mk hl;refine br @BC ?_;refine cq (λm e H=>∃i:Nat,i<=a.length/\m=a.length - i/\aj (a.take i=b.take i)/\e.get 0=x/\e.get 1=y/\e.get 5=.v (.int .i64 (i:Nat))/\e.defers=[]/\H=h) ?_ a.length _ _ ?_;rotate_left 1
 ·refine⟨0,cr _,rfl,⟨rfl⟩,?_,?_,?_,?_,rfl⟩<;>exact gR
 rintro m e H ⟨i,hi,rfl,kt,g0,g1,g5,hd,rfl⟩;by_cases aA:i<a.length
 ·have ix:=kk.out.1.ix aA;have iy:=kk.out.2.ix (i:=i) ag;have ldx:=e7 (H:=H) (s:=1) aA;have ldy:=e7 (H:=H) (l:=b) (i:=i) (s:=1) ag;have ea:a[i]?=aa (ai a i):=by rw[aO aA,fI aA]
  have eb:b[i]?=aa (ai b i):=by rw[aO ag,fI ag]
  have fL:(i:Int)<(a.length:Int):=by omega
  by_cases hq:ai a i=ai b i
  ·have kt2:aj (a.take (i+1)=b.take (i+1)):=⟨by rw[fH ea,fH eb,kt.out,hq]⟩;have dq:decide (ai a i≠ai b i)=av:=(by simp[hq]);clear ea eb kt;generalize ai a i=va at *
   generalize ai b i=vb at *
   subst hq;clear hl hI;refine br @BC ?_;refine ey yF iU ?_;refine br @BC ?_;exact⟨a.length - (i+1),by omega,i+1,by omega,rfl,(by first|exact kt2|trivial),by simp⟩
  ·have kr:aj (decide (a=b)=av):=⟨cI λq=>hq (by rw[q])⟩;clear ea eb kt hl hI;generalize ai a i=va at *
   generalize ai b i=vb at *
   refine br @BC ?_;refine ey yF iU ?_;refine br @BC ?_;exact⟨_,_,rfl,rfl,by rw[kr.out]⟩
 ·have fK:i=a.length:=by omega
  subst fK;have kr:aj (decide (a=b)=ah):=⟨bX (by have:=kt.out;rw[fA,List.take_of_length_le ag] at this;exact this)⟩;clear hl hI;refine br @BC ?_;exact⟨_,_,rfl,rfl,by rw[kr.out]⟩
def J7:Tryz.f165.results.toList=[.cell 2 96]:=by kernel_rfl
def Sa:mw al 96 [(0,.v (.int .i64 3))]=aa (.agg (aH 3 0 [] .nil 0 [])):=by kernel_rfl
def eZ(n:Int):List AV:=aH 1 n [] .nil 0 []
def YR{H:ak}{r}(hr:(AV.agg r).b8=aa r)(hl:r.length=4):ct al (H.push (aH 0 0 [] .nil 0 [])) 96 (.ptr (.box H.boxes.length) 0) (.agg r)=aa (H.push r):=lq hr oY hl rfl
def V5{H:ak}{b}{r}(hl:r.length=4)(hb:b<H.boxes.length):aI al Gt (H.put b r) 96 (.ptr (.box b) 0)=aa (.agg r):=oU hl (ev hb)
def YQ{H}{b}{z r}(hz:H.boxes[b]?=aa z)(sK:z.length=4)(hr:(AV.agg r).b8=aa r)(hl:r.length=4):ct al H 96 (.ptr (.box b) 0) (.agg r)=aa (H.put b r):=by rw[gL hr oY hz hl ag,wx ag]
def aix(h:ak)(bA:cA h=ah)(k:Tok)(l:List Int)(hl:l.length<=1000)(bH:l≠[])(hb:∀n∈l,0<=n/\n<=4611686018427387903):
 ∃r h',W6.call 165 [.list k 1 (ints l)] h=aa (r,h')/\∃n,r=.ret (.agg (aH 3 0 [] (.free n) 4 (l.map eZ))):=by
 have z:=wE;have bd:=Sa;have u23:=dJ;have u94:=oH;have z3:=fP;have cH:=dn l;have s1:=YR (H:=h.push (aH 0 0 [] .nil 0 [])) (r:=aH 3 0 [] .nil 0 []) rfl rfl;have oO:(h.push (aH 0 0 [] .nil 0 [])).boxes.length=h.boxes.length+1:=cK _ _;have G0:pj h ((h.push (aH 0 0 [] .nil 0 [])).push (aH 3 0 [] .nil 0 [])) (h.boxes.length+1) ((l.map Vl.int).take 0) .nil 0 []:=⟨by rw[<-oO];exact a9 _ _,.inl rfl,bA,(Ext.push _ _).trans (.push _ _),EP _,⟨rfl,λi v r q=>by simp at q⟩,λq=>absurd rfl q,λ_=>.inr rfl,rfl⟩;have B0:((h.push (aH 0 0 [] .nil 0 [])).push (aH 3 0 [] .nil 0 [])).boxes[h.boxes.length]?=aa (aH 0 0 [] .nil 0 []):=bg (a9 _ _);have kG0:=aj.mk (ar G0 B0);rw[oO] at s1;clear G0 B0;have kb:=aj.mk (ar hb bH);clear hb bH;obtain⟨H0,hH⟩:∃H0,(h.push (aH 0 0 [] .nil 0 [])).push (aH 3 0 [] .nil 0 [])=H0:=⟨_,rfl⟩;rw[hH] at s1 kG0;refine df rfl Tryz.func165 rfl ?_;refine cY @J7 @bL @jE ?_;refine bG.gen λe0 aD bI cT cJ=>?_;have f0:e0.get 0=.list k 1 (ints l):=by rw[aD];exact gS
 have f2:e0.get 2=.ptr (.box h.boxes.length) 0:=by rw[aD];exact gS
 have f3:e0.get 3=.ptr (.box (h.boxes.length+1)) 0:=by rw[aD];simp only[gW,reduceIte,aX,aR,cK]
 have f4:e0.get 4=.v (.int .i64 (0:Nat)):=by rw[aD];exact gR
 have fd:e0.defers=[]:=by rw[bI];exact gS
 clear aD bI cT cJ s1 hH z bd;refine cq (λm e H=>∃(i:Nat) (t:Tok) (sz:Nat),i<=l.length/\m=l.length - i/\aj (pj h H (h.boxes.length+1) ((l.map Vl.int).take i) t sz ((l.take i).map eZ)/\H.boxes[h.boxes.length]?=aa (aH 0 0 [] .nil 0 []))/\aj (0<i->(∃n,t=.free n)/\sz=4)/\e.get 0=.list k 1 (ints l)/\e.get 2=.ptr (.box h.boxes.length) 0/\e.get 3=.ptr (.box (h.boxes.length+1)) 0/\e.get 4=.v (.int .i64 (i:Nat))/\e.defers=[]) ?_ l.length _ _ ?_;rotate_left 1
 ·exact⟨0,.nil,0,cr _,rfl,kG0,⟨λq=>absurd q (ER _)⟩,f0,f2,f3,f4,fd⟩
 clear f0 f2 f3 f4 fd kG0;rintro m e H ⟨i,t,sz,hi,rfl,kG,kN,g0,g2,g3,g4,hd⟩;by_cases aA:i<l.length
 ·have hv:l[i]?=aa (ai l i):=by rw[aO aA,fI aA]
  have ie:cG (.int (ai l i)) (eZ (ai l i)):=.int _ (kb.out.1 _ (de hv));have ld:=e7 (H:=H) (s:=1) aA;have c:=λH=>JP (ai l i) H;have cO:((l.take i).map eZ).length<1000000:=by rw[bu,eP];omega
  have l3:=nu kG.out.1.box;have ap:=Ak (r:=eZ (ai l i)) cO kG.out.1.four kG.out.1.nil kG.out.1.can;have bl:=An (r:=eZ (ai l i)) rfl rfl;have st:=BF (H:=H.app t) (t2:=.free H.tn) (sz2:=4) (rows2:=(l.take i).map eZ++[eZ (ai l i)]) (by rw[eu];exact kG.out.1.box);have G2:=kG.out.1.put ie rfl;have e1:(l.take i).map eZ++[eZ (ai l i)]=(l.take (i+1)).map eZ:=by rw[fH hv,lU];rfl
  have e2:(l.map Vl.int).take i++[Vl.int (ai l i)]=(l.map Vl.int).take (i+1):=by rw[fH (x:=Vl.int (ai l i)) (by rw[dW,hv];rfl)]
  rw[e1,e2] at G2;rw[e1] at ap st;have kG2:aj (pj h ((H.app t).put (h.boxes.length+1) (aH 3 0 [] (.free H.tn) 4 ((l.take (i+1)).map eZ))) (h.boxes.length+1) ((l.map Vl.int).take (i+1)) (.free H.tn) 4 ((l.take (i+1)).map eZ)/\((H.app t).put (h.boxes.length+1) (aH 3 0 [] (.free H.tn) 4 ((l.take (i+1)).map eZ))).boxes[h.boxes.length]?=aa (aH 0 0 [] .nil 0 [])):=⟨G2,by rw[cS ag,eu];exact kG.out.2⟩;have kN2:aj (0<i+1->(∃n,Tok.free H.tn=.free n)/\4=4):=⟨λ_=>⟨⟨_,rfl⟩,rfl⟩⟩;have fL:(i:Int)<(l.length:Int):=by omega
  have irw:aH 1 (ai l i) [] .nil 0 []=eZ (ai l i):=rfl;rw[irw] at c;clear G2 e1 e2 hv ie cO kG kN irw;generalize eZ (ai l i)=r at *
  generalize ai l i=n at *
  unfold im at *
  refine cY @J7 @fj @a8 ?_
  repeat' (first|simp(maxSteps:=999999)(disch:=first|exact dZ|fail)only[gW,reduceIte,aX,aR,J7,fj,a8, *]|(refine dX ?_ ?_<;>(intro _;try omega))|refine ey yF iU ?_)
  exact⟨l.length - (i+1),by omega,i+1,.free H.tn,4,by omega,rfl,(by first|exact kG2|trivial),(by first|exact kN2|trivial),by simp⟩
 ·have fK:i=l.length:=by omega
  subst fK;obtain⟨⟨n,rfl⟩,rfl⟩:=kN.out (K8.2 kb.out.2);have hG:=kG.out.1;rw[fA] at hG;have ld:=oU (r:=aH 3 0 [] (.free n) 4 (l.map eZ)) rfl hG.box;have st:=YQ (r:=aH 3 0 [] (.free n) 4 (l.map eZ)) kG.out.2 rfl rfl rfl;have ll:=V5 (H:=H) (r:=aH 3 0 [] (.free n) 4 (l.map eZ)) rfl (aP.1 kG.out.2).1;clear hG kG kN;refine br @J7 ?_;exact⟨_,_,rfl,n,rfl⟩
def L7:List FuncId:=L6++[37,38,39,85,15,47,141,162,64,62,73,19,175,191,58,60,165,95]
noncomputable def Pj:FuncId->Option (List AV->ak->Option (AV × ak)):=pq W6 L7
noncomputable abbrev W7:=whole al Gt Pj
def adB:o8 Pj L7:=wX
section
variable (R:Rec) (L:List FuncId)
noncomputable def up:Rec:=whole al Gt (pq R L)
def BX:Prop:=∀n h,R.call 120 [im n] h=aa (.ret (.agg (eZ n)),h)
def B2:Prop:=∀s h,R.call 121 [sv s] h=aa (.ret (.agg (aH 2 0 s .nil 0 [])),h)
def BW:Prop:=∀(aZ b:List UInt8) (k:Tok),b.length<=1099511610000->aZ.length<=1099511610000->∀h,R.call 123 [.v (.string (bs aZ)),.list k 1 (aW b)] h=aa (.ret (im (mb (fQ aZ b):Nat)),h)
def BU:Prop:=∀(v:Vl) (r:List AV),cG v r->fT v<=16->(dt v).length<=1099511600000->∃t,∀h,R.call 118 [.agg r] h=aa (.ret (.tuple [.list t 1 (aW (dt v)),.v (.int .i64 0)]),h)
def BY:Prop:=∀(l:List Vl) (ae:List (List AV)),ng l ae->eH ae=ae->∀k:Tok,ae.length<=1000000->∀h,R.call 119 [.list k 4 ae] h=aa (.ret (.agg (aH 3 0 [] (bR k) 4 ae)),h)
def zO(g:FuncId):Prop:=∀x n h,R.call g [im x,im n] h=aa (.ret (im (fU x n)),h)
def zN(g:FuncId):Prop:=∀x n h,R.call g [im x,im n] h=aa (.ret (im (jB x n)),h)
def KO(g:FuncId):Prop:=∀x n h,R.call g [im x,im n] h=aa (.ret (im (cP x n)),h)
def KP(g:FuncId):Prop:=∀x n h,R.call g [im x,im n] h=aa (.ret (im (b9 x n)),h)
def KQ(g:FuncId):Prop:=∀x h,R.call g [im x] h=aa (.ret (.v (.bool (bE x))),h)
def Er:Prop:=∀p h,R.call 162 [.agg (bF p)] h=aa (.ret (.v (.bool (uJ p))),h)
def Ep:Prop:=∀x l,PL x l->l.length<=1000000->∃X,IL X (l.map Pr.az)/\∀h,R.call 64 [x] h=aa (.ret X,h)
def yn:Prop:=∀x y ae owners,RL x ae->IL y owners->ae.length<=1000000->∀h,R.call 115 [.agg [x,y]] h=aa (.ret (im (cR ae owners)),h)
def zM:Prop:=∀x y z ae owners aw,RL x ae->IL y owners->IL z aw->ae.length<=1000000->aw.length<=1099511627776->
 (∃e,fZ ae owners aw=([],av,e)/\∀h,R.call 63 [.agg [x,y],z] h=aa (.ret (.tuple [.list .nil 0 [],.v (.bool av),.v (.int .i64 e)]),h))∨
 ∃l,fZ ae owners aw=(l,ah,0)/\l.length=ae.length/\∀h,R.call 63 [.agg [x,y],z] h=aa (.ret (.tuple [.list .held 1 (ints l),.v (.bool ah),.v (.int .i64 0)]),h)
def Ht:Prop:=∀x y z ae owners ao,RL x ae->IL y owners->IL z ao->ao.length<=1000000->∀h,R.call 141 [.agg [x,y],z] h=aa (.ret (.v (.bool (ao.all bE&&decide (ao.length=bU ae)))),h)
def Hu:Prop:=∀x y ae owners,RL x ae->IL y owners->∃b,(b=ah->ae.length<=80/\owners.length<=80)/\∀h,R.call 47 [.agg [x,y]] h=aa (.ret (.v (.bool b)),h)
def Hv:Prop:=∀(k:Tok) (l:List Int),l.length<=1000->l≠[]->(∀n∈l,0<=n/\n<=4611686018427387903)->∀h,R.call 165 [.list k 1 (ints l)] h=aa (.ret (.agg (aH 3 0 [] .held 4 (l.map eZ))),h)
def zP(g:FuncId):Prop:=∀x y a b,IL x a->IL y b->a.length<=1000000->b.length<=1000000->∀h,R.call g [x,y] h=aa (.ret (.v (.bool (decide (a=b)))),h)
end
section
variable {R:Rec} {L:List FuncId}
def PL.fF{x}{l}(h:PL x l):PL (aC x) l/\aL 0 0 0 (aC x)=ah:=by
 obtain⟨k,s,rfl,hs⟩:=h;have h1:∀l:List Pr,eH (eS l)=eS l:=λl=>by
  induction l with
  |nil=>rfl|cons p l ih=>show bV (bF p)::eH (eS l)=_;rw[ih];rfl
 have h2:∀l:List Pr,gj 0 0 0 (eS l)=ah:=λl=>by
  induction l with
  |nil=>rfl|cons p l ih=>show(aU 0 0 0 (bF p)&&gj 0 0 0 (eS l))=ah;rw[ih];rfl
 rw[aC,h1];exact⟨⟨bR k,s,rfl,hs⟩,by rw[aL,eX,h2];rfl⟩
def BX.up(hg:L.contains 120=ah)(c:BX R):BX (up R L):=λn=>bm hg rfl rfl (c n _) rfl rfl
def B2.up(hg:L.contains 121=ah)(c:B2 R):B2 (up R L):=λs=>bm hg rfl rfl (c s _) rfl rfl
def BW.up(hg:L.contains 123=ah)(c:BW R):BW (up R L):=λaZ b k hb ht=>
 bm (cd:=[.v (.string (bs aZ)),.list (bR k) 1 (aW b)]) hg (by rw[bV,bV,aC.eq_1,oQ];rfl) (by simp[aU,aL,eX,jz]) (c aZ b _ hb ht _) rfl rfl
def BU.up(hg:L.contains 118=ah)(c:BU R):BU (up R L):=λv r hv hd hl=>by obtain⟨h1,h2⟩:=cG.hold v r hv;obtain⟨t,c⟩:=c v _ h1 hd hl;exact⟨bR t,bm (cd:=[.agg (bV r)]) hg rfl (by simpa [aU,aL] using h2) (c _) rfl (by simp[aL,aU,eX,jz])⟩
def BY.up(hg:L.contains 119=ah)(c:BY R):BY (up R L):=λl ae hr hh k hm=>by
 have hv:cG (.list l) (aH 3 0 [] k 4 ae):=.list l k 4 ae hr.1 (λ_=>rfl) hm hr.2;obtain⟨h1,h2⟩:=cG.hold _ _ hv;have e:bV (aH 3 0 [] k 4 ae)=aH 3 0 [] (bR k) 4 (eH ae):=rfl;rw[e,hh] at h1 h2;refine bm (cd:=[.list (bR k) 4 ae]) hg ?_ ?_ (c l ae hr hh (bR k) hm _) ?_ ?_
 ·simp only[bV,aC,hh]
 ·unfold aH at h2;simp only[aU,bC] at h2 ⊢;exact⟨h2.2.2.2.1,trivial⟩
 ·show AV.agg [im 3,im 0,sv [],.list (bR (bR (bR k))) 4 ae]=_;rw[fF,fF];rfl
 ·rw[aL];exact h2
def zO.up{g:FuncId}(hg:L.contains g=ah)(c:zO R g):zO (up R L) g:=λx n=>bm hg rfl rfl (c x n _) rfl rfl
def zN.up{g:FuncId}(hg:L.contains g=ah)(c:zN R g):zN (up R L) g:=λx n=>bm hg rfl rfl (c x n _) rfl rfl
def KO.up{g:FuncId}(hg:L.contains g=ah)(c:KO R g):KO (up R L) g:=λx n=>bm hg rfl rfl (c x n _) rfl rfl
def KP.up{g:FuncId}(hg:L.contains g=ah)(c:KP R g):KP (up R L) g:=λx n=>bm hg rfl rfl (c x n _) rfl rfl
def KQ.up{g:FuncId}(hg:L.contains g=ah)(c:KQ R g):KQ (up R L) g:=λx=>bm hg rfl rfl (c x _) rfl rfl
def Er.up(hg:L.contains 162=ah)(c:Er R):Er (up R L):=λp=>bm hg rfl rfl (c p _) rfl rfl
def IL.Of{x}{l}(hx:IL x l)(h):IL (ju h x) l/\aL 0 0 0 (ju h x)=ah:=by obtain⟨k,s,rfl,hs⟩:=hx;refine⟨⟨bR k,s,rfl,hs⟩,?_⟩;show aL 0 0 0 (.list (bR k) s (ints l))=ah;rw[aL,eX,nh];rfl
def Ep.up(hg:L.contains 64=ah)(c:Ep R):Ep (up R L):=λx l hx hl=>by obtain⟨h1,h2⟩:=hx.fF;obtain⟨X,hX,c⟩:=c _ l h1 hl;obtain⟨h3,h4⟩:=hX.Of ⟨[],[],0,[]⟩;exact⟨_,h3,bm (cd:=[aC x]) hg rfl (by simp[aU,h2]) (c _) rfl h4⟩
def yn.up(hg:L.contains 115=ah)(c:yn R):yn (up R L):=λx y ae owners hx hy hl=>by obtain⟨h1,h2⟩:=hx.fF;obtain⟨h3,h4⟩:=hy.hold;exact bm (cd:=[.agg [aC x,aC y]]) hg rfl (by simp[aU,aL,h2,h4]) (c _ _ ae owners h1 h3 hl _) rfl rfl
def zM.up(hg:L.contains 63=ah)(c:zM R):zM (up R L):=λx y z ae owners aw hx hy hz hl hw=>by
 obtain⟨h1,h2⟩:=hx.fF;obtain⟨h3,h4⟩:=hy.hold;obtain⟨h5,h6⟩:=hz.hold;rcases c _ _ _ ae owners aw h1 h3 h5 hl hw with⟨e,e1,hc⟩|⟨l,e1,e2,hc⟩
 ·exact .inl ⟨e,e1,bm (cd:=[.agg [aC x,aC y],aC z]) hg rfl (by simp[aU,aL,h2,h4,h6]) (hc _) rfl rfl⟩
 ·exact .inr ⟨l,e1,e2,bm (cd:=[.agg [aC x,aC y],aC z]) hg rfl (by simp[aU,aL,h2,h4,h6]) (hc _) rfl (by simp[aL,aU,nh,qJ])⟩
def Ht.up(hg:L.contains 141=ah)(c:Ht R):Ht (up R L):=λx y z ae owners ao hx hy hz hl=>by obtain⟨h1,h2⟩:=hx.fF;obtain⟨h3,h4⟩:=hy.hold;obtain⟨h5,h6⟩:=hz.hold;exact bm (cd:=[.agg [aC x,aC y],aC z]) hg rfl (by simp[aU,aL,h2,h4,h6]) (c _ _ _ ae owners ao h1 h3 h5 hl _) rfl rfl
def Hu.up(hg:L.contains 47=ah)(c:Hu R):Hu (up R L):=λx y ae owners hx hy=>by obtain⟨g1,g2⟩:=hx.fF;obtain⟨g3,g4⟩:=hy.hold;obtain⟨b,hb,hc⟩:=c _ _ ae owners g1 g3;exact⟨b,hb,bm (cd:=[.agg [aC x,aC y]]) hg rfl (by simp[aU,aL,g2,g4]) (hc _) rfl rfl⟩
def NI:∀l:List Int,eH (l.map eZ)=l.map eZ/\gj 0 0 0 (l.map eZ)=ah
 | []=>⟨rfl,rfl⟩
 |n::l=>by
  obtain⟨h1,h2⟩:=NI l;refine⟨?_,?_⟩
  ·show bV (eZ n)::eH (l.map eZ)=_;rw[h1];rfl
  ·show(aU 0 0 0 (eZ n)&&gj 0 0 0 (l.map eZ))=ah;rw[h2];rfl
def Hv.up(hg:L.contains 165=ah)(c:Hv R):Hv (up R L):=λk l hl hn hb=>
 bm (cd:=[.list (bR k) 1 (ints l)]) hg (by rw[bV,bV,aC,I8]) (by simp[aU,aL,eX,nh]) (c _ l hl hn hb _) rfl (by simp only[aH,aL,aU,(NI l).2];rfl)
def zP.up{g:FuncId}(hg:L.contains g=ah)(c:zP R g):zP (up R L) g:=λx y a b hx hy ha hb=>by obtain⟨h1,h2⟩:=hx.hold;obtain⟨h3,h4⟩:=hy.hold;exact bm (cd:=[aC x,aC y]) hg rfl (by simp[aU,h2,h4]) (c _ _ a b h1 h3 ha hb _) rfl rfl
end
def aiw:BX W7:=BX.up rfl λn h=>JP n h
def arz:B2 W7:=B2.up rfl λs h=>Yq s h
def ag8:BW W7:=BW.up rfl λaZ b k hb ht h=>XI aZ b k hb ht h
def afr:BU W7:=BU.up rfl λv r hv hd hl=>XG hv hd hl
def ajl:BY W7:=BY.up rfl λl ae hr hh k hm h=>by rw[XJ hr hh k hm h]
def aln:zO W7 62:=zO.up rfl λx n h=>alA x n h
def ajZ:zN W7 73:=zN.up rfl λx n h=>arJ x n h
def aeO:Er W7:=λp=>by obtain⟨h',c,-⟩:=akG ⟨[],[],0,[]⟩ p;exact bm (L:=L7) rfl rfl rfl c rfl rfl
def aiL:Ep W7:=λx l hx hl=>by obtain⟨h1,h2⟩:=hx.fF;obtain⟨r,h',c,t,rfl⟩:=aiN ⟨[],[],0,[]⟩ rfl (aC x) l h1 hl;obtain⟨h3,h4⟩:=IL.Of (x:=.list t 1 (ints (l.map Pr.az))) ⟨_,_,rfl,λ_=>rfl⟩ h';exact⟨_,h3,bm (L:=L7) (cd:=[aC x]) rfl rfl (by simp[aU,h2]) c rfl h4⟩
def abx:zM W6:=λx y z ae owners aw hx hy hz hl hw=>by
 obtain⟨h1,h2⟩:=hx.fF;obtain⟨h3,h4⟩:=hy.hold;obtain⟨h5,h6⟩:=hz.hold;obtain⟨r,h',hc,⟨e,e1,rfl⟩|⟨l,b,e1,e2,rfl,e3⟩⟩:=abD ⟨[],[],0,[]⟩ rfl _ _ _ ae owners aw h1 h3 h5 hl hw
 ·exact .inl ⟨e,e1,bm (L:=L6) (cd:=[.agg [aC x,aC y],aC z]) rfl rfl (by simp[aU,aL,h2,h4,h6]) hc rfl rfl⟩
 ·refine .inr ⟨l,e1,e2,bm (L:=L6) (cd:=[.agg [aC x,aC y],aC z]) rfl rfl (by simp[aU,aL,h2,h4,h6]) hc ?_ (by simp[aL,aU,nh,qJ])⟩;rw[ju,sL,Bm e3 e2];rfl
def aby:zM W7:=zM.up rfl abx
def ad8:yn W6:=yn.up rfl λx y ae owners hx hy hl h=>Xw x y ae owners hx hy hl h
def ad9:yn W7:=yn.up rfl ad8
def aeA:Ht W7:=λx y z ae owners ao hx hy hz hl=>by obtain⟨h1,h2⟩:=hx.fF;obtain⟨h3,h4⟩:=hy.hold;obtain⟨h5,h6⟩:=hz.hold;obtain⟨r,h',c,-,rfl⟩:=aeC ⟨[],[],0,[]⟩ _ _ _ ae owners ao h1 h3 h5 hl;exact bm (L:=L7) (cd:=[.agg [aC x,aC y],aC z]) rfl rfl (by simp[aU,aL,h2,h4,h6]) c rfl rfl
def afQ:Hu W7:=λx y ae owners hx hy=>by obtain⟨g1,g2⟩:=hx.fF;obtain⟨g3,g4⟩:=hy.hold;obtain⟨r,h',c,-,b,rfl,hb⟩:=afP ⟨[],[],0,[]⟩ _ _ ae owners g1 g3;exact⟨b,hb,bm (L:=L7) (cd:=[.agg [aC x,aC y]]) rfl rfl (by simp[aU,aL,g2,g4]) c rfl rfl⟩
def aiy:Hv W7:=λk l hl hn hb=>by obtain⟨r,h',c,n,rfl⟩:=aix ⟨[],[],0,[]⟩ rfl (bR k) l hl hn hb;exact bm (L:=L7) (cd:=[.list (bR k) 1 (ints l)]) rfl (by rw[bV,bV,aC,I8]) (by simp[aU,aL,eX,nh]) c rfl (by simp only[aH,aL,aU,(NI l).2];rfl)
def aeT:zP W7 19:=λx y a b hx hy ha hb=>by obtain⟨h1,h2⟩:=hx.hold;obtain⟨h3,h4⟩:=hy.hold;obtain⟨r,h',c,-,rfl⟩:=apx ⟨[],[],0,[]⟩ _ _ a b h1 h3 ha hb;exact bm (L:=L7) (cd:=[aC x,aC y]) rfl rfl (by simp[aU,h2,h4]) c rfl rfl
def PG:Tryz.f16.results.toList=[.tmp 6]:=by kernel_rfl
def PA:Tryz.f116.results.toList=[.tmp 2]:=by kernel_rfl
def afO(h:ak)(ep:Int)(X Y C T L:AV)(ae:List (List Int))(owners ao:List Int)(text:List UInt8)(l:List Pr)(hx:RL X ae)(hy:IL Y owners)(hc:IL C ao)(ht:BL T text)(hp:PL L l):
 ∃h' b,W7.call 16 [.agg (aV ep X Y C),T,L] h=aa (.ret (.v (.bool b)),h')/\(b=ah->ae.length<=80/\owners.length<=80/\ao.length<=80/\text.length<=70000/\l.length<=80):=by
 obtain⟨b,hb,c1⟩:=afQ X Y ae owners hx hy;have bx:=vS (ep:=ep) hx hy hc;have b0:=a9 h (aV ep X Y C);have l1:aI al Gt (h.push (aV ep X Y C)) 25 (.ptr (.box h.boxes.length) 1)=aa (.agg [X,Y]):=by rw[ja wT Hi b0 (lW rfl)];rfl
 have l2:aI al Gt (h.push (aV ep X Y C)) 23 (.ptr (.box h.boxes.length) 3)=aa C:=dg oI b0 rfl;have lc:=hc.ej;have lt:=ht.ej;have lp:=hp.ej;have kb:=aj.mk hb;clear hb hx hy hc ht hp b0;obtain⟨H,hH⟩:∃H,h.push (aV ep X Y C)=H:=⟨_,rfl⟩;rw[hH] at l1 l2;generalize aV ep X Y C=K at *
 suffices hs:∃r h',W7.call 16 [.agg K,T,L] h=aa (r,h')/\∃b,r=.ret (.v (.bool b))/\(b=ah->ae.length<=80/\owners.length<=80/\ao.length<=80/\text.length<=70000/\l.length<=80) by obtain⟨r,h',c,b,rfl,q⟩:=hs;exact⟨h',b,c,q⟩
 refine df rfl Tryz.func16 rfl ?_;cases b with
 |false=>refine bJ @PG @bL @hH (ar @gd @jk) ?_;exact⟨_,_,rfl,av,rfl,λq=>by cases q⟩|true=>
 obtain⟨k1,k2⟩:=kb.out rfl;by_cases q1:(ao.length:Int)<=80;rotate_left 1
 ·have d1:decide ((ao.length:Int)<=80)=av:=cI q1;clear kb q1;refine bJ @PG @bL @hH (ar @gd @jk) ?_;exact⟨_,_,rfl,av,rfl,λq=>by cases q⟩
 have d1:decide ((ao.length:Int)<=80)=ah:=bX q1;have key:((text.length:Int)<=300)∨(¬(text.length:Int)<=300/\¬(65536:Int)<text.length)∨(¬(text.length:Int)<=300/\(65536:Int)<text.length/\¬(text.length:Int)<=70000)∨(¬(text.length:Int)<=300/\(65536:Int)<text.length/\(text.length:Int)<=70000):=by omega
 have key2:((l.length:Int)<=8)∨(¬(l.length:Int)<=8/\¬(64:Int)<l.length)∨(¬(l.length:Int)<=8/\(64:Int)<l.length/\¬(l.length:Int)<=80)∨(¬(l.length:Int)<=8/\(64:Int)<l.length/\(l.length:Int)<=80):=by omega
 have kq:aj (ae.length<=80/\owners.length<=80/\ao.length<=80):=⟨k1,k2,by omega⟩;clear k1 k2 q1 kb;rcases key with t1|⟨t1,t2⟩|⟨t1,t2,t3⟩|⟨t1,t2,t3⟩<;>rcases key2 with p1|⟨p1,p2⟩|⟨p1,p2,p3⟩|⟨p1,p2,p3⟩
 all_goals
  refine bJ @PG @bL @hH (ar @gd @jk) ?_
  first|exact⟨_,_,rfl,av,rfl,λq=>by cases q⟩|exact⟨_,_,rfl,ah,rfl,λ_=>⟨kq.out.1,kq.out.2.1,kq.out.2.2,by omega,by omega⟩⟩
def aiO(h:ak)(ep:Int)(X Y C:AV)(ae:List (List Int))(owners ao:List Int)(hx:RL X ae)(hy:IL Y owners)(hc:IL C ao)(hl:ao.length<=1000000):
 ∃r h',W7.call 116 [.agg (aV ep X Y C)] h=aa (r,h')/\r=.ret (.v (.bool (jS ae ep ao))):=by
 have c1:=aeA X Y C ae owners ao hx hy hc hl;have bx:=vS (ep:=ep) hx hy hc;have b0:=a9 h (aV ep X Y C);have l0:aI al Gt (h.push (aV ep X Y C)) 3 (.ptr (.box h.boxes.length) 0)=aa (.v (.int .i64 ep)):=dg eM b0 rfl;have l1:aI al Gt (h.push (aV ep X Y C)) 25 (.ptr (.box h.boxes.length) 1)=aa (.agg [X,Y]):=by rw[ja wT Hi b0 (lW rfl)];rfl
 have l2:aI al Gt (h.push (aV ep X Y C)) 23 (.ptr (.box h.boxes.length) 3)=aa C:=dg oI b0 rfl;have kv:aj (jS ae ep ao=(decide (0<=ep)&&decide (ep<=64)&&decide (ao.length=bU ae)&&ao.all bE)):=⟨rfl⟩;generalize jS ae ep ao=res at *
 clear hx hy hc b0;obtain⟨H,hH⟩:∃H,h.push (aV ep X Y C)=H:=⟨_,rfl⟩;rw[hH] at l0 l1 l2;generalize aV ep X Y C=K at *
 refine df rfl Tryz.func116 rfl ?_;by_cases h1:0<=ep;rotate_left 1
 ·have hf:res=av:=by rw[kv.out];simp[h1]
  have eL:decide (0<=ep)=av:=cI h1;clear h1 kv;subst hf;refine bJ @PA @bL @hH (ar @uf (ar @gd @jk)) ?_;exact⟨_,_,rfl,rfl⟩
 have eL:decide (0<=ep)=ah:=bX h1;by_cases h2:ep<=64;rotate_left 1
 ·have hf:res=av:=by rw[kv.out];simp[h2]
  have gu:decide (ep<=64)=av:=cI h2;clear h1 h2 kv;subst hf;refine bJ @PA @bL @hH (ar @uf (ar @gd @jk)) ?_;exact⟨_,_,rfl,rfl⟩
 have gu:decide (ep<=64)=ah:=bX h2;have kr:aj (res=(ao.all bE&&decide (ao.length=bU ae))):=⟨by rw[kv.out,eL,gu,rP,rP,Bool.and_comm]⟩;clear h1 h2 kv;generalize (ao.all bE&&decide (ao.length=bU ae))=dd at *
 refine bJ @PA @bL @hH (ar @uf (ar @gd @jk)) ?_;exact⟨_,_,rfl,by rw[kr.out]⟩
def JV:Tryz.f122.results.toList=[.cell 2 96]:=by kernel_rfl
def ac4(a b c d):fC al 23 4 [(0,.v (.int .i64 a)),(1,.v (.int .i64 b)),(2,.v (.int .i64 c)),(3,.v (.int .i64 d))]=aa (.list .tight 1 (ints [a,b,c,d])):=by kernel_rfl
def gl(p:Pr):List AV:=aH 3 0 [] .held 4 ([p.az,p.no,p.d,p.e].map eZ)
def Cp(p:Pr):Prop:=∀n∈[p.az,p.no,p.d,p.e],0<=n/\n<=4611686018427387903
def aiD{l:List Int}(h:∀n∈l,0<=n/\n<=4611686018427387903):ng (l.map Vl.int) (l.map eZ):=by refine⟨bh,λi v r hv hr=>?_⟩;rw[dW,dh] at hv hr;obtain⟨n,hn,rfl⟩:=hv;obtain⟨m,hm,rfl⟩:=hr;rw[hn] at hm;injection hm with hm;subst hm;exact .int n (h n (de hn))
def Xn{p}(h:Cp p):cG p.val (gl p):=by have q:=aiD h;exact .list _ _ _ _ q.1 (λ_=>rfl) bh q.2
def ar9(h:ak)(bA:cA h=ah)(k:Tok)(l:List Pr)(hl:l.length<=1000)(bH:l≠[])(hb:∀p∈l,Cp p):
 ∃r h',W7.call 122 [.list k 4 (eS l)] h=aa (r,h')/\∃n,r=.ret (.agg (aH 3 0 [] (.free n) 4 (l.map gl))):=by
 have z:=wE;have bd:=Sa;have u29:=wS;have u94:=oH;have z85:=sU;have cH:=xV l;have s1:=YR (H:=h.push (aH 0 0 [] .nil 0 [])) (r:=aH 3 0 [] .nil 0 []) rfl rfl;have oO:(h.push (aH 0 0 [] .nil 0 [])).boxes.length=h.boxes.length+1:=cK _ _;have G0:pj h ((h.push (aH 0 0 [] .nil 0 [])).push (aH 3 0 [] .nil 0 [])) (h.boxes.length+1) ((l.map Pr.val).take 0) .nil 0 []:=⟨by rw[<-oO];exact a9 _ _,.inl rfl,bA,(Ext.push _ _).trans (.push _ _),EP _,⟨rfl,λi v r q=>by simp at q⟩,λq=>absurd rfl q,λ_=>.inr rfl,rfl⟩;have B0:((h.push (aH 0 0 [] .nil 0 [])).push (aH 3 0 [] .nil 0 [])).boxes[h.boxes.length]?=aa (aH 0 0 [] .nil 0 []):=bg (a9 _ _);have kG0:=aj.mk (ar G0 B0);rw[oO] at s1;clear G0 B0;have kb:=aj.mk (ar hb bH);clear hb bH;obtain⟨H0,hH⟩:∃H0,(h.push (aH 0 0 [] .nil 0 [])).push (aH 3 0 [] .nil 0 [])=H0:=⟨_,rfl⟩;rw[hH] at s1 kG0;refine df rfl Tryz.func122 rfl ?_;refine cY @JV @bL @jE ?_;refine bG.gen λe0 aD bI cT cJ=>?_;have f0:e0.get 0=.list k 4 (eS l):=by rw[aD];exact gS
 have f2:e0.get 2=.ptr (.box h.boxes.length) 0:=by rw[aD];exact gS
 have f3:e0.get 3=.ptr (.box (h.boxes.length+1)) 0:=by rw[aD];simp only[gW,reduceIte,aX,aR,cK]
 have f4:e0.get 4=.v (.int .i64 (0:Nat)):=by rw[aD];exact gR
 have fd:e0.defers=[]:=by rw[bI];exact gS
 clear aD bI cT cJ s1 hH z bd;refine cq (λm e H=>∃(i:Nat) (t:Tok) (sz:Nat),i<=l.length/\m=l.length - i/\aj (pj h H (h.boxes.length+1) ((l.map Pr.val).take i) t sz ((l.take i).map gl)/\H.boxes[h.boxes.length]?=aa (aH 0 0 [] .nil 0 []))/\aj (0<i->(∃n,t=.free n)/\sz=4)/\e.get 0=.list k 4 (eS l)/\e.get 2=.ptr (.box h.boxes.length) 0/\e.get 3=.ptr (.box (h.boxes.length+1)) 0/\e.get 4=.v (.int .i64 (i:Nat))/\e.defers=[]) ?_ l.length _ _ ?_;rotate_left 1
 ·exact⟨0,.nil,0,cr _,rfl,kG0,⟨λq=>absurd q (ER _)⟩,f0,f2,f3,f4,fd⟩
 clear f0 f2 f3 f4 fd kG0;rintro m e H ⟨i,t,sz,hi,rfl,kG,kN,g0,g2,g3,g4,hd⟩;by_cases aA:i<l.length
 ·obtain⟨p,hv⟩:∃p,l[i]?=aa p:=⟨_,aO aA⟩;have sG:=kb.out.1 p (de hv);have ie:=Xn sG;have lde:=DB (s:=4) hv;have c:=aiy .tight [p.az,p.no,p.d,p.e] bh bh sG;have b4:=ac4 p.az p.no p.d p.e;have cO:((l.take i).map gl).length<1000000:=by rw[bu,eP];omega
  have l3:=nu kG.out.1.box;have ap:=Ak (r:=gl p) cO kG.out.1.four kG.out.1.nil kG.out.1.can;have bl:=An (r:=gl p) rfl rfl;have st:=BF (H:=H.app t) (t2:=.free H.tn) (sz2:=4) (rows2:=(l.take i).map gl++[gl p]) (by rw[eu];exact kG.out.1.box);have G2:=kG.out.1.put ie rfl;have e1:(l.take i).map gl++[gl p]=(l.take (i+1)).map gl:=by rw[fH hv,lU];rfl
  have e2:(l.map Pr.val).take i++[p.val]=(l.map Pr.val).take (i+1):=by rw[fH (x:=p.val) (by rw[dW,hv];rfl)]
  rw[e1,e2] at G2;rw[e1] at ap st;have kG2:aj (pj h ((H.app t).put (h.boxes.length+1) (aH 3 0 [] (.free H.tn) 4 ((l.take (i+1)).map gl))) (h.boxes.length+1) ((l.map Pr.val).take (i+1)) (.free H.tn) 4 ((l.take (i+1)).map gl)/\((H.app t).put (h.boxes.length+1) (aH 3 0 [] (.free H.tn) 4 ((l.take (i+1)).map gl))).boxes[h.boxes.length]?=aa (aH 0 0 [] .nil 0 [])):=⟨G2,by rw[cS ag,eu];exact kG.out.2⟩;have kN2:aj (0<i+1->(∃n,Tok.free H.tn=.free n)/\4=4):=⟨λ_=>⟨⟨_,rfl⟩,rfl⟩⟩;have fL:(i:Int)<(l.length:Int):=by omega
  have irw:aH 3 0 [] .held 4 ([p.az,p.no,p.d,p.e].map eZ)=gl p:=rfl;rw[irw] at c;clear G2 e1 e2 hv ie cO kG kN irw sG;generalize gl p=r at *
  refine bJ @JV @fj @qi @a8 ?_
  repeat' (first|simp(maxSteps:=999999)(disch:=first|exact dZ|fail)only[gW,reduceIte,aX,aR,JV,fj,qi,a8, *]|(refine dX ?_ ?_<;>(intro _;try omega))|refine ey adB iU ?_)
  exact⟨l.length - (i+1),by omega,i+1,.free H.tn,4,by omega,rfl,(by first|exact kG2|trivial),(by first|exact kN2|trivial),by simp⟩
 ·have fK:i=l.length:=by omega
  subst fK;obtain⟨⟨n,rfl⟩,rfl⟩:=kN.out (K8.2 kb.out.2);have hG:=kG.out.1;rw[fA] at hG;have ld:=oU (r:=aH 3 0 [] (.free n) 4 (l.map gl)) rfl hG.box;have st:=YQ (r:=aH 3 0 [] (.free n) 4 (l.map gl)) kG.out.2 rfl rfl rfl;have ll:=V5 (H:=H) (r:=aH 3 0 [] (.free n) 4 (l.map gl)) rfl (aP.1 kG.out.2).1;clear hG kG kN;refine br @JV ?_;exact⟨_,_,rfl,n,rfl⟩
def NJ:∀l:List Pr,eH (l.map gl)=l.map gl/\gj 0 0 0 (l.map gl)=ah
 | []=>⟨rfl,rfl⟩
 |p::l=>by
  obtain⟨h1,h2⟩:=NJ l;refine⟨?_,?_⟩
  ·show bV (gl p)::eH (l.map gl)=_;rw[h1];rfl
  ·show(aU 0 0 0 (gl p)&&gj 0 0 0 (l.map gl))=ah;rw[h2];rfl
def ar8{l}(h:∀p∈l,Cp p)(hl:l.length<=1000):cG (sP l) (aH 3 0 [] .held 4 (l.map gl)):=by refine .list _ _ _ _ bh (λ_=>rfl) (by simp;omega) λi v r hv hr=>?_;rw[dW,dh] at hv hr;obtain⟨p,hp,rfl⟩:=hv;obtain⟨q,hq,rfl⟩:=hr;rw[hp] at hq;injection hq with hq;subst hq;exact Xn (h p (de hp))
def L8:List FuncId:=L7++[31,33,35,16,116,122,142,169]
noncomputable def Pk:FuncId->Option (List AV->ak->Option (AV × ak)):=pq W7 L8
noncomputable abbrev W8:=whole al Gt Pk
def Ar:o8 Pk L8:=wX
section
variable (R:Rec)
def Hy:Prop:=∀(k:Tok) (l:List Pr),l.length<=1000->l≠[]->(∀p∈l,Cp p)->∀h,R.call 122 [.list k 4 (eS l)] h=aa (.ret (.agg (aH 3 0 [] .held 4 (l.map gl))),h)
def Hw:Prop:=∀ep X Y C ae owners ao,RL X ae->IL Y owners->IL C ao->ao.length<=1000000->∀h,R.call 116 [.agg (aV ep X Y C)] h=aa (.ret (.v (.bool (jS ae ep ao))),h)
def BV:Prop:=∀ep X Y C T L ae owners ao text l,RL X ae->IL Y owners->IL C ao->BL T text->PL L l->
 ∃b,(b=ah->ae.length<=80/\owners.length<=80/\ao.length<=80/\text.length<=70000/\l.length<=80)/\∀h,R.call 16 [.agg (aV ep X Y C),T,L] h=aa (.ret (.v (.bool b)),h)
end
def BL.fF{x}{b}(h:BL x b):BL (aC x) b/\aL 0 0 0 (aC x)=ah:=by obtain⟨k,s,rfl,hs⟩:=h;rw[aC,oQ];exact⟨⟨bR k,s,rfl,hs⟩,by rw[aL,eX,jz];rfl⟩
def JF(l):eH (eS l)=eS l/\gj 0 0 0 (eS l)=ah:=by
 induction l with
 |nil=>exact⟨rfl,rfl⟩|cons p l ih=>
  refine⟨?_,?_⟩
  ·show bV (bF p)::eH (eS l)=_;rw[ih.1];rfl
  ·show(aU 0 0 0 (bF p)&&gj 0 0 0 (eS l))=ah;rw[ih.2];rfl
section
variable {R:Rec} {L:List FuncId}
def Tv(l:List Pr):aL 0 0 0 (.agg (aH 3 0 [] .held 4 (l.map gl)))=ah:=by simp only[aH,aL,aU,(NJ l).2];rfl
def Hy.up(hg:L.contains 122=ah)(c:Hy R):Hy (up R L):=λk l hl hn hb=>
 bm (cd:=[.list (bR k) 4 (eS l)]) hg (by rw[bV,bV,aC,(JF l).1]) (by simp[aU,aL,eX,(JF l).2]) (c _ l hl hn hb _) rfl (Tv l)
def Hw.up(hg:L.contains 116=ah)(c:Hw R):Hw (up R L):=λep X Y C ae owners ao hx hy hc hl=>by obtain⟨h1,h2⟩:=hx.fF;obtain⟨h3,h4⟩:=hy.hold;obtain⟨h5,h6⟩:=hc.hold;exact bm (cd:=[.agg (aV ep (aC X) (aC Y) (aC C))]) hg rfl (by simp[aV,aU,aL,h2,h4,h6]) (c ep _ _ _ ae owners ao h1 h3 h5 hl _) rfl rfl
def BV.up(hg:L.contains 16=ah)(c:BV R):BV (up R L):=λep X Y C T l' ae owners ao text l hx hy hc ht hp=>by obtain⟨h1,h2⟩:=hx.fF;obtain⟨h3,h4⟩:=hy.hold;obtain⟨h5,h6⟩:=hc.hold;obtain⟨h7,h8⟩:=ht.fF;obtain⟨h9,AL⟩:=hp.fF;obtain⟨b,hb,c⟩:=c ep _ _ _ _ _ ae owners ao text l h1 h3 h5 h7 h9;exact⟨b,hb,bm (cd:=[.agg (aV ep (aC X) (aC Y) (aC C)),aC T,aC l']) hg rfl (by simp[aV,aU,aL,h2,h4,h6,h8,AL]) (c _) rfl rfl⟩
end
def VS:BX W8:=aiw.up rfl
def arA:B2 W8:=arz.up rfl
def aha:BW W8:=ag8.up rfl
def afs:BU W8:=afr.up rfl
def ajo:BY W8:=ajl.up rfl
def alo:zO W8 62:=aln.up rfl
def aj0:zN W8 73:=ajZ.up rfl
def aeP:Er W8:=aeO.up rfl
def aiM:Ep W8:=aiL.up rfl
def abz:zM W8:=aby.up rfl
def aea:yn W8:=ad9.up rfl
def aeU:zP W8 19:=aeT.up rfl
def ar7:Hy W8:=λk l hl hn hb=>by obtain⟨r,h',c,n,rfl⟩:=ar9 ⟨[],[],0,[]⟩ rfl (bR k) l hl hn hb;exact bm (L:=L8) (cd:=[.list (bR k) 4 (eS l)]) rfl (by rw[bV,bV,aC,(JF l).1]) (by simp[aU,aL,eX,(JF l).2]) c rfl (Tv l)
def aiP:Hw W8:=λep X Y C ae owners ao hx hy hc hl=>by obtain⟨h1,h2⟩:=hx.fF;obtain⟨h3,h4⟩:=hy.hold;obtain⟨h5,h6⟩:=hc.hold;obtain⟨r,h',c,rfl⟩:=aiO ⟨[],[],0,[]⟩ ep _ _ _ ae owners ao h1 h3 h5 hl;exact bm (L:=L8) (cd:=[.agg (aV ep (aC X) (aC Y) (aC C))]) rfl rfl (by simp[aV,aU,aL,h2,h4,h6]) c rfl rfl
def afR:BV W8:=λep X Y C T l' ae owners ao text l hx hy hc ht hp=>by obtain⟨h1,h2⟩:=hx.fF;obtain⟨h3,h4⟩:=hy.hold;obtain⟨h5,h6⟩:=hc.hold;obtain⟨h7,h8⟩:=ht.fF;obtain⟨h9,AL⟩:=hp.fF;obtain⟨h',b,c,hb⟩:=afO ⟨[],[],0,[]⟩ ep _ _ _ _ _ ae owners ao text l h1 h3 h5 h7 h9;exact⟨b,hb,bm (L:=L8) (cd:=[.agg (aV ep (aC X) (aC Y) (aC C)),aC T,aC l']) rfl rfl (by simp[aV,aU,aL,h2,h4,h6,h8,AL]) c rfl rfl⟩
def Kb:Tryz.f51.results.toList=[.tmp 8]:=by kernel_rfl
def qC:Tryz.f117.results.toList=[.tmp 4]:=by kernel_rfl
def GW:Tryz.f50.results.toList=[.tmp 6]:=by kernel_rfl
def ada(a b)(t)(V):fC al 94 4 [(0,.agg (eZ a)),(1,.agg (aH 2 0 t .nil 0 [])),(2,.agg (aH 3 0 [] .held 4 V)),(3,.agg (eZ b))]=aa (.list .tight 4 [eZ a,aH 2 0 t .nil 0 [],aH 3 0 [] .held 4 V,eZ b]):=by kernel_rfl
def acU(h:ak)(ep:Int)(X Y C T L:AV)(ao:List Int)(text:List UInt8)(l:List Pr)(az:Int)(bx:(AV.agg (aV ep X Y C)).b8=aa (aV ep X Y C))(hc:IL C ao)(ht:BL T text)(hp:PL L l)
 (jW:0<ao.length) (AR:0<=ai ao 0/\ai ao 0<=4611686018427387903) (xF:text.length<=65536) (hl:l.length<=64) (bH:l≠[]) (hb:∀p∈l,Cp p) (hk:0<=az/\az<=4611686018427387903):
 ∃r h',W8.call 51 [.agg (aV ep X Y C),T,L,im az] h=aa (r,h')/\h'=h.push (aV ep X Y C)/\r=.ret (im ((eC (ai ao 0) text l az:Nat):Int)):=by
 obtain⟨kc,sc,rfl,tB⟩:=hc;obtain⟨kt,st,rfl,bZ⟩:=ht;obtain⟨kp,sp,rfl,kL⟩:=hp;have N3:sc=1:=tB (by intro e;rw[e] at jW;simp at jW);subst N3;have aia:sp=4:=kL bH;subst aia;have c1:=λh=>VS (ai ao 0) h;have c2:=λh=>arA text h;have c3:=ar7 kp l ag bH hb;have c4:=λh=>VS az h;have ie:=ar8 hb ag;have hr:ng [.int (ai ao 0),.text text,sP l,.int az] [eZ (ai ao 0),aH 2 0 text .nil 0 [],aH 3 0 [] .held 4 (l.map gl),eZ az]:=by
  refine⟨rfl,λi v r hv hr=>?_⟩
  match i with
  |0=>injection hv with hv;injection hr with hr;subst hv;subst hr;exact .int _ AR
  |1=>injection hv with hv;injection hr with hr;subst hv;subst hr;exact .text text ag
  |2=>injection hv with hv;injection hr with hr;subst hv;subst hr;exact ie
  |3=>injection hv with hv;injection hr with hr;subst hv;subst hr;exact .int _ hk
  |i+4=>simp at hv
 have rm:eH [eZ (ai ao 0),aH 2 0 text .nil 0 [],aH 3 0 [] .held 4 (l.map gl),eZ az]=[eZ (ai ao 0),aH 2 0 text .nil 0 [],aH 3 0 [] .held 4 (l.map gl),eZ az]:=by
  have e:bV (aH 3 0 [] .held 4 (l.map gl))=aH 3 0 [] .held 4 (l.map gl):=by show[im 3,im 0,sv [],.list .held 4 (eH (l.map gl))]=_;rw[(NJ l).1];rfl
  show[bV (eZ (ai ao 0)),bV (aH 2 0 text .nil 0 []),bV (aH 3 0 [] .held 4 (l.map gl)),bV (eZ az)]=_;rw[e];rfl
 have c5:=ajo _ _ hr rm .tight bh;have hv:cG (.list [.int (ai ao 0),.text text,sP l,.int az]) (aH 3 0 [] (bR .tight) 4 [eZ (ai ao 0),aH 2 0 text .nil 0 [],aH 3 0 [] .held 4 (l.map gl),eZ az]):=.list _ _ _ _ rfl (λ_=>rfl) bh hr.2;have hd:=Zt l;have js:=Sg (ai ao 0) text l az;obtain⟨t,c6⟩:=afs _ _ hv (by simp[sP,fT,gF];omega) ag;have c7:=aha BD (dt (.list [.int (ai ao 0),.text text,sP l,.int az])) t ag aK;have hh:mb (fQ BD (dt (.list [.int (ai ao 0),.text text,sP l,.int az])))=eC (ai ao 0) text l az:=rfl;rw[hh] at c7;rw[show BD=[98,105,110,100] from rfl] at c7;have bk:=ada (ai ao 0) az text (l.map gl);have cv:=λH=>Ii (k:=kt) bZ H;have b0:=a9 h (aV ep X Y (.list kc 1 (ints ao)));have l2:aI al Gt (h.push (aV ep X Y (.list kc 1 (ints ao)))) 23 (.ptr (.box h.boxes.length) 3)=aa (.list kc 1 (ints ao)):=dg oI b0 rfl;have l4:=e7 (H:=h.push (aV ep X Y (.list kc 1 (ints ao)))) (l:=ao) (i:=0) (s:=1) jW;have cH:=dn ao;have u23:=dJ;have z3:=fP;have I9:(0:Int)<(ao.length:Int):=by omega
 have z0:(0:Int).toNat=0:=rfl;clear hr hv js hh bZ rm ie hd b0 tB kL hb;generalize eC (ai ao 0) text l az=n at *
 generalize aH 3 0 [] (bR .tight) 4 [eZ (ai ao 0),aH 2 0 text .nil 0 [],aH 3 0 [] .held 4 (l.map gl),eZ az]=R at *
 generalize eZ (ai ao 0)=r0 at *
 generalize eZ az=r3 at *
 generalize aH 2 0 text .nil 0 []=r1 at *
 generalize aH 3 0 [] .held 4 (l.map gl)=r2 at *
 generalize dt (.list [.int (ai ao 0),.text text,sP l,.int az])=eb at *
 generalize ai ao 0=c0 at *
 obtain⟨H0,hH⟩:∃H0,h.push (aV ep X Y (.list kc 1 (ints ao)))=H0:=⟨_,rfl⟩;rw[hH] at l2 l4;rw[hH];generalize aV ep X Y (.list kc 1 (ints ao))=K at *
 unfold sv at c2;unfold im at *
 refine df rfl Tryz.func51 rfl ?_;have svs:=GZ kc 1 ao;refine bJ @Kb @bL @hH (ar @jk @a8) ?_;refine mW [(1,6),(3,6)] Ar iU (λp hp=>?_) ?_
 ·simp only[gO,tT,or_false] at hp;rcases hp with rfl|rfl
  ·refine zH (x:=.ptr (.box h.boxes.length) 3) (v:=.list kc 1 (ints ao)) iU rfl rfl rfl iU (svs) ?_ ?_<;>(simp only[hJ,fB];exact mP @Kb @jk @a8 @and_self)
  ·refine zH (x:=.elem 1 (ints ao) 0 0) (v:=.v (.int .i64 c0)) iU rfl rfl rfl iU (by simp[eT,mj]) ?_ ?_<;>(simp only[hJ,fB];exact mP @Kb @jk @a8 @and_self)
 refine cY @Kb @jk @a8 ?_;exact⟨_,_,rfl,rfl,rfl⟩
def abT:gx al 27=aa ah:=by kernel_rfl
def arp:dm al 27=aa 4:=by kernel_rfl
def DA{H}{b}{K}(hb:H.boxes[b]?=aa K)(hl:K.length=4):aI al Gt H 27 (.ptr (.box b) 0)=aa (.agg K):=by rw[ja abT arp hb ag,List.drop_zero,<-hl,fA]
def DR(ae:List (List Int))(owners:List Int)(l:List Pr):Bool:=decide (1<=l.length)&&decide (l.length<=64)&&fm (-1) l&&(fZ ae owners (l.map Pr.az)).2.1&&decide ((fZ ae owners (l.map Pr.az)).2.2=0)
def akQ{cE}{p}{l}(h:uJ p=av)(h1: -1<=cE):fm cE (p::l)=av:=by
 unfold uJ at h;rw[NT.fm];by_cases q:0<=p.az
 ·rw[bX q,rP] at h;by_cases q2:cE<p.az
  ·rw[bX q2,rP,h];rfl
  ·rw[cI q2];rfl
 ·rw[cI (ag:¬cE<p.az)];rfl
def WT{cE}{p}{l}(h:uJ p=ah)(h1:cE<p.az):fm cE (p::l)=fm p.az l:=by unfold uJ at h;rw[NT.fm];simp only[bC] at h;obtain⟨⟨⟨⟨⟨-,h2⟩,h3⟩,h4⟩,h5⟩,h6⟩:=h;rw[bX h1,h2,h3,h4,h5,h6];rfl
def akP{cE}{p}{l}(h1:p.az<=cE):fm cE (p::l)=av:=by rw[NT.fm,cI (ag:¬cE<p.az)];rfl
def akK{p}(h:uJ p=ah):0<=p.az:=by unfold uJ at h;simp only[bC,decide_eq_true_eq] at h;exact h.1.1.1.1.1
def akO(h:ak)(ep:Int)(X Y C L:AV)(ae:List (List Int))(owners:List Int)(l:List Pr)(bx:(AV.agg (aV ep X Y C)).b8=aa (aV ep X Y C))(hx:RL X ae)(hy:IL Y owners)(hp:PL L l)(cO:ae.length<=1000000)(eR:l.length<=1000000):
 ∃r h',W8.call 117 [.agg (aV ep X Y C),L] h=aa (r,h')/\r=.ret (.v (.bool (DR ae owners l))):=by
 obtain⟨Z,hZ,ck⟩:=aiM L l hp eR;have ca:=abz X Y Z ae owners (l.map Pr.az) hx hy hZ cO (by rw[bu];omega);have b0:=a9 h (aV ep X Y C);have l1:aI al Gt (h.push (aV ep X Y C)) 25 (.ptr (.box h.boxes.length) 1)=aa (.agg [X,Y]):=by rw[ja wT Hi b0 (lW rfl)];rfl
 have kv:aj (DR ae owners l=(decide (1<=l.length)&&decide (l.length<=64)&&fm (-1) l&&(fZ ae owners (l.map Pr.az)).2.1&&decide ((fZ ae owners (l.map Pr.az)).2.2=0))):=⟨rfl⟩;generalize DR ae owners l=res at *
 obtain⟨kp,sp,rfl,kL⟩:=hp;have lp:ej al 29 (.list kp sp (eS l))=aa (.v (.int .i64 (l.length:Nat))):=PL.ej ⟨_,_,rfl,kL⟩;have u29:=wS;have z85:=sU;have cH:=xV l;obtain⟨H0,hH⟩:∃H0,h.push (aV ep X Y C)=H0:=⟨_,rfl⟩;rw[hH] at l1;generalize aV ep X Y C=K at *
 have kc:=aj.mk (ar ca kL);have kck:=aj.mk ck;clear b0 hx hy hZ ca kL ck;refine df rfl Tryz.func117 rfl ?_;by_cases q1:l.length<1
 ·have q1I:((l.length:Nat):Int)<1:=by omega
  have kf:aj (res=av):=⟨by rw[kv.out,cI ag];rfl⟩;clear q1 kv;refine cY @qC @bL @hH ?_;exact⟨_,_,rfl,by rw[kf.out]⟩
 have q1I:¬((l.length:Nat):Int)<1:=by omega
 by_cases q2:64<l.length
 ·have q2I:(64:Int)<((l.length:Nat):Int):=by omega
  have kf:aj (res=av):=⟨by rw[kv.out,cI (ag:¬l.length<=64),Bool.and_false];rfl⟩;clear q1 q2 kv;refine cY @qC @bL @hH ?_;exact⟨_,_,rfl,by rw[kf.out]⟩
 have q2I:¬(64:Int)<((l.length:Nat):Int):=by omega
 have bB:sp=4:=kc.out.2 (by intro q;rw[q] at q1;simp at q1);subst bB;have kv2:aj (res=(fm (-1) l&&(fZ ae owners (l.map Pr.az)).2.1&&decide ((fZ ae owners (l.map Pr.az)).2.2=0))):=⟨by rw[kv.out,bX (ag:1<=l.length),bX (ag:l.length<=64)];rfl⟩;clear kv;refine cY @qC @bL @hH ?_;refine bG.gen λe0 aD bI cT cJ=>?_;have f1:e0.get 1=.list kp 4 (eS l):=by rw[aD];exact gS
 have f2:e0.get 2=.ptr (.box h.boxes.length) 0:=by rw[aD];exact gS
 have f5:e0.get 5=.v (.int .i64 (0:Nat)):=by rw[aD];exact gR
 have fd:e0.defers=[]:=by rw[bI];exact gS
 clear aD bI cT cJ bx hH q1I q2I;refine cq (λm e H=>∃(i:Nat) (cE:Int),i<=l.length/\m=l.length - i/\aj (fm cE (l.drop i)=fm (-1) l)/\ -1<=cE/\aj (i=0->cE= -1)/\aj (∀q,0<i->l[i - 1]?=aa q->q.az=cE)/\e.get 1=.list kp 4 (eS l)/\e.get 2=.ptr (.box h.boxes.length) 0/\e.get 5=.v (.int .i64 (i:Nat))/\e.defers=[]/\H=H0) ?_ l.length _ _ ?_;rotate_left 1
 ·exact⟨0,-1,cr _,rfl,⟨rfl⟩,Int.le_refl _,⟨λ_=>rfl⟩,⟨λ_ q=>absurd q (ER _)⟩,f1,f2,f5,fd,rfl⟩
 clear f1 f2 f5 fd;rintro m e H ⟨i,cE,hi,rfl,kP,kD,k0,k1,g1,g2,g5,hd,rfl⟩;by_cases aA:i<l.length;rotate_left 1
 ·have fK:i=l.length:=by omega
  subst fK;have hf:fm (-1) l=ah:=by rw[<-kP.out,List.drop_of_length_le (aJ _)];rfl
  have kv3:aj (res=((fZ ae owners (l.map Pr.az)).2.1&&decide ((fZ ae owners (l.map Pr.az)).2.2=0))):=⟨by rw[kv2.out,hf,rP]⟩;have ck:=kck.out;clear hf kv2 kP k0 k1;rcases kc.out.1 with⟨e,e1,ca⟩|⟨w,e1,-,ca⟩
  ·have kf:aj (res=av):=⟨by rw[kv3.out,e1];rfl⟩;clear kv3 e1;refine bM @qC @gd ?_
   repeat' (first|simp(maxSteps:=999999)(disch:=first|exact dZ|fail)only[gW,reduceIte,aX,aR,qC,gd, *]|(refine dX ?_ ?_<;>(intro _;try omega))|refine ey Ar iU ?_)
   exact⟨_,_,rfl,by rw[kf.out]⟩
  ·have kf:aj (res=ah):=⟨by rw[kv3.out,e1];rfl⟩;clear kv3 e1;refine bM @qC @gd ?_
   repeat' (first|simp(maxSteps:=999999)(disch:=first|exact dZ|fail)only[gW,reduceIte,aX,aR,qC,gd, *]|(refine dX ?_ ?_<;>(intro _;try omega))|refine ey Ar iU ?_)
   exact⟨_,_,rfl,by rw[kf.out]⟩
 obtain⟨p,fc⟩:∃p,l[i]?=aa p:=⟨_,aO aA⟩;have oq:l.drop i=p::l.drop (i+1):=by rw[List.drop_eq_getElem_cons aA,(aP.1 fc).2]
 have ld:=λH=>DD (H:=H) (s:=4) fc;obtain⟨ld0,-⟩:=DB (s:=4) fc;have cp:=aeP p;have fL:(i:Int)<(l.length:Int):=by omega
 have kpp:aj (fm cE (p::l.drop (i+1))=fm (-1) l):=⟨by rw[<-oq];exact kP.out⟩;have kpv:=aj.mk fc;clear oq fc;cases hq:uJ p with
 |false=>
  rw[hq] at cp;have kf:aj (res=av):=⟨by rw[kv2.out,<-kpp.out,akQ hq kD];rfl⟩;clear hq kD kv2 k0 k1 kP;refine cY @qC @qi @a8 ?_
  repeat' (first|simp(maxSteps:=999999)(disch:=first|exact dZ|fail)only[gW,reduceIte,aX,aR,qC,qi,a8, *]|(refine dX ?_ ?_<;>(intro _;try omega))|refine ey Ar iU ?_)
  exact⟨_,_,rfl,by rw[kf.out]⟩
 |true=>
 rw[hq] at cp;have Nv:=akK hq;by_cases Nd:i=0
 ·subst Nd;have zf:=k0.out rfl;have kP2:aj (fm p.az (l.drop (0+1))=fm (-1) l):=⟨by rw[<-kpp.out,WT hq ag]⟩;have kk1:aj (∀q,0<0+1->l[0+1 - 1]?=aa q->q.az=p.az):=⟨λq _ h2=>by rw[show 0+1 - 1=0 from rfl,kpv.out] at h2;injection h2 with h2;rw[h2]⟩;have FF: -1<=p.az:=by omega
  clear hq zf kD k0 k1 kP Nv;refine cY @qC @qi @a8 ?_
  repeat' (first|simp(maxSteps:=999999)(disch:=first|exact dZ|fail)only[gW,reduceIte,aX,aR,qC,qi,a8, *]|(refine dX ?_ ?_<;>(intro _;try omega))|refine ey Ar iU ?_)
  exact⟨l.length - 1,by omega,0+1,p.az,by omega,rfl,(by first|exact kP2|trivial),(by first|exact FF|trivial),⟨λq=>absurd q ag⟩,(by first|exact kk1|trivial),by simp⟩
 ·obtain⟨q,rC⟩:∃q,l[i - 1]?=aa q:=⟨_,aO ag⟩;have NS:=k1.out q ag rC;obtain⟨lq0,-⟩:=DB (s:=4) rC;rw[NS] at lq0;have I9:(0:Int)<(i:Int):=by omega
  have jl:(i:Int) - 1=((i - 1:Nat):Int):=by omega
  have ahS:((i - 1:Nat):Int)<(l.length:Int):=by omega
  clear rC;by_cases c3:p.az<=cE
  ·have kf:aj (res=av):=⟨by rw[kv2.out,<-kpp.out,akP c3];rfl⟩;clear hq kD kv2 k0 k1 kP Nv NS;refine cY @qC @qi @a8 ?_
   repeat' (first|simp(maxSteps:=999999)(disch:=first|exact dZ|fail)only[gW,reduceIte,aX,aR,qC,qi,a8, *]|(refine dX ?_ ?_<;>(intro _;try omega))|refine ey Ar iU ?_)
   exact⟨_,_,rfl,by rw[kf.out]⟩
  ·have kP2:aj (fm p.az (l.drop (i+1))=fm (-1) l):=⟨by rw[<-kpp.out,WT hq ag]⟩;have kk1:aj (∀q,0<i+1->l[i+1 - 1]?=aa q->q.az=p.az):=⟨λq _ h2=>by rw[show i+1 - 1=i from rfl,kpv.out] at h2;injection h2 with h2;rw[h2]⟩;have FF: -1<=p.az:=(by omega);clear hq kD k0 k1 kP Nv NS;refine cY @qC @qi @a8 ?_
   repeat' (first|simp(maxSteps:=999999)(disch:=first|exact dZ|fail)only[gW,reduceIte,aX,aR,qC,qi,a8, *]|(refine dX ?_ ?_<;>(intro _;try omega))|refine ey Ar iU ?_)
   exact⟨l.length - (i+1),by omega,i+1,p.az,by omega,rfl,(by first|exact kP2|trivial),(by first|exact FF|trivial),⟨λq=>absurd q ag⟩,(by first|exact kk1|trivial),by simp⟩
def acD{ae}{owners ao}{ep}{text}{l}(h1:cR ae owners=0)(h2:jS ae ep ao=ah)(h3:text.length<=65536):
 du ae owners ep ao text l=if DR ae owners l=ah then 0 else 420:=by
 unfold du;unfold jS at h2;rw[aG (by simp[h1]),aG (by rw[h2];simp),aG ag];unfold DR;by_cases q1:64<l.length
 ·rw[aF q1,cI (ag:¬l.length<=64)];simp
 rw[aG q1,bX (ag:l.length<=64)];cases q2:fm (-1) l with
 |false=>simp|true=>
  rw[aG bh];obtain⟨w,ok,e⟩:=fZ ae owners (l.map Pr.az);dsimp only;by_cases q3:l.length=0
  ·rw[aF (.inr (.inr q3)),cI (ag:¬1<=l.length)];simp
  ·rw[bX (ag:1<=l.length)];cases ok with
   |false=>simp|true=>
    by_cases q4:e=0
    ·subst q4;simp[q3]
    ·simp[q4]
def afH(h:ak)(ep:Int)(X Y C T L:AV)(ae:List (List Int))(owners ao:List Int)(text:List UInt8)(l:List Pr)(hx:RL X ae)(hy:IL Y owners)(hc:IL C ao)(ht:BL T text)(hp:PL L l)
 (cO:ae.length<=1000000) (dC:ao.length<=1000000) (eR:l.length<=1000000):
 ∃r h',W8.call 50 [.agg (aV ep X Y C),T,L] h=aa (r,h')/\r=.ret (im (du ae owners ep ao text l)):=by
 have bx:=vS (ep:=ep) hx hy hc;have c1:=aea X Y ae owners hx hy cO;have c2:=aiP ep X Y C ae owners ao hx hy hc dC;obtain⟨_,H2,c3,rfl⟩:=akO (h.push (aV ep X Y C)) ep X Y C L ae owners l bx hx hy hp cO eR;have b0:=a9 h (aV ep X Y C);have l0:aI al Gt (h.push (aV ep X Y C)) 27 (.ptr (.box h.boxes.length) 0)=aa (.agg (aV ep X Y C)):=DA b0 rfl;have l1:aI al Gt (h.push (aV ep X Y C)) 25 (.ptr (.box h.boxes.length) 1)=aa (.agg [X,Y]):=by rw[ja wT Hi b0 (lW rfl)];rfl
 have lt:=ht.ej;have kE:=aj.mk (@acD ae owners ao ep text l);have kE0:aj (cR ae owners≠0->du ae owners ep ao text l=cR ae owners):=⟨λq=>by unfold du;rw[aF q]⟩;have kE1:aj (cR ae owners=0->jS ae ep ao=av->du ae owners ep ao text l=380):=⟨λq1 q2=>by unfold jS at q2;unfold du;rw[aG (by simp[q1]),aF (by rw[q2];rfl)]⟩;have kE2:aj (cR ae owners=0->jS ae ep ao=ah->65536<text.length->du ae owners ep ao text l=2):=⟨λq1 q2 q3=>by unfold jS at q2;unfold du;rw[aG (by simp[q1]),aG (by rw[q2];simp),aF q3]⟩;generalize du ae owners ep ao text l=res at *
 obtain⟨H0,hH⟩:∃H0,h.push (aV ep X Y C)=H0:=⟨_,rfl⟩;rw[hH] at c3 l0 l1;clear b0 hx hy hc ht hp;generalize aV ep X Y C=K at *
 unfold im at c1;refine df rfl Tryz.func50 rfl ?_;by_cases q1:cR ae owners=0;rotate_left 1
 ·have kf:=aj.mk (kE0.out q1);have bI:decide (cR ae owners=0)=av:=cI q1;generalize cR ae owners=pe at *
  clear q1 kE kE0 kE1 kE2;refine bJ @GW @bL @hH @gd ?_;exact⟨_,_,rfl,by rw[kf.out];rfl⟩
 rw[q1] at c1;cases q2:jS ae ep ao with
 |false=>rw[q2] at c2;have kf:=aj.mk (kE1.out q1 q2);clear q1 q2 kE kE0 kE1 kE2;refine bJ @GW @bL @hH @gd ?_;exact⟨_,_,rfl,by rw[kf.out];rfl⟩
 |true=>
 rw[q2] at c2;by_cases q3:65536<text.length
 ·have q3I:(65536:Int)<((text.length:Nat):Int):=by omega
  have kf:=aj.mk (kE2.out q1 q2 q3);clear q1 q2 q3 kE kE0 kE1 kE2;refine bJ @GW @bL @hH @gd ?_;exact⟨_,_,rfl,by rw[kf.out];rfl⟩
 have q3I:¬(65536:Int)<((text.length:Nat):Int):=by omega
 have kf:=aj.mk (kE.out q1 q2 ag);clear q1 q2 q3 kE kE0 kE1 kE2;cases q4:DR ae owners l with
 |false=>rw[q4] at c3 kf;refine bJ @GW @bL @hH @gd ?_;exact⟨_,_,rfl,by rw[kf.out];rfl⟩
 |true=>rw[q4] at c3 kf;refine bJ @GW @bL @hH @gd ?_;exact⟨_,_,rfl,by rw[kf.out];rfl⟩
def Qr(ep:Int)(X Y C S W L N:AV):List AV:=[im ep,X,Y,C,S,W,L,N]
abbrev nl:AV:=.list .nil 0 []
def Zn:dm al 27=aa 4:=au
def ars:dm al 36=aa 1:=au
def ac5(p):fC al 29 1 [(0,.agg (bF p))]=aa (.list .tight 4 [bF p]):=au
structure TI(h H:ak)(X Y:AV)(T:List AV)(t:Tok):Prop where
 ext:Ext h H
 ok:cA H=ah
 can:dj h.tn H t
 pb:H.boxes[h.boxes.length]?=aa [X,Y]
 tb:H.boxes[h.boxes.length+1]?=aa T
section
variable {h H:ak} {X Y:AV} {T:List AV} {t:Tok}
def TI.app(b:TI h H X Y T t):TI h (H.app t) X Y T (.free H.tn):=by have gr:=Grown.one b.can b.ok b.ext.tn;exact⟨gr.ext b.ext (aJ _),gr.ok,gr.can,by rw[eu];exact b.pb,by rw[eu];exact b.tb⟩
def TI.push(b:TI h H X Y T t)(cs:List AV):TI h (H.push cs) X Y T t:=⟨b.ext.trans (.push _ _),b.ok,by rw[CA];exact b.can,bg b.pb,bg b.tb⟩
def TI.put(b:TI h H X Y T t)(T2:List AV):TI h (H.put (h.boxes.length+1) T2) X Y T2 t:=by have hl:=(aP.1 b.tb).1;exact⟨b.ext.fO ag _,b.ok,by rw[CB];exact b.can,by rw[cS ag];exact b.pb,ev hl⟩
def TI.nil(b:TI h H X Y T t):TI h H X Y T .nil:=⟨b.ext,b.ok,.inl rfl,b.pb,b.tb⟩
end
section
variable {H:ak} {b:Nat} {ep:Int} {X Y C S W L N x:AV}
def stS(hb:H.boxes[b]?=aa (Qr ep X Y C S W L N))(hx:x.b8=aa [x]):ct al H 36 (.ptr (.box b) 4) x=aa (H.put b (Qr ep X Y C x W L N)):=
 gL (off:=4) (cs:=Qr ep X Y C S W L N) (xs:=[x]) hx ars hb rfl (lW rfl)
end
structure asX(ae:List (List Int))(owners ao:List Int)(sh:List (Int × Int))(aw:List Int)(l:List Pr)(nn:List Int)(X Y C S W L N:AV):Prop where
 x:RL X ae
 y:IL Y owners
 c:IL C ao
 s:SL S sh
 w:IL W aw
 p:PL L l
 n:IL N nn
 wl:aw.length<=16
 nl:nn.length=2 * aw.length
 sl:sh.length<=1000
 inn:∀p∈sh,0<=p.1/\p.1<owners.length
 cl:ao.length<=1000000
 ll:l.length<=1000000
structure TB(h H:ak)(T:List AV)(t:Tok):Prop where
 ext:Ext h H
 ok:cA H=ah
 can:dj h.tn H t
 tb:H.boxes[h.boxes.length]?=aa T
section
variable {h H:ak} {T:List AV} {t:Tok}
def TB.app(b:TB h H T t):TB h (H.app t) T (.free H.tn):=by have gr:=Grown.one b.can b.ok b.ext.tn;exact⟨gr.ext b.ext (aJ _),gr.ok,gr.can,by rw[eu];exact b.tb⟩
def TB.push(b:TB h H T t)(cs:List AV):TB h (H.push cs) T t:=⟨b.ext.trans (.push _ _),b.ok,by rw[CA];exact b.can,bg b.tb⟩
def TB.start(bA:cA h=ah)(T:List AV):TB h (h.push T) T .nil:=⟨.push _ _,bA,.inl rfl,a9 _ _⟩
end
structure o9(aw N:List Int)(l:List Pr):Prop where
 len:l.length=aw.length
 nl:N.length=2 * aw.length
 ok:∀x∈N,okF x
 at_:∀i<aw.length,∃no:Int,0<=no/\no<4096/\l[i]?=aa ⟨ai aw i,no,(bD Gn (ai N (2 * i)):Nat),(bD Gn (ai N (2 * i+1)):Nat)⟩
def o9.uH{aw N}{l}(c:o9 aw N l){i}(h:i<aw.length):okF (ai N (2 * i))/\okF (ai N (2 * i+1)):=⟨c.ok _ (LI (by rw[c.nl];omega)),c.ok _ (LI (by rw[c.nl];omega))⟩
def o9.jR{aw N}{l}(c:o9 aw N l):l.map Pr.az=aw:=by
 refine p8 λi=>?_;rcases dI i aw.length with h|h
 ·obtain⟨no,-,-,q⟩:=c.at_ i h;rw[dW,q,eJ,fI h,aO h]
 ·rw[sZ (by rw[bu,c.len];exact h),sZ h]
def Im(n):bE ((bD Gn n:Nat):Int)=ah:=by have h:=zA p7 n;unfold bE;rw[dL,h,BT,decide_eq_true_eq];have:=(elem_iff.1 h).1;omega
def WS:∀{l:List Pr} {cE:Int},fW cE (l.map Pr.az)=ah->(∀p∈l,0<=p.no/\p.no<4096/\bE p.d=ah/\bE p.e=ah)->fm cE l=ah:=by
 intro l
 induction l with
 |nil=>intro _ _ _;rfl|cons p l ih=>intro cE h1 h2;rw[List.map_cons,fW] at h1;simp only[bC,decide_eq_true_eq] at h1;obtain⟨q1,q2,q3,q4⟩:=h2 p fR;rw[NT.fm,ih h1.2 λq hq=>h2 q (fi _ hq),q3,q4];simp only[BT,bC,decide_eq_true_eq];omega
def o9.mem{aw N}{l}(c:o9 aw N l){p}(hp:p∈l):∃i,∃(_:i<aw.length) (no:Int),0<=no/\no<4096/\l[i]?=aa p/\p=⟨ai aw i,no,(bD Gn (ai N (2 * i)):Nat),(bD Gn (ai N (2 * i+1)):Nat)⟩:=by obtain⟨i,hi⟩:=List.getElem?_of_mem hp;have cH:=(aP.1 hi).1;rw[c.len] at cH;obtain⟨no,n1,n2,q⟩:=c.at_ i cH;rw[hi] at q;injection q with q;exact⟨i,cH,no,n1,n2,hi,q⟩
def o9.JG{aw N}{l}(c:o9 aw N l)(hw:fW (-1) aw=ah):fm (-1) l=ah:=by refine WS (by rw[c.jR];exact hw) λp hp=>?_;obtain⟨i,hi,no,n1,n2,-,rfl⟩:=c.mem hp;exact⟨n1,n2,Im _,Im _⟩
def Bp(aw:List Int)(k:Int):Nat:=aw.idxOf k
def V0{aw}(hn:aw.Nodup){i}(h:i<aw.length):Bp aw (ai aw i)=i:=by unfold Bp;rw[fI h];exact hn.idxOf_getElem i h
def o9.ajt{aw N}{l}(c:o9 aw N l)(hw:fW (-1) aw=ah):Li l (λk=>ai N (2 * Bp aw k)) (λk=>ai N (2 * Bp aw k+1)):=by intro p hp;obtain⟨i,hi,no,n1,n2,-,rfl⟩:=c.mem hp;simp only[V0 (O7 hw).2 hi];exact⟨trivial,trivial⟩
section
variable {ae:List (List Int)} {owners aw N s y:List Int} {l:List Pr} {text:List UInt8} {ep:Int}
def Mh{ao:List Int}(c:o9 aw N l)(ha:fZ ae owners aw=(y,ah,0))(bH:aw≠[])(jQ:aw.length<=64)(ht:text.length<=65536)(he:0<=ep/\ep<=64)(hc:ao.length=bU ae)(hce:ao.all bE=ah):du ae owners ep ao text l=0:=by obtain⟨hp,hw,-⟩:=yy ha;unfold du;rw[aG (by simp[hp]),aG (by simp[hc,hce,he.1,he.2]),aG ag,aG (by rw[c.len];omega),aG (by rw[c.JG hw];simp),c.jR,ha];have:aw.length≠0:=λq=>bH (List.length_eq_zero_iff.1 q);simp[c.len,this]
def vp(hs:s.length=bU ae):(dG s).length=bU ae/\(dG s).all bE=ah:=⟨by unfold dG;rw[bu,hs],aeD⟩
def SZ(c:o9 aw N l)(ha:fZ ae owners aw=(y,ah,0))(bH:aw≠[])(jQ:aw.length<=64)(ht:text.length<=65536)(he:0<=ep/\ep<=64)(hs:s.length=bU ae){i:Nat}(hi:i<aw.length):
 oW ae owners ep (dG s) text l (ai aw i) (jn owners (gK ae s) (ai aw i)) (ai N (2 * i)) (ai N (2 * i+1))=
  (jZ ae owners (dG s) text l (ai aw i) (ai N (2 * i)) (ai N (2 * i+1)) (jn owners (gK ae s) (ai aw i)),0):=by
 obtain⟨hp,hw,-⟩:=yy ha;unfold oW;rw[aG (by rw[Mh c ha bH jQ ht he (vp hs).1 (vp hs).2];simp)];obtain⟨no,-,-,q⟩:=c.at_ i hi;have hm:=de q;exact ajJ hp hs (c.JG hw) hm rfl rfl (c.uH hi).1 (c.uH hi).2
def aeS(c:o9 aw N l)(ha:fZ ae owners aw=(y,ah,0))(bH:aw≠[])(jQ:aw.length<=64)(ht:text.length<=65536)(he:0<=ep/\ep<=64)(hs:s.length=bU ae){i:Nat}(hi:i<aw.length){z:Int}(hz:okF z):
 qx ae owners ep (dG s) text l (ai aw i) z=
  (decide (z=jZ ae owners (dG s) text l (ai aw i) (ai N (2 * i)) (ai N (2 * i+1)) (jn owners (gK ae s) (ai aw i))),0):=by
 obtain⟨hp,hw,-⟩:=yy ha;unfold qx;rw[aG (by rw[Mh c ha bH jQ ht he (vp hs).1 (vp hs).2];simp)];obtain⟨no,-,-,q⟩:=c.at_ i hi;have hm:=de q;have sG:=WR (c.JG hw) hm;unfold yP;rw[sG];simp only[xJ.2 hz,Bool.not_true,Bool.false_eq_true,if_false];rw[af0 hp hs rfl rfl hz]
def S0(c:o9 aw N l)(ha:fZ ae owners aw=(y,ah,0))(hs:s.length=bU ae):
 uU (ai (dG s) 0) text ((eQ (ai (dG s) 0) text l:Nat):Int) (((bO aw.length).map λi=>jZ ae owners (dG s) text l (ai aw i) (ai N (2 * i)) (ai N (2 * i+1)) (jn owners (gK ae s) (ai aw i))).foldl cP 0)=ah:=by
 obtain⟨hp,hw,-⟩:=yy ha;have N4:=YD (text:=text) (l:=l) (by rw[c.jR];exact ha) hs (c.ajt hw);rw[c.jR] at N4;have e:(aw.map λk=>jZ ae owners (dG s) text l k (ai N (2 * Bp aw k)) (ai N (2 * Bp aw k+1)) (jn owners (gK ae s) k))=(bO aw.length).map λi=>jZ ae owners (dG s) text l (ai aw i) (ai N (2 * i)) (ai N (2 * i+1)) (jn owners (gK ae s) (ai aw i)):=by
  refine p8 λi=>?_;rcases dI i aw.length with h|h
  ·have hx:=V0 (O7 hw).2 h;rw[dW,dW,List.getElem?_range h,aO h,eJ,eJ];rw[fI h] at hx ⊢;rw[hx]
  ·rw[sZ (by simpa using h),sZ (by simpa using h)]
 rw[e] at N4;exact N4
end
def R3:List (List Int):=[[1,1],[1,2],[1,3]]
def O3:List Int:=[0,1,2]
def S2:List Int:=[10,4]
def fh:List UInt8:=[116,101,120,116]
def pA:Pr:=⟨0,0,(bD Gn 5:Nat),(bD Gn 6:Nat)⟩
def pB:Pr:=⟨2,2,(bD Gn 7:Nat),(bD Gn 8:Nat)⟩
def yx:fZ R3 O3 [0,2]=([536870896,0,536870894],ah,0):=by decide+kernel
def abw:fZ R3 O3 [0]=([],av,0):=by decide+kernel
def Xm:cR R3 O3=0:=by decide+kernel
def ae7:th R3 O3 10 [4]=0:=by decide+kernel
def afa:qZ R3 S2=[(0,14),(1,18),(2,22)]:=by decide+kernel
def OZ:jn O3 (gK R3 S2) 0=[(0,14)]:=by decide+kernel
def WL:jn O3 (gK R3 S2) 2=[(2,22)]:=by decide+kernel
def CD:o9 [0,2] [5,6,7,8] [pA,pB]:=by
 refine⟨rfl,rfl,λx hx=>?_,λi hi=>?_⟩
 ·simp only[gO,tT,or_false] at hx;rcases hx with rfl|rfl|rfl|rfl<;>exact⟨aK,by decide⟩
 ·match i,hi with
  |0,_=>exact⟨0,by decide,by decide,rfl⟩
  |1,_=>exact⟨2,by decide,by decide,rfl⟩
  |i+2,hi=>simp at hi;omega
abbrev C3:List Int:=dG S2
abbrev b3(k:Int):Int:=((eC (ai C3 0) fh [pA,pB] k:Nat):Int)
abbrev qX:Int:=((eQ (ai C3 0) fh [pA,pB]:Nat):Int)
def LN:du R3 O3 0 C3 fh [pA,pB]=0:=Mh CD yx bh bh aK aK (vp (ae:=R3) (s:=S2) rfl).1 (vp (ae:=R3) (s:=S2) rfl).2
def Sc:du R3 O3 0 C3 fh []=420:=by unfold du;rw[aG (by rw[Xm];simp),aG (by rw[(vp (ae:=R3) (s:=S2) rfl).1,(vp (ae:=R3) (s:=S2) rfl).2];decide),aG aK,aG aK,aG aK];split;simp
def Sb:du R3 O3 0 C3 fh [pA]=420:=by
 have hw:fm (-1) [pA]=ah:=WS aK λp hp=>by rw[List.mem_singleton] at hp;subst hp;exact⟨aK,by decide,Im _,Im _⟩
 unfold du;rw[aG (by rw[Xm];simp),aG (by rw[(vp (ae:=R3) (s:=S2) rfl).1,(vp (ae:=R3) (s:=S2) rfl).2];decide),aG aK,aG aK,aG (by rw[hw];simp)];have e:[pA].map Pr.az=[0]:=rfl;rw[e,abw];simp
def x3:Int:=cP (cP 5 (b9 6 (b3 0))) (b9 qX 21)
def y3:Int:=cP (cP 7 (b9 8 (b3 2))) (b9 qX 1073741778)
def Zw:eF R3 O3 [pA,pB]=[536870896,0,536870894]:=by unfold eF;have e:[pA,pB].map Pr.az=[0,2]:=rfl;rw[e,yx]
def O5:jZ R3 O3 C3 fh [pA,pB] 0 5 6 [(0,14)]=x3:=by
 unfold jZ x3;rw[Zw];have e:jF [536870896,0,536870894] [(0,14)]=21:=by decide+kernel
 rw[e]
def WU:jZ R3 O3 C3 fh [pA,pB] 2 7 8 [(2,22)]=y3:=by
 unfold jZ y3;rw[Zw];have e:jF [536870896,0,536870894] [(2,22)]=1073741778:=by decide+kernel
 rw[e]
def ajE:oW R3 O3 0 C3 fh [pA,pB] 0 [(0,14)] 5 6=(x3,0):=by have h:=SZ (i:=0) (text:=fh) (ep:=0) (s:=S2) CD yx bh bh aK aK rfl aK;change oW R3 O3 0 C3 fh [pA,pB] 0 (jn O3 (gK R3 S2) 0) 5 6=(jZ R3 O3 C3 fh [pA,pB] 0 5 6 (jn O3 (gK R3 S2) 0),0) at h;rw[OZ,O5] at h;exact h
def ajG:oW R3 O3 0 C3 fh [pA,pB] 2 [(2,22)] 7 8=(y3,0):=by have h:=SZ (i:=1) (text:=fh) (ep:=0) (s:=S2) CD yx bh bh aK aK rfl aK;change oW R3 O3 0 C3 fh [pA,pB] 2 (jn O3 (gK R3 S2) 2) 7 8=(jZ R3 O3 C3 fh [pA,pB] 2 7 8 (jn O3 (gK R3 S2) 2),0) at h;rw[WL,WU] at h;exact h
def ajF:oW R3 O3 0 C3 fh [pA,pB] 1 [(1,18)] 7 8=(0,1):=by unfold oW xR;rw[aG (by rw[LN];simp)];have e:oV [pA,pB] 1=aq:=rfl;rw[e]
def afY:qx R3 O3 0 C3 fh [pA,pB] 0 1073741789=(av,1):=by unfold qx yP;rw[aG (by rw[LN];simp)];have e:oV [pA,pB] 0=aa pA:=rfl;rw[e];rfl
def QG:okF x3:=Fg _ _
def afX:qx R3 O3 0 C3 fh [pA,pB] 0 x3=(ah,0):=by have h:=aeS (i:=0) (text:=fh) (ep:=0) (s:=S2) CD yx bh bh aK aK rfl aK QG;change qx R3 O3 0 C3 fh [pA,pB] 0 x3=(decide (x3=jZ R3 O3 C3 fh [pA,pB] 0 5 6 (jn O3 (gK R3 S2) 0)),0) at h;rw[OZ,O5] at h;rw[h];simp
def Ea:Int:=cP (b9 (b3 0) 6) (cP (b9 (b3 2) 8) (cP 12 (b9 qX 10)))
def Zc:cP x3 y3=Ea:=by unfold x3 y3 Ea;generalize b3 0=a;generalize b3 2=b;generalize qX=c;simp only[w8,rh,Qi];omega
def asb:uU (ai C3 0) fh qX Ea=ah:=by
 have h:=S0 (text:=fh) (s:=S2) CD yx rfl;change uU (ai C3 0) fh qX (cP (cP 0 (jZ R3 O3 C3 fh [pA,pB] 0 5 6 (jn O3 (gK R3 S2) 0))) (jZ R3 O3 C3 fh [pA,pB] 2 7 8 (jn O3 (gK R3 S2) 2)))=ah at h;rw[OZ,WL,O5,WU] at h;have e:cP 0 x3=x3:=by rw[w8,Int.zero_add];exact Int.emod_eq_of_lt QG.1 QG.2
 rw[e,Zc] at h;exact h
def ak7:bE ((fN (ai C3 0) fh [pA,pB]:Nat):Int)=ah:=by have hw:fm (-1) [pA,pB]=ah:=CD.JG aK;have h:=Xi (c0:=ai C3 0) (text:=fh) hw;unfold bE;rw[dL,h,BT,decide_eq_true_eq];have:=(elem_iff.1 h).1;omega
def GI:Tryz.f15.results.toList=[.tmp 0]:=au
def ac2(a b):fC al 23 2 [(0,.v (.int .i64 a)),(1,.v (.int .i64 b))]=aa (.list .tight 1 (ints [a,b])):=au
def X3:AV:=.list .tight 1 [[.list .tight 1 (ints [1,1])],[.list .tight 1 (ints [1,2])],[.list .tight 1 (ints [1,3])]]
def Y3:AV:=.list .tight 1 (ints [0,1,2])
def Z3:AV:=.list .tight 1 (ints [4])
def T3:AV:=.list .held 1 (aW fh)
def vZ:RL X3 R3:=by
 refine⟨.tight,1,[.list .tight 1 (ints [1,1]),.list .tight 1 (ints [1,2]),.list .tight 1 (ints [1,3])],rfl,λ_=>rfl,rfl,λi a r ha hr=>?_⟩
 match i with
 |0=>injection ha with ha;injection hr with hr;subst ha;subst hr;exact⟨_,_,rfl,λ_=>rfl⟩
 |1=>injection ha with ha;injection hr with hr;subst ha;subst hr;exact⟨_,_,rfl,λ_=>rfl⟩
 |2=>injection ha with ha;injection hr with hr;subst ha;subst hr;exact⟨_,_,rfl,λ_=>rfl⟩
 |i+3=>simp at ha
def vQ:IL Y3 O3:=⟨_,_,rfl,λ_=>rfl⟩
def Ap:BL T3 fh:=⟨_,_,rfl,λ_=>rfl⟩
def blT:fC al 28 4 [(0,.v (.int .u8 116)),(1,.v (.int .u8 101)),(2,.v (.int .u8 120)),(3,.v (.int .u8 116))]=aa (.list .tight 1 (aW fh)):=au
def adx(h)(bA:cA h=ah)(es):∃H5 H6,h.fresh 1 es=(.list (.free h.tn) 1 es,H5)/\mK al H5 28 28 (.list (.free h.tn) 1 es)=aa (.list .held 1 es,H6)/\Ext h H6/\H6.boxes=h.boxes:=by
 have dY:alive {h with tn:=h.tn+1} h.tn=ah:=by
  unfold cA at bA;unfold alive;simp only[bC,decide_eq_true_eq,Bool.not_eq_true'];refine⟨Nat.lt_succ_self _,?_⟩;cases hc:h.dead.contains h.tn with|false=>rfl|true=>have:=dU.1 bA h.tn (by simpa using hc);simp at this
 have u28:=iO;have u5:al.underlying 5=aa (.int .u8):=au;refine⟨{h with tn:=h.tn+1},{h with tn:=h.tn+1,dead:=h.tn::h.dead},rfl,?_,?_,rfl⟩
 ·unfold mK;rw[u28];simp only[u5,dY,and_self,if_true]
 ·refine⟨λ_ _ q=>q,λ_ _ q=>q,EP _,λn hn q=>?_,λho=>?_⟩
  ·rcases gO.1 q with q|q
   ·omega
   ·exact q
  ·unfold cA at *
   rw[List.all_cons,bC];refine⟨bh,dU.2 λx hx=>?_⟩;have:=dU.1 ho x hx;simp at this ⊢;omega
def acu:mw al 25 [(0,X3),(1,Y3)]=aa (.agg [X3,Y3]):=au
def acX:fC al 22 3 [(0,.list .tight 1 (ints [1,1])),(1,.list .tight 1 (ints [1,2])),(2,.list .tight 1 (ints [1,3]))]=aa X3:=au
def ac0:fC al 23 3 [(0,.v (.int .i64 0)),(1,.v (.int .i64 1)),(2,.v (.int .i64 2))]=aa Y3:=au
def ac1:fC al 23 1 [(0,.v (.int .i64 4))]=aa Z3:=au
def ac6(p q):fC al 29 2 [(0,.agg (bF p)),(1,.agg (bF q))]=aa (.list .tight 4 (eS [p,q])):=au
def asE:(iN al 25).bind AV.b8=aa [nl,nl]:=au
def asF:(iN al 27).bind AV.b8=aa (aV 0 nl nl nl):=au
def acv{X Y C}{ae}{owners ao}(hx:RL X ae)(hy:IL Y owners)(hc:IL C ao):mw al 27 [(1,.agg [X,Y]),(2,C)]=aa (.agg (aV 0 X Y C)):=by obtain⟨_,_,_,rfl,-⟩:=hx.form;obtain⟨_,_,rfl,-⟩:=hy;obtain⟨_,_,rfl,-⟩:=hc;kernel_rfl
def aqa(k)(a b c):gC al 36 (.list k 2 (gZ [a,b,c])) aq (aa (.v (.int .i64 1))) aq=aa (.list (py k av av 1) 2 (gZ [a])):=au
def aqb(k)(a b c):gC al 36 (.list k 2 (gZ [a,b,c])) (aa (.v (.int .i64 2))) aq aq=aa (.list (py k ah av 1) 2 (gZ [c])):=au
def aqc(k)(a b c):gC al 36 (.list k 2 (gZ [a,b,c])) (aa (.v (.int .i64 1))) (aa (.v (.int .i64 2))) aq=aa (.list (py k av av 1) 2 (gZ [b])):=au
def acw(a b):mw al 50 [(0,im a),(1,im b)]=aa (.agg [im a,im b]):=au
def apB(h:ak)(bA:cA h=ah):∃r h',W6.call 15 [] h=aa (r,h')/\Ext h h'/\r=.ret (.v (.bool ah)):=by
 obtain⟨U,C,hU,hC,c1⟩:∃U C,SL U [(0,14),(1,18),(2,22)]/\IL C C3/\∀h,W6.call 44 [.agg [X3,Y3],im 10,Z3] h=aa (.ret (.tuple [U,C,im 0]),h):=by
  rcases ae9 X3 Y3 Z3 R3 O3 [4] 10 vZ vQ ⟨_,_,rfl,λ_=>rfl⟩ aK aK with⟨z,-⟩|⟨-,U,C,z1,z2,z3⟩
  ·exact absurd ae7 z
  ·exact⟨U,C,by have:=afa;unfold S2 at this;rw[this] at z1;exact z1,z2,z3⟩
 have c2:∀h,W6.call 45 [im 0,im 5,im 6] h=aa (.ret (.tuple [.agg (bF pA),.v (.bool ah)]),h):=WM 0 5 6 aK;have c3:∀h,W6.call 45 [im 2,im 7,im 8] h=aa (.ret (.tuple [.agg (bF pB),.v (.bool ah)]),h):=WM 2 7 8 aK;have CU:PL (.list .tight 4 (eS [pA,pB])) [pA,pB]:=⟨_,_,rfl,λ_=>rfl⟩;have Uc:PL (.list .tight 4 (eS [pA])) [pA]:=⟨_,_,rfl,λ_=>rfl⟩;have Ub:PL nl []:=⟨_,_,rfl,λq=>absurd rfl q⟩;have dC:C3.length<=1000000:=by decide
 obtain⟨Zb,IH,c4⟩:∃Z,IL Z [b3 0,b3 2]/\∀h,W6.call 17 [.agg (aV 0 X3 Y3 C),T3,.list .tight 4 (eS [pA,pB])] h=aa (.ret (.tuple [Z,im ((fN (ai C3 0) fh [pA,pB]:Nat):Int),im qX,im 0]),h):=by
  rcases H7 0 X3 Y3 C T3 _ R3 O3 C3 fh [pA,pB] vZ vQ hC Ap CU dC aK with⟨z,-⟩|⟨-,z⟩
  ·exact absurd LN z
  ·exact z
 have c5:∀h,W6.call 17 [.agg (aV 0 X3 Y3 C),T3,nl] h=aa (.ret (.tuple [nl,im 0,im 0,im 420]),h):=by
  rcases H7 0 X3 Y3 C T3 _ R3 O3 C3 fh [] vZ vQ hC Ap Ub dC aK with⟨-,z⟩|⟨z,-⟩
  ·rw[Sc] at z;exact z
  ·rw[Sc] at z;exact absurd z aK
 have c6:∀h,W6.call 17 [.agg (aV 0 X3 Y3 C),T3,.list .tight 4 (eS [pA])] h=aa (.ret (.tuple [nl,im 0,im 0,im 420]),h):=by
  rcases H7 0 X3 Y3 C T3 _ R3 O3 C3 fh [pA] vZ vQ hC Ap Uc dC aK with⟨-,z⟩|⟨z,-⟩
  ·rw[Sb] at z;exact z
  ·rw[Sb] at z;exact absurd z aK
 obtain⟨k,s,rfl,hs⟩:=hU;have lM:s=2:=hs bh;subst lM;have mk:=λ(t:Tok) (l:List (Int × Int)) (n d f:Int) (hl:l.length<=1000000)=>ajH 0 X3 Y3 C T3 _ R3 O3 C3 fh [pA,pB] vZ vQ hC Ap CU dC aK (.list t 2 (gZ l)) l n d f ⟨_,_,rfl,λ_=>rfl⟩ hl;have c7:=mk (py k av av 1) [(0,14)] 0 5 6 aK;have c8:=mk (py k ah av 1) [(2,22)] 2 7 8 aK;have c9:=mk (py k av av 1) [(1,18)] 1 7 8 aK;rw[ajE] at c7;rw[ajG] at c8;rw[ajF] at c9;have c10:=Tw 0 X3 Y3 C T3 _ R3 O3 C3 fh [pA,pB] vZ vQ hC Ap CU dC aK 0 1073741789;have c11:=Tw 0 X3 Y3 C T3 _ R3 O3 C3 fh [pA,pB] vZ vQ hC Ap CU dC aK 0 x3;rw[afY] at c10;rw[afX] at c11;have m1:=OK (b3 0) 6;have m2:=OK (b3 2) 8;have m3:=OK qX 10;have m4:=HR 12 (b9 qX 10);have m5:=HR (b9 (b3 2) 8) (cP 12 (b9 qX 10));have m6:∀h,W6.call 28 [im (b9 (b3 0) 6),im (cP (b9 (b3 2) 8) (cP 12 (b9 qX 10)))] h=aa (.ret (im Ea),h):=HR (b9 (b3 0) 6) (cP (b9 (b3 2) 8) (cP 12 (b9 qX 10)));have m7:=HR x3 y3;rw[Zc] at m7;have m8:=ar6 ((fN (ai C3 0) fh [pA,pB]:Nat):Int);rw[ak7] at m8;have m9:=asc (ai C3 0) qX Ea T3 fh Ap aK;rw[asb] at m9;have lnZ:ej al 23 Zb=aa (.v (.int .i64 2)):=IH.ej;have ix0:dy al 23 Zb (.v (.int .i64 0))=aa (.elem 1 (ints [b3 0,b3 2]) 0 0):=IH.ix (i:=0) bh;have ix1:dy al 23 Zb (.v (.int .i64 1))=aa (.elem 1 (ints [b3 0,b3 2]) 1 0):=IH.ix (i:=1) bh;have ld0:∀K:ak,aI al Gt K 3 (.elem 1 (ints [b3 0,b3 2]) 0 0)=aa (.v (.int .i64 (b3 0))):=λK=>e7 bh;have ld1:∀K:ak,aI al Gt K 3 (.elem 1 (ints [b3 0,b3 2]) 1 0)=aa (.v (.int .i64 (b3 2))):=λK=>e7 bh;have ixC:dy al 23 C (.v (.int .i64 0))=aa (.elem 1 (ints C3) 0 0):=hC.ix (i:=0) aK;have ldC:∀K:ak,aI al Gt K 3 (.elem 1 (ints C3) 0 0)=aa (.v (.int .i64 (ai C3 0))):=λK=>e7 aK;have bk:=acv vZ vQ hC;have bp:=ac6 pA pB;have bq:fC al 29 1 [(0,.agg (bF pA))]=aa (.list .tight 4 (eS [pA])):=ac5 pA;have sl1:=aqa k (0,14) (1,18) (2,22);have sl2:=aqb k (0,14) (1,18) (2,22);have sl3:=aqc k (0,14) (1,18) (2,22);have lnU:ej al 36 (.list k 2 (gZ [(0,14),(1,18),(2,22)]))=aa (.v (.int .i64 3)):=by have:SL (.list k 2 (gZ [(0,14),(1,18),(2,22)])) [(0,14),(1,18),(2,22)]:=⟨_,_,rfl,λ_=>rfl⟩;exact this.ej
 have kcell:(AV.agg (aV 0 X3 Y3 C)).b8=aa (aV 0 X3 Y3 C):=vS vZ vQ hC;have pcell:(AV.agg [X3,Y3]).b8=aa [X3,Y3]:=vX vZ vQ;obtain⟨H1,jr⟩:∃H1,h.push [X3,Y3]=H1:=⟨_,rfl⟩;obtain⟨H2,ni⟩:∃H2,H1.push (bF pA)=H2:=⟨_,rfl⟩;obtain⟨H3,vy⟩:∃H3,H2.push (bF pB)=H3:=⟨_,rfl⟩;obtain⟨H4,yS⟩:∃H4,H3.push (aV 0 X3 Y3 C)=H4:=⟨_,rfl⟩;have s1:ct al (h.push [nl,nl]) 25 (.ptr (.box h.boxes.length) 0) (.agg [X3,Y3])=aa H1:=by rw[<-jr];exact lq pcell au rfl rfl
 have s2:ct al (H1.push (bF ⟨0,0,0,0⟩)) 85 (.ptr (.box H1.boxes.length) 0) (.agg (bF pA))=aa H2:=by rw[<-ni];exact wB pA
 have s3:ct al (H2.push (bF ⟨0,0,0,0⟩)) 85 (.ptr (.box H2.boxes.length) 0) (.agg (bF pB))=aa H3:=by rw[<-vy];exact wB pB
 have s4:ct al (H3.push (aV 0 nl nl nl)) 27 (.ptr (.box H3.boxes.length) 0) (.agg (aV 0 X3 Y3 C))=aa H4:=by rw[<-yS];exact lq kcell Zn rfl rfl
 have b1:H1.boxes[h.boxes.length]?=aa [X3,Y3]:=by rw[<-jr];exact a9 _ _
 have b2:H2.boxes[H1.boxes.length]?=aa (bF pA):=by rw[<-ni];exact a9 _ _
 have b3':H3.boxes[H2.boxes.length]?=aa (bF pB):=by rw[<-vy];exact a9 _ _
 have b4:H4.boxes[H3.boxes.length]?=aa (aV 0 X3 Y3 C):=by rw[<-yS];exact a9 _ _
 have o2:∀{b:Nat} {cs:List AV},H1.boxes[b]?=aa cs->H2.boxes[b]?=aa cs:=λq=>by rw[<-ni];exact bg q
 have o3:∀{b:Nat} {cs:List AV},H2.boxes[b]?=aa cs->H3.boxes[b]?=aa cs:=λq=>by rw[<-vy];exact bg q
 have o4:∀{b:Nat} {cs:List AV},H3.boxes[b]?=aa cs->H4.boxes[b]?=aa cs:=λq=>by rw[<-yS];exact bg q
 have x4:Ext h H4:=by rw[<-yS,<-vy,<-ni,<-jr];exact(((Ext.push _ _).trans (.push _ _)).trans (.push _ _)).trans (.push _ _)
 obtain⟨H5,H6,f1,f2,x6,f3⟩:=adx H4 (x4.ok bA) (aW fh);have l0:aI al Gt H1 25 (.ptr (.box h.boxes.length) 0)=aa (.agg [X3,Y3]):=uB b1;have l1:aI al Gt H3 25 (.ptr (.box h.boxes.length) 0)=aa (.agg [X3,Y3]):=uB (o3 (o2 b1));have l2:aI al Gt H6 85 (.ptr (.box H1.boxes.length) 0)=aa (.agg (bF pA)):=vU (by rw[f3];exact o4 (o3 b2));have l3:aI al Gt H6 85 (.ptr (.box H2.boxes.length) 0)=aa (.agg (bF pB)):=vU (by rw[f3];exact o4 b3');have l4:aI al Gt H6 27 (.ptr (.box H3.boxes.length) 0)=aa (.agg (aV 0 X3 Y3 C)):=by rw[ja au Zn (by rw[f3];exact b4) (lW rfl)];rfl
 have kx:=aj.mk (x4.trans x6);have g1:=acu;have g2:=acX;have g3:=ac0;have g4:=ac1;have g5:=blT;unfold T3 at *
 clear CU Uc Ub dC hC IH mk hs kcell b1 b2 b3' b4 o2 o3 o4 x4 x6 f3 jr ni vy yS bA;generalize bF pA=rA at *
 generalize bF pB=rB at *
 generalize eS [pA,pB]=rAB at *
 generalize eS [pA]=rA1 at *
 generalize ((fN (ai C3 0) fh [pA,pB]:Nat):Int)=pt at *
 generalize b3 0=v0 at *
 generalize b3 2=v2 at *
 generalize qX=vc at *
 generalize ai C3 0=key at *
 generalize aW fh=tt at *
 generalize X3=X at *
 generalize Y3=Y at *
 generalize Z3=Z at *
 generalize x3=x at *
 generalize y3=y at *
 generalize Ea=sec at *
 generalize ([(0,14),(1,18),(2,22)]:List (Int × Int))=shs at *
 have bd:=acw vc sec;unfold im at *
 refine df rfl Tryz.func15 rfl ?_;refine bJ @GI @ac2 @asE (ar @asF @zJ) ?_;refine bG.gen λe0 aD bI cT cJ=>?_;have q0_0:e0.get 0=.v (.bool av):=by rw[aD];exact gS
 have q0_2:e0.get 2=.list k 2 (gZ shs):=by rw[aD];exact gS
 have q0_3:e0.get 3=C:=by rw[aD];exact gS
 have q0_5:e0.get 5=.ptr (.box H1.boxes.length) 0:=by rw[aD];exact gS
 have q0_7:e0.get 7=.ptr (.box H2.boxes.length) 0:=by rw[aD];exact gS
 have q0_9:e0.get 9=.ptr (.box H3.boxes.length) 0:=by rw[aD];exact gS
 have q0_10:e0.get 10=.list .held 1 tt:=by rw[aD];exact gS
 have q0_11:e0.get 11=Zb:=by rw[aD];exact gS
 have q0_12:e0.get 12=.v (.int .i64 pt):=by rw[aD];exact gS
 have q0_13:e0.get 13=.v (.int .i64 vc):=by rw[aD];exact gS
 have q0_14:e0.get 14=.v (.int .i64 0):=by rw[aD];exact gS
 have q0_18:e0.get 18=.v (.int .i64 420):=by rw[aD];exact gS
 have q0_22:e0.get 22=.v (.int .i64 420):=by rw[aD];exact gS
 have q0_d:e0.defers=[]:=by rw[bI];exact gS
 clear aD bI cT cJ c1 c2 c3 c4 c5 c6 s1 s2 s3 s4 l0 l1 f1 f2 g1 g2 g3 g4 g5 bk bq;refine ey yF au ?_;refine br @GI ?_;refine bG.gen λe1 ia eL tz xA=>?_;have q1_0:e1.get 0=.v (.bool av):=by rw[ia];exact gA
 have q1_2:e1.get 2=.list k 2 (gZ shs):=by rw[ia];exact gA
 have q1_3:e1.get 3=C:=by rw[ia];exact gA
 have q1_5:e1.get 5=.ptr (.box H1.boxes.length) 0:=by rw[ia];exact gA
 have q1_7:e1.get 7=.ptr (.box H2.boxes.length) 0:=by rw[ia];exact gA
 have q1_9:e1.get 9=.ptr (.box H3.boxes.length) 0:=by rw[ia];exact gA
 have q1_10:e1.get 10=.list .held 1 tt:=by rw[ia];exact gA
 have q1_11:e1.get 11=Zb:=by rw[ia];exact gA
 have q1_12:e1.get 12=.v (.int .i64 pt):=by rw[ia];exact gA
 have q1_13:e1.get 13=.v (.int .i64 vc):=by rw[ia];exact gA
 have q1_14:e1.get 14=.v (.int .i64 0):=by rw[ia];exact gA
 have q1_18:e1.get 18=.v (.int .i64 420):=by rw[ia];exact gA
 have q1_22:e1.get 22=.v (.int .i64 420):=by rw[ia];exact gA
 have q1_23:e1.get 23=.v (.int .i64 x):=by rw[ia];exact gA
 have q1_24:e1.get 24=.v (.int .i64 0):=by rw[ia];exact gA
 have q1_d:e1.defers=[]:=by rw[eL];exact gA
 clear ia eL tz xA q0_0 q0_2 q0_3 q0_5 q0_7 q0_9 q0_10 q0_11 q0_12 q0_13 q0_14 q0_18 q0_22 q0_d c7 sl1;refine ey yF au ?_;refine br @GI ?_;refine bG.gen λe2 eV gu mF iS=>?_;have q2_0:e2.get 0=.v (.bool av):=by rw[eV];exact gA
 have q2_2:e2.get 2=.list k 2 (gZ shs):=by rw[eV];exact gA
 have q2_3:e2.get 3=C:=by rw[eV];exact gA
 have q2_5:e2.get 5=.ptr (.box H1.boxes.length) 0:=by rw[eV];exact gA
 have q2_7:e2.get 7=.ptr (.box H2.boxes.length) 0:=by rw[eV];exact gA
 have q2_9:e2.get 9=.ptr (.box H3.boxes.length) 0:=by rw[eV];exact gA
 have q2_10:e2.get 10=.list .held 1 tt:=by rw[eV];exact gA
 have q2_11:e2.get 11=Zb:=by rw[eV];exact gA
 have q2_12:e2.get 12=.v (.int .i64 pt):=by rw[eV];exact gA
 have q2_13:e2.get 13=.v (.int .i64 vc):=by rw[eV];exact gA
 have q2_14:e2.get 14=.v (.int .i64 0):=by rw[eV];exact gA
 have q2_18:e2.get 18=.v (.int .i64 420):=by rw[eV];exact gA
 have q2_22:e2.get 22=.v (.int .i64 420):=by rw[eV];exact gA
 have q2_23:e2.get 23=.v (.int .i64 x):=by rw[eV];exact gA
 have q2_24:e2.get 24=.v (.int .i64 0):=by rw[eV];exact gA
 have q2_25:e2.get 25=.v (.int .i64 y):=by rw[eV];exact gA
 have q2_26:e2.get 26=.v (.int .i64 0):=by rw[eV];exact gA
 have q2_d:e2.defers=[]:=by rw[gu];exact gA
 clear eV gu mF iS q1_0 q1_2 q1_3 q1_5 q1_7 q1_9 q1_10 q1_11 q1_12 q1_13 q1_14 q1_18 q1_22 q1_23 q1_24 q1_d c8 sl2;refine ey yF au ?_;refine br @GI ?_;refine ey yF au ?_;refine br @GI ?_;exact⟨_,_,rfl,kx.out,rfl⟩
section
variable {ae:List (List Int)} {owners gB atw:List Int} {fX sm:Int} {text:List UInt8}
def akR(ae:List (List Int))(owners s aw N:List Int)(l:List Pr)(text:List UInt8)(i:Nat):Int:=
 jZ ae owners (dG s) text l (ai aw i) (ai N (2 * i)) (ai N (2 * i+1)) (jn owners (gK ae s) (ai aw i))
end
section
variable {ae:List (List Int)} {owners aw N s y z:List Int} {l:List Pr} {text:List UInt8} {ep:Int}
def akT(ae:List (List Int))(owners s aw N:List Int)(l:List Pr)(text:List UInt8):List Int:=(bO aw.length).map (akR ae owners s aw N l text)
structure QN(ae:List (List Int))(owners aw N s y:List Int)(l:List Pr)(text:List UInt8)(ep:Int):Prop where
 aeR:o9 aw N l
 acc:fZ ae owners aw=(y,ah,0)
 ne:aw≠[]
 wl:aw.length<=64
 tl:text.length<=65536
 ep:0<=ep/\ep<=64
 sl:s.length=bU ae
def QN.YD(c:QN ae owners aw N s y l text ep):uU (ai (dG s) 0) text ((eQ (ai (dG s) 0) text l:Nat):Int) ((akT ae owners s aw N l text).foldl cP 0)=ah:=
 S0 c.aeR c.acc c.sl
end
def Yo:Tryz.f95.results.toList=[.tmp 6]:=au
def ac9(a b)(t):fC al 94 3 [(0,.agg (aH 1 a [] .nil 0 [])),(1,.agg (aH 1 b [] .nil 0 [])),(2,.agg (aH 2 0 t .nil 0 []))]=aa (.list .tight 4 [aH 1 a [] .nil 0 [],aH 1 b [] .nil 0 [],aH 2 0 t .nil 0 []]):=au
def ahb(h:ak)(p key:Int)(T:AV)(text:List UInt8)(hp:0<=p/\p<=4611686018427387903)(hk:0<=key/\key<=4611686018427387903)(ht:BL T text)(hl:text.length<=1000000):
 ∃r h',W6.call 95 [im p,im key,T] h=aa (r,h')/\h'=h/\r=.ret (im ((sS p key text:Nat):Int)):=by
 have c1:=JP p;have c2:=JP key;have c3:=Yq text;have hr:ng [.int p,.int key,.text text] [aH 1 p [] .nil 0 [],aH 1 key [] .nil 0 [],aH 2 0 text .nil 0 []]:=by
  refine⟨rfl,λi v r hv hr=>?_⟩
  match i with
  |0=>injection hv with hv;injection hr with hr;subst hv;subst hr;exact .int p hp
  |1=>injection hv with hv;injection hr with hr;subst hv;subst hr;exact .int key hk
  |2=>injection hv with hv;injection hr with hr;subst hv;subst hr;exact .text text ag
  |i+3=>simp at hv
 have c4:=XJ hr rfl .tight bh;have hv:cG (.list [.int p,.int key,.text text]) (aH 3 0 [] (bR .tight) 4 [aH 1 p [] .nil 0 [],aH 1 key [] .nil 0 [],aH 2 0 text .nil 0 []]):=.list _ _ _ _ rfl (λ_=>rfl) bh hr.2;have hlen:=Qb p key text;obtain⟨t,c5⟩:=XG hv (by simp[fT,gF]) ag;have c6:=XI wk (dt (.list [.int p,.int key,.text text])) t ag aK;have hh:mb (fQ wk (dt (.list [.int p,.int key,.text text])))=sS p key text:=rfl;rw[hh] at c6;rw[show wk=[115,105,103,110] from rfl] at c6;have bk:=ac9 p key text;obtain⟨kt,st,rfl,bZ⟩:=ht;have cv:=λH=>Ii (k:=kt) bZ H;generalize sS p key text=n at *
 generalize aH 3 0 [] (bR .tight) 4 [aH 1 p [] .nil 0 [],aH 1 key [] .nil 0 [],aH 2 0 text .nil 0 []]=R at *
 generalize aH 1 p [] .nil 0 []=r0 at *
 generalize aH 1 key [] .nil 0 []=r1 at *
 generalize aH 2 0 text .nil 0 []=r2 at *
 generalize dt (.list [.int p,.int key,.text text])=eb at *
 clear hr hv hlen hh bZ;unfold sv at c3;unfold im at *
 refine df rfl Tryz.func95 rfl ?_;refine br @Yo ?_;refine ey yF au ?_;refine br @Yo ?_;exact⟨_,_,rfl,rfl,rfl⟩
def L9:List FuncId:=L8++[117,51,50,170,74]
noncomputable def Pl:FuncId->Option (List AV->ak->Option (AV × ak)):=pq W8 L9
noncomputable abbrev W9:=whole al Gt Pl
def Sz:o8 Pl L9:=wX
structure qL(X Y C T L:AV)(ae:List (List Int))(owners ao:List Int)(text:List UInt8)(l:List Pr):Prop where
 x:RL X ae
 y:IL Y owners
 c:IL C ao
 t:BL T text
 p:PL L l
structure B8(ao:List Int)(text:List UInt8)(l:List Pr):Prop where
 pos:0<ao.length
 c0:0<=ai ao 0/\ai ao 0<=4611686018427387903
 tl:text.length<=65536
 ll:l.length<=64
 ne:l≠[]
 ok:∀p∈l,Cp p
 el:∀p∈l,bE p.d=ah/\bE p.e=ah
section
variable {X Y C T L:AV} {ae:List (List Int)} {owners ao:List Int} {text:List UInt8} {l:List Pr}
def qL.hold(g:qL X Y C T L ae owners ao text l):qL (aC X) (aC Y) (aC C) (aC T) (aC L) ae owners ao text l/\aL 0 0 0 (aC X)=ah/\aL 0 0 0 (aC Y)=ah/\aL 0 0 0 (aC C)=ah/\aL 0 0 0 (aC T)=ah/\aL 0 0 0 (aC L)=ah:=by obtain⟨h1,h2⟩:=g.x.fF;obtain⟨h3,h4⟩:=g.y.hold;obtain⟨h5,h6⟩:=g.c.hold;obtain⟨h7,h8⟩:=g.t.fF;obtain⟨h9,AL⟩:=g.p.fF;exact⟨⟨h1,h3,h5,h7,h9⟩,h2,h4,h6,h8,AL⟩
def qL.cells(g:qL X Y C T L ae owners ao text l)(ep:Int):(AV.agg (aV ep X Y C)).b8=aa (aV ep X Y C):=vS g.x g.y g.c
end
section
variable (R:Rec)
def El:Prop:=∀ep X Y C T L ae owners ao text l az,qL X Y C T L ae owners ao text l->B8 ao text l->0<=az/\az<=4611686018427387903->∀h,R.call 51 [.agg (aV ep X Y C),T,L,im az] h=aa (.ret (im ((eC (ai ao 0) text l az:Nat):Int)),h)
def En:Prop:=∀ep X Y C T L ae owners ao text l,qL X Y C T L ae owners ao text l->ae.length<=1000000->ao.length<=1000000->l.length<=1000000->∀h,R.call 50 [.agg (aV ep X Y C),T,L] h=aa (.ret (im (du ae owners ep ao text l)),h)
def B1:Prop:=∀p key T text,0<=p/\p<=4611686018427387903->0<=key/\key<=4611686018427387903->BL T text->text.length<=1000000->∀h,R.call 95 [im p,im key,T] h=aa (.ret (im ((sS p key text:Nat):Int)),h)
end
section
variable {R:Rec} {L:List FuncId}
def El.up(hg:L.contains 51=ah)(c:El R):El (up R L):=λep X Y C T L' ae owners ao text l az g f hk=>by obtain⟨g2,f1,f2,f3,f4,f5⟩:=g.hold;exact bm (cd:=[.agg (aV ep (aC X) (aC Y) (aC C)),aC T,aC L',im az]) hg rfl (by simp[aV,im,aU,aL,f1,f2,f3,f4,f5]) (c ep _ _ _ _ _ ae owners ao text l az g2 f hk _) rfl rfl
def En.up(hg:L.contains 50=ah)(c:En R):En (up R L):=λep X Y C T L' ae owners ao text l g q1 q2 q3=>by obtain⟨g2,f1,f2,f3,f4,f5⟩:=g.hold;exact bm (cd:=[.agg (aV ep (aC X) (aC Y) (aC C)),aC T,aC L']) hg rfl (by simp[aV,aU,aL,f1,f2,f3,f4,f5]) (c ep _ _ _ _ _ ae owners ao text l g2 q1 q2 q3 _) rfl rfl
def B1.up(hg:L.contains 95=ah)(c:B1 R):B1 (up R L):=λp key T text hp hk ht hl=>by obtain⟨h1,h2⟩:=ht.fF;exact bm (cd:=[im p,im key,aC T]) hg rfl (by simp[im,aU,aL,h2]) (c p key _ text hp hk h1 hl _) rfl rfl
end
def ap0:B1 W7:=λp key T text hp hk ht hl=>by obtain⟨h1,h2⟩:=ht.fF;obtain⟨r,h',c,-,rfl⟩:=ahb ⟨[],[],0,[]⟩ p key _ text hp hk h1 hl;exact bm (L:=L7) (cd:=[im p,im key,aC T]) rfl rfl (by simp[im,aU,aL,h2]) c rfl rfl
def ap3:B1 W8:=ap0.up rfl
def ap5:B1 W9:=ap3.up rfl
def alp:zO W9 62:=alo.up rfl
def Wu:zN W9 73:=aj0.up rfl
def aeV:zP W9 19:=aeU.up rfl
def ad4:BV W9:=afR.up rfl
def SH:El W9:=λep X Y C T L' ae owners ao text l az g f hk=>by obtain⟨g2,f1,f2,f3,f4,f5⟩:=g.hold;obtain⟨r,h',c,-,rfl⟩:=acU ⟨[],[],0,[]⟩ ep _ _ _ _ _ ao text l az (g2.cells ep) g2.c g2.t g2.p f.pos f.c0 f.tl f.ll f.ne f.ok hk;exact bm (L:=L9) (cd:=[.agg (aV ep (aC X) (aC Y) (aC C)),aC T,aC L',im az]) rfl rfl (by simp[aV,im,aU,aL,f1,f2,f3,f4,f5]) c rfl rfl
def ad2:En W9:=λep X Y C T L' ae owners ao text l g q1 q2 q3=>by obtain⟨g2,f1,f2,f3,f4,f5⟩:=g.hold;obtain⟨r,h',c,rfl⟩:=afH ⟨[],[],0,[]⟩ ep _ _ _ _ _ ae owners ao text l g2.x g2.y g2.c g2.t g2.p q1 q2 q3;exact bm (L:=L9) (cd:=[.agg (aV ep (aC X) (aC Y) (aC C)),aC T,aC L']) rfl rfl (by simp[aV,aU,aL,f1,f2,f3,f4,f5]) c rfl rfl
def Kc:Tryz.f52.results.toList=[.tmp 6]:=by kernel_rfl
def Kd:Tryz.f53.results.toList=[.tmp 6]:=by kernel_rfl
def Xh(h:ak)(ep:Int)(X Y C T L:AV)(ae:List (List Int))(owners ao:List Int)(text:List UInt8)(l:List Pr)(g:qL X Y C T L ae owners ao text l)(f:B8 ao text l):
 ∃r h',W9.call 52 [.agg (aV ep X Y C),T,L] h=aa (r,h')/\h'=h.push (aV ep X Y C)/\r=.ret (im ((fN (ai ao 0) text l:Nat):Int)):=by
 have bx:=g.cells ep;have cb:=λk hk=>SH ep X Y C T L ae owners ao text l k g f hk;have b0:=a9 h (aV ep X Y C);have l0:aI al Gt (h.push (aV ep X Y C)) 27 (.ptr (.box h.boxes.length) 0)=aa (.agg (aV ep X Y C)):=DA b0 rfl;obtain⟨kp,sp,rfl,kL⟩:=g.p;have bB:sp=4:=kL f.ne;subst bB;have u29:=wS;have z85:=sU;have cH:=xV l;have kf:=aj.mk (ar f cb);have eR:=f.ll;have NQ:aj (fN (ai ao 0) text l=l.foldl (λx p=>x * jC (ai ao 0) text l p%P) 1):=⟨rfl⟩;generalize fN (ai ao 0) text l=pt at *
 obtain⟨H0,hH⟩:∃H0,h.push (aV ep X Y C)=H0:=⟨_,rfl⟩;rw[hH] at l0;rw[hH];clear b0 g f kL cb;generalize aV ep X Y C=K at *
 refine df rfl Tryz.func52 rfl ?_;refine cY @Kc @bL @hH ?_;refine bG.gen λe0 aD bI cT cJ=>?_;have f1:e0.get 1=T:=by rw[aD];exact gS
 have f2:e0.get 2=.list kp 4 (eS l):=by rw[aD];exact gS
 have f3:e0.get 3=.ptr (.box h.boxes.length) 0:=by rw[aD];exact gS
 have f7:e0.get 7=.v (.int .i64 (((l.take 0).foldl (λx p=>x * jC (ai ao 0) text l p%P) 1:Nat):Int)):=by rw[aD];exact gR
 have f8:e0.get 8=.v (.int .i64 (0:Nat)):=by rw[aD];exact gR
 have fd:e0.defers=[]:=by rw[bI];exact gS
 clear aD bI cT cJ bx hH;refine cq (λm e H=>∃i:Nat,i<=l.length/\m=l.length - i/\e.get 1=T/\e.get 2=.list kp 4 (eS l)/\e.get 3=.ptr (.box h.boxes.length) 0/\e.get 7=.v (.int .i64 (((l.take i).foldl (λx p=>x * jC (ai ao 0) text l p%P) 1:Nat):Int))/\e.get 8=.v (.int .i64 (i:Nat))/\e.defers=[]/\H=H0) ?_ l.length _ _ ?_;rotate_left 1
 ·exact⟨0,cr _,rfl,f1,f2,f3,f7,f8,fd,rfl⟩
 clear f1 f2 f3 f7 f8 fd;rintro m e H ⟨i,hi,rfl,g1,g2,g3,g7,g8,hd,rfl⟩;by_cases aA:i<l.length
 ·obtain⟨p,hv⟩:∃p,l[i]?=aa p:=⟨_,aO aA⟩;have oP:=de hv;have sG:=kf.out.1.ok p oP;obtain⟨fE,IK⟩:=kf.out.1.el p oP;obtain⟨ld0,-,ld2,kQ⟩:=DB (s:=4) hv;have c1:=kf.out.2 p.az (sG p.az bh);have c2:=alp p.e ((eC (ai ao 0) text l p.az:Nat):Int);have c3:=Wu p.d (fU p.e ((eC (ai ao 0) text l p.az:Nat):Int));have hN:jB p.d (fU p.e ((eC (ai ao 0) text l p.az:Nat):Int))=((jC (ai ao 0) text l p:Nat):Int):=by rw[AJ fE (yJ IK _),tj IK];unfold jC;rw[dL];unfold eC;rw[JI]
  rw[hN] at c3;have bH:=DL (c0:=ai ao 0) (text:=text) (l:=l) fE IK;have VN:elem ((l.take i).foldl (λx p=>x * jC (ai ao 0) text l p%P) 1)=ah:=
   Bx (λq hq=>DL (kf.out.1.el q (oa hq)).1 (kf.out.1.el q (oa hq)).2) yK
  have c4:=Wu (((l.take i).foldl (λx p=>x * jC (ai ao 0) text l p%P) 1:Nat):Int) ((jC (ai ao 0) text l p:Nat):Int);have bZ:jB (((l.take i).foldl (λx p=>x * jC (ai ao 0) text l p%P) 1:Nat):Int) ((jC (ai ao 0) text l p:Nat):Int)=(((l.take (i+1)).foldl (λx p=>x * jC (ai ao 0) text l p%P) 1:Nat):Int):=by rw[AJ (rZ VN) (rZ bH),fH hv,List.foldl_append,dL,dL];rfl
  rw[bZ] at c4;have fL:(i:Int)<(l.length:Int):=by omega
  clear hv oP sG fE IK hN bH VN bZ;generalize (((l.take i).foldl (λx p=>x * jC (ai ao 0) text l p%P) 1:Nat):Int)=x0 at *
  generalize ((jC (ai ao 0) text l p:Nat):Int)=nn at *
  generalize ((eC (ai ao 0) text l p.az:Nat):Int)=bn at *
  generalize fU p.e bn=pw at *
  unfold im at *
  refine cY @Kc @qi @a8 ?_
  repeat' (first|simp(maxSteps:=999999)(disch:=first|exact dZ|fail)only[gW,reduceIte,aX,aR,Kc,qi,a8, *]|(refine dX ?_ ?_<;>(intro _;try omega))|refine ey Sz iU ?_)
  exact⟨l.length - (i+1),by omega,i+1,by omega,rfl,by simp⟩
 ·have fK:i=l.length:=by omega
  subst fK;rw[fA,<-NQ.out] at g7;refine br @Kc ?_;exact⟨_,_,rfl,rfl,rfl⟩
def ak8{c0}{text}{l}(h:∀p∈l,bE p.d=ah/\bE p.e=ah):0<=((fN c0 text l:Nat):Int)/\((fN c0 text l:Nat):Int)<=4611686018427387903:=by
 have he:elem (fN c0 text l)=ah:=Bx (λp hp=>DL (h p hp).1 (h p hp).2) yK;have:=(elem_iff.1 he).2.1;have hP:P<=4611686018427387903:=by decide
 omega
def ad6(h:ak)(ep:Int)(X Y C T L:AV)(ae:List (List Int))(owners ao:List Int)(text:List UInt8)(l:List Pr)(g:qL X Y C T L ae owners ao text l)(f:B8 ao text l):
 ∃r h',W9.call 53 [.agg (aV ep X Y C),T,L] h=aa (r,h')/\Ext h h'/\r=.ret (im ((eQ (ai ao 0) text l:Nat):Int)):=by
 have bx:=g.cells ep;obtain⟨_,H2,c1,e2,rfl⟩:=Xh (h.push (aV ep X Y C)) ep X Y C T L ae owners ao text l g f;have c2:=ap5 ((fN (ai ao 0) text l:Nat):Int) (ai ao 0) T text (ak8 f.el) f.c0 g.t (by have:=f.tl;omega);have uq:sS ((fN (ai ao 0) text l:Nat):Int) (ai ao 0) text=eQ (ai ao 0) text l:=rfl;rw[uq] at c2;have b0:=a9 h (aV ep X Y C);have l0:aI al Gt (h.push (aV ep X Y C)) 27 (.ptr (.box h.boxes.length) 0)=aa (.agg (aV ep X Y C)):=DA b0 rfl;obtain⟨kc,sc,rfl,tB⟩:=g.c;have jW:=f.pos;have bB:sc=1:=tB (by intro e;rw[e] at jW;simp at jW);subst bB;have l2:aI al Gt (h.push (aV ep X Y (.list kc 1 (ints ao)))) 23 (.ptr (.box h.boxes.length) 3)=aa (.list kc 1 (ints ao)):=dg oI b0 rfl;have l3:aI al Gt H2 23 (.ptr (.box h.boxes.length) 3)=aa (.list kc 1 (ints ao)):=by rw[e2];exact dg oI (bg b0) rfl
 have l4:=λH=>e7 (H:=H) (l:=ao) (i:=0) (s:=1) jW;have X2:Ext h H2:=by rw[e2];exact(Ext.push _ _).trans (.push _ _)
 have u23:=dJ;have z3:=fP;have cH:=dn ao;have I9:(0:Int)<(ao.length:Int):=by omega
 have z0:(0:Int).toNat=0:=rfl;have svs:=GZ kc 1 ao;clear b0 e2 uq tB jW g f;generalize ((eQ (ai ao 0) text l:Nat):Int)=ch at *
 generalize ((fN (ai ao 0) text l:Nat):Int)=pt at *
 generalize ai ao 0=c0 at *
 obtain⟨H0,hH⟩:∃H0,h.push (aV ep X Y (.list kc 1 (ints ao)))=H0:=⟨_,rfl⟩;rw[hH] at l0 l2 c1;generalize aV ep X Y (.list kc 1 (ints ao))=K at *
 unfold im at *
 refine df rfl Tryz.func53 rfl ?_;refine cY @Kd @bL @hH ?_;refine mW [(3,5),(3,7)] Sz iU (λp hp=>?_) ?_
 ·simp only[gO,tT,or_false] at hp;rcases hp with rfl|rfl
  ·refine qH (x:=.ptr (.box h.boxes.length) 3) (v:=.list kc 1 (ints ao)) iU rfl rfl rfl iU (svs) ?_ ?_<;>(simp only[hJ,fB];exact mP @Kd @jk @a8 @and_self)
  ·refine qH (x:=.elem 1 (ints ao) 0 0) (v:=.v (.int .i64 c0)) iU rfl rfl rfl iU (by simp[eT,mj]) ?_ ?_<;>(simp only[hJ,fB];exact mP @Kd @jk @a8 @and_self)
 refine cY @Kd @jk @a8 ?_;exact⟨_,_,rfl,X2,rfl⟩
def Cd:List FuncId:=L9++[52,53,131]
noncomputable def Pe:FuncId->Option (List AV->ak->Option (AV × ak)):=pq W9 Cd
noncomputable abbrev tV:=whole al Gt Pe
def Sx:o8 Pe Cd:=wX
section
variable (R:Rec)
def ZZ:Prop:=∀ep X Y C T L ae owners ao text l,qL X Y C T L ae owners ao text l->B8 ao text l->∀h,R.call 52 [.agg (aV ep X Y C),T,L] h=aa (.ret (im ((fN (ai ao 0) text l:Nat):Int)),h)
def ZY:Prop:=∀ep X Y C T L ae owners ao text l,qL X Y C T L ae owners ao text l->B8 ao text l->∀h,R.call 53 [.agg (aV ep X Y C),T,L] h=aa (.ret (im ((eQ (ai ao 0) text l:Nat):Int)),h)
end
def aeQ:ZZ tV:=λep X Y C T L' ae owners ao text l g f=>by obtain⟨g2,f1,f2,f3,f4,f5⟩:=g.hold;obtain⟨r,h',c,-,rfl⟩:=Xh ⟨[],[],0,[]⟩ ep _ _ _ _ _ ae owners ao text l g2 f;exact bm (L:=Cd) (cd:=[.agg (aV ep (aC X) (aC Y) (aC C)),aC T,aC L']) rfl rfl (by simp[aV,aU,aL,f1,f2,f3,f4,f5]) c rfl rfl
def adY:ZY tV:=λep X Y C T L' ae owners ao text l g f=>by obtain⟨g2,f1,f2,f3,f4,f5⟩:=g.hold;obtain⟨r,h',c,-,rfl⟩:=ad6 ⟨[],[],0,[]⟩ ep _ _ _ _ _ ae owners ao text l g2 f;exact bm (L:=Cd) (cd:=[.agg (aV ep (aC X) (aC Y) (aC C)),aC T,aC L']) rfl rfl (by simp[aV,aU,aL,f1,f2,f3,f4,f5]) c rfl rfl
def adT:El tV:=SH.up rfl
def ad1:En tV:=ad2.up rfl
def S1:zP tV 19:=aeV.up rfl
def ad3:BV tV:=ad4.up rfl
def Mn{x}(h:bE x=ah):0<=x/\x<=4611686018427387903:=by
 have h1:=(elem_iff.1 (Av h)).2.1;unfold bE at h;simp only[bC,decide_eq_true_eq] at h;have hP:P<=4611686018427387903:=by decide
 have:=h.1;omega
def afU{ae}{owners ao}{ep}{text}{l}(h:du ae owners ep ao text l=0):B8 ao text l:=by
 obtain⟨h1,h2,h3,h4,h5,h6⟩:=E7 h;obtain⟨n1,-⟩:=ud h1;have hm:=xW h6;refine⟨ag,Mn ?_,h5,h4,?_,λp hp n hn=>?_,λp hp=>⟨(hm p hp).2.2.2.2.1,(hm p hp).2.2.2.2.2⟩⟩
 ·refine dU.1 h3 _ ?_;rw[fI (ag:0<ao.length)];exact List.getElem_mem _
 ·rintro rfl;unfold du at h;rw[aG (by simp[h1])] at h;split at h
  ·cases h
  ·rw[aG ag,aG bh] at h;simp[NT.fm] at h
 ·obtain⟨q1,q2,q3,q4,q5,q6⟩:=hm p hp;simp only[gO,tT,or_false] at hn;rcases hn with rfl|rfl|rfl|rfl
  ·omega
  ·omega
  ·exact Mn q5
  ·exact Mn q6
def DZ:Tryz.f18.results.toList=[.tmp 6,.tmp 7,.tmp 8,.tmp 9]:=by kernel_rfl
def al5(h:ak)(bA:cA h=ah)(ep:Int)(X Y C T L:AV)(ae:List (List Int))(owners ao:List Int)(text:List UInt8)(l:List Pr)(g:qL X Y C T L ae owners ao text l)(cO:ae.length<=1000000)(dC:ao.length<=1000000)(eR:l.length<=1000000):
 ∃r h',tV.call 18 [.agg (aV ep X Y C),T,L] h=aa (r,h')/\Ext h h'/\
  ((du ae owners ep ao text l≠0/\r=.ret (.tuple [.list .nil 0 [],im 0,im 0,im (du ae owners ep ao text l)]))∨
  (du ae owners ep ao text l=0/\∃t,r=.ret (.tuple [.list t 1 (ints (oK (ai ao 0) text l)),im ((fN (ai ao 0) text l:Nat):Int),im ((eQ (ai ao 0) text l:Nat):Int),im 0]))):=by
 have bx:=g.cells ep;have c1:=ad1 ep X Y C T L ae owners ao text l g cO dC eR;have b0:=a9 h (aV ep X Y C);have l0:aI al Gt (h.push (aV ep X Y C)) 27 (.ptr (.box h.boxes.length) 0)=aa (.agg (aV ep X Y C)):=DA b0 rfl;have kX:=aj.mk (Ext.push h (aV ep X Y C));unfold im at c1;refine df rfl Tryz.func18 rfl ?_;by_cases q1:du ae owners ep ao text l=0;rotate_left 1
 ·have bI:decide (du ae owners ep ao text l=0)=av:=cI q1;have kq:=aj.mk q1;obtain⟨H0,hH⟩:∃H0,h.push (aV ep X Y C)=H0:=⟨_,rfl⟩;rw[hH] at l0 kX;generalize du ae owners ep ao text l=be at *
  clear q1 b0 g;generalize aV ep X Y C=K at *
  refine cY @DZ @bL @hH ?_;exact⟨_,_,rfl,kX.out,.inl ⟨kq.out,rfl⟩⟩
 have f:=afU q1;have kq:=aj.mk q1;rw[q1] at c1;have c2:=aeQ ep X Y C T L ae owners ao text l g f;have c3:=adY ep X Y C T L ae owners ao text l g f;have cb:=aj.mk λk hk=>adT ep X Y C T L ae owners ao text l k g f hk;obtain⟨kp,sp,rfl,kL⟩:=g.p;have bB:sp=4:=kL f.ne;subst bB;have u29:=wS;have u23:=dJ;have z85:=sU;have cH:=xV l;have bn:fC al 23 0 []=aa (.list .tight 1 []):=by kernel_rfl
 have kf:=aj.mk f;have kok:aj (cA (h.push (aV ep X Y C))=ah):=⟨bA⟩;have kB:=aj.mk b0;have kKl:aj ((aV ep X Y C).length=4):=⟨rfl⟩;have tw:aj (oK (ai ao 0) text l=l.map λp=>((eC (ai ao 0) text l p.az:Nat):Int)):=⟨rfl⟩;clear q1 b0 g f kL;generalize oK (ai ao 0) text l=LU at *
 generalize ((eQ (ai ao 0) text l:Nat):Int)=ch at *
 generalize ((fN (ai ao 0) text l:Nat):Int)=pt at *
 generalize du ae owners ep ao text l=be at *
 obtain⟨H0,hH⟩:∃H0,h.push (aV ep X Y C)=H0:=⟨_,rfl⟩;rw[hH] at l0 kX kok kB;generalize aV ep X Y C=K at *
 unfold im at c2 c3;refine cY @DZ @bL @hH ?_;refine bG.gen λe0 aD bI cT cJ=>?_;have f1:e0.get 1=T:=by rw[aD];exact gS
 have f2:e0.get 2=.list kp 4 (eS l):=by rw[aD];exact gS
 have f3:e0.get 3=.ptr (.box h.boxes.length) 0:=by rw[aD];exact gS
 have f11:e0.get 11=.list .tight 1 (ints ((l.take 0).map λp=>((eC (ai ao 0) text l p.az:Nat):Int))):=by rw[aD];exact gR
 have f12:e0.get 12=.v (.int .i64 (0:Nat)):=by rw[aD];exact gR
 have fd:e0.defers=[]:=by rw[bI];exact gS
 clear aD bI cT cJ bx hH bn l0 c1;refine cq (λm e H=>∃(i:Nat) (t:Tok),i<=l.length/\m=l.length - i/\aj (Ext h H/\cA H=ah/\dj h.tn H t/\H.boxes[h.boxes.length]?=aa K)/\e.get 1=T/\e.get 2=.list kp 4 (eS l)/\e.get 3=.ptr (.box h.boxes.length) 0/\e.get 11=.list t 1 (ints ((l.take i).map λp=>((eC (ai ao 0) text l p.az:Nat):Int)))/\e.get 12=.v (.int .i64 (i:Nat))/\e.defers=[]) ?_ l.length _ _ ?_;rotate_left 1
 ·exact⟨0,.tight,cr _,rfl,⟨kX.out,kok.out,.inr (.inl rfl),kB.out⟩,f1,f2,f3,f11,f12,fd⟩
 clear f1 f2 f3 f11 f12 fd kX kok kB;rintro m e H ⟨i,t,hi,rfl,kM,g1,g2,g3,g11,g12,hd⟩;have l0:=DA kM.out.2.2.2 kKl.out;by_cases aA:i<l.length
 ·obtain⟨p,hv⟩:∃p,l[i]?=aa p:=⟨_,aO aA⟩;have sG:=kf.out.ok p (de hv);obtain⟨ld0,-,-,-⟩:=DB (s:=4) hv;have cbb:=cb.out p.az (sG p.az bh);have bl:=po ((eC (ai ao 0) text l p.az:Nat):Int);have ap:=tY (H:=H) (x:=((eC (ai ao 0) text l p.az:Nat):Int)) (es:=(l.take i).map λp=>((eC (ai ao 0) text l p.az:Nat):Int)) (sz:=1) (by rw[bu,eP];omega) (.inl rfl) kM.out.2.2.1;have iH:((l.take i).map λp=>((eC (ai ao 0) text l p.az:Nat):Int))++[((eC (ai ao 0) text l p.az:Nat):Int)]=(l.take (i+1)).map λp=>((eC (ai ao 0) text l p.az:Nat):Int):=by rw[fH hv,lU];rfl
  rw[iH] at ap;have hG:=Grown.one kM.out.2.2.1 kM.out.2.1 kM.out.1.tn;have kM2:aj (Ext h (H.app t)/\cA (H.app t)=ah/\dj h.tn (H.app t) (.free H.tn)/\(H.app t).boxes[h.boxes.length]?=aa K):=⟨hG.ext kM.out.1 (aJ _),hG.ok,hG.can,by rw[eu];exact kM.out.2.2.2⟩;have fL:(i:Int)<(l.length:Int):=by omega
  clear hv sG iH hG kM;unfold im at cbb;refine cY @DZ @qi @a8 ?_
  repeat' (first|simp(maxSteps:=999999)(disch:=first|exact dZ|fail)only[gW,reduceIte,aX,aR,DZ,qi,a8, *]|(refine dX ?_ ?_<;>(intro _;try omega))|refine ey Sx iU ?_)
  exact⟨l.length - (i+1),by omega,i+1,.free H.tn,by omega,rfl,(by first|exact kM2|trivial),by simp⟩
 ·have fK:i=l.length:=by omega
  subst fK;rw[fA,<-tw.out] at g11;refine br @DZ ?_
  repeat' (first|simp(maxSteps:=999999)(disch:=first|exact dZ|fail)only[gW,reduceIte,aX,aR,DZ, *]|(refine dX ?_ ?_<;>(intro _;try omega))|refine ey Sx iU ?_)
  exact⟨_,_,rfl,kM.out.1,.inr ⟨kq.out,t,rfl⟩⟩
section
variable (R:Rec)
def BZ:Prop:=∀h,R.call 15 [] h=aa (.ret (.v (.bool ah)),h)
def Em:Prop:=∀ep X Y C T L ae owners ao text l,qL X Y C T L ae owners ao text l->ao.length<=1000000->l.length<=1000000->
 (du ae owners ep ao text l≠0/\∀h,R.call 17 [.agg (aV ep X Y C),T,L] h=aa (.ret (.tuple [.list .nil 0 [],im 0,im 0,im (du ae owners ep ao text l)]),h))∨
  (du ae owners ep ao text l=0/\∃Z,IL Z (oK (ai ao 0) text l)/\∀h,R.call 17 [.agg (aV ep X Y C),T,L] h=aa (.ret (.tuple [Z,im ((fN (ai ao 0) text l:Nat):Int),im ((eQ (ai ao 0) text l:Nat):Int),im 0]),h))
end
section
variable {R:Rec} {L:List FuncId}
def BZ.up(hg:L.contains 15=ah)(c:BZ R):BZ (up R L):=bm hg rfl rfl (c _) rfl rfl
def Em.up(hg:L.contains 17=ah)(c:Em R):Em (up R L):=λep X Y C T L' ae owners ao text l g q1 q2=>by
 obtain⟨g2,f1,f2,f3,f4,f5⟩:=g.hold;rcases c ep _ _ _ _ _ ae owners ao text l g2 q1 q2 with⟨q,c⟩|⟨q,Z,hZ,c⟩
 ·exact .inl ⟨q,bm (cd:=[.agg (aV ep (aC X) (aC Y) (aC C)),aC T,aC L']) hg rfl (by simp[aV,aU,aL,f1,f2,f3,f4,f5]) (c _) rfl rfl⟩
 ·obtain⟨z1,z2⟩:=hZ.Of ⟨[],[],0,[]⟩;exact .inr ⟨q,_,z1,bm (cd:=[.agg (aV ep (aC X) (aC Y) (aC C)),aC T,aC L']) hg rfl (by simp[aV,aU,aL,f1,f2,f3,f4,f5]) (c _) rfl (by simp[im,sL,aL,aU,z2,ju])⟩
end
def aeX:BZ W7:=by obtain⟨r,h',c,-,rfl⟩:=apB ⟨[],[],0,[]⟩ rfl;exact bm (L:=L7) rfl rfl rfl c rfl rfl
def aeW:BZ tV:=((aeX.up (L:=L8) rfl).up (L:=L9) rfl).up (L:=Cd) rfl
def adU:Em tV:=(((Em.up (R:=W6) (L:=L7) rfl λep X Y C T L ae owners ao text l g q1 q2=>H7 ep X Y C T L ae owners ao text l g.x g.y g.c g.t g.p q1 q2).up (L:=L8) rfl).up (L:=L9) rfl).up (L:=Cd) rfl
def PO:Tryz.f3.results.toList=[.tmp 6]:=by kernel_rfl
def aiR(h:ak)(bA:cA h=ah)(ep:Int)(X Y C T L:AV)(ae:List (List Int))(owners ao:List Int)(text:List UInt8)(l:List Pr)(g:qL X Y C T L ae owners ao text l):
 ∃r h',tV.call 3 [.agg (aV ep X Y C),T,L] h=aa (r,h')/\r=.ret (.v (.bool ah)):=by
 have bx:=g.cells ep;have cs:=aeW;obtain⟨b,hb,cf⟩:=ad3 ep X Y C T L ae owners ao text l g.x g.y g.c g.t g.p;have l0:=DA (a9 h (aV ep X Y C)) rfl;unfold BZ at cs;cases b with
 |false=>
  clear g hb;obtain⟨H0,hH⟩:∃H0,h.push (aV ep X Y C)=H0:=⟨_,rfl⟩;rw[hH] at l0;generalize aV ep X Y C=K at *
  refine df rfl Cq rfl ?_;refine cY @PO @bL @hH ?_;exact⟨_,_,rfl,rfl⟩
 |true=>
 obtain⟨b1,b2,b3,b4,b5⟩:=hb rfl;obtain⟨_,H2,c18,-,post⟩:=al5 (h.push (aV ep X Y C)) bA ep X Y C T L ae owners ao text l g ag ag ag;have c17:=adU ep X Y C T L ae owners ao text l g ag ag;rcases c17 with⟨q,c17⟩|⟨q,Z,hZ,c17⟩
 ·rcases post with⟨-,rfl⟩|⟨q2,-⟩;rotate_left 1
  ·exact absurd q2 q
  have c19:=S1 (.list .nil 0 []) (.list .nil 0 []) [] [] ⟨_,_,rfl,λq=>absurd rfl q⟩ ⟨_,_,rfl,λq=>absurd rfl q⟩ bh bh;rw[bX rfl] at c19;clear g hb q;obtain⟨H0,hH⟩:∃H0,h.push (aV ep X Y C)=H0:=⟨_,rfl⟩;rw[hH] at l0 c18;generalize du ae owners ep ao text l=be at *
  generalize aV ep X Y C=K at *
  unfold im at *
  refine df rfl Cq rfl ?_;refine cY @PO @bL @hH ?_;exact⟨_,_,rfl,by simp⟩
 ·rcases post with⟨q2,-⟩|⟨-,t,rfl⟩
  ·exact absurd q q2
  have js:(oK (ai ao 0) text l).length<=1000000:=by unfold oK;rw[bu];omega
  have c19:=S1 Z (.list t 1 (ints (oK (ai ao 0) text l))) _ _ hZ ⟨_,_,rfl,λ_=>rfl⟩ js js;rw[bX rfl] at c19;clear g hb q hZ js;obtain⟨H0,hH⟩:∃H0,h.push (aV ep X Y C)=H0:=⟨_,rfl⟩;rw[hH] at l0 c18;generalize ((fN (ai ao 0) text l:Nat):Int)=pt at *
  generalize ((eQ (ai ao 0) text l:Nat):Int)=ch at *
  generalize ints (oK (ai ao 0) text l)=bf at *
  generalize aV ep X Y C=K at *
  unfold im at *
  refine df rfl Cq rfl ?_;refine cY @PO @bL @hH ?_;exact⟨_,_,rfl,by simp⟩
end Go.Proofs.YtnfciiiohoafaaaGreatDoor
end
section
namespace Go.Proofs.YtnfciiiohoafaaaGreatDoor
open Go.AE Go.NT Go.RowKit
def apI:ownKnob al.godebug=aq:=au
def apG:(al.funcs.all λfn=>match fn.body with|some c=>codeOk fn.ntmps c|none=>ah)=ah:=au
def apH : (al.funcs.all λfn => !(fn.name == "runtime.NumGoroutine")) = ah := au
def uT:Prog al:=⟨λg fn h=>by
 have:=KK.1 apH fn (ZI h);simpa using this,au,λg fn c h hb=>by
 have:=KK.1 apG fn (ZI h);simpa [hb] using this⟩
def vt:∀g cs,Gt g=aa cs->aU 0 0 0 cs=ah:=by
 intro g cs h;unfold Gt at h;split at h
 ·injection h with h;subst h;kernel_rfl
 ·split at h
  ·injection h with h;subst h;kernel_rfl
  ·split at h
   ·injection h with h;subst h;rfl
   ·cases h
noncomputable def adh(L:List FuncId):Bool:=L.all λg=>match al.funcs[g]? with|some fn=>fn.body.isSome|none=>av
def td{L}(h:adh L=ah):∀g∈L,∃fn,al.funcs[g]?=aa fn/\fn.body.isSome=ah:=by
 intro g hg;have:=dU.1 h g hg;split at this
 ·rename_i fn hf;exact⟨fn,hf,this⟩
 ·cases this
def tU(p:FuncId->Option (List AV->ak->Option (AV × ak))):Prop:=∀V g q,p g=aa q->rV al Gt V g q
def ala:tU prims:=λV g q h=>by cases h
def alb:tU Pd:=wV uT vt ala (td au)
def ald:tU Pf:=wV uT vt alb (td au)
def ale:tU Pg:=wV uT vt ald (td au)
def alf:tU DT:=wV uT vt ale (td au)
def alg:tU DU:=ajR uT vt alf (td au) (td au)
def alh:tU Ph:=wV uT vt alg (td au)
def Hd:List Int:=NT.start.map λv=>((v.toNat:Nat):Int)
def Gl:List Int:=NT.Dz.map λ(n:Nat)=>(n:Int)
def Zq{K}{l:List Int}:aM K (l.map λn=>AV.v (.int .u32 n)) (l.map λn=>Value.int .u32 n):=by
 induction l with
 |nil=>exact .nil|cons n l ih=>exact .cons _ _ _ _ (.v _ rfl) ih
def agI{W}(h:laidMetH al Rows.partialSignsRow.laid W):∀g cs,Gt g=aa cs->∃cells,aM (aS.init W) cs cells/\∀(j:Nat) (c:Value),cells[j]?=aa c->W.cell? ⟨g,j,aq⟩=aa c:=by
 rw[MakeChecks.laidMetH_plain _ _ _ au] at h;have e1:(Lib.tabData .u32 Hd:DataW Unit)=Rows.laid_signatory_digest_start:=au;have e2:(Lib.tabData .u32 Gl:DataW Unit)=Rows.laid_signatory_digest_numbers:=au;intro g cs hg;unfold Gt at hg;split at hg
 ·rename_i h0;injection hg with hg;subst hg;subst h0;have t := Lib.tabIs_of_head (n := 8) (g := 0) (t := 229) (e := 42) (zs := Hd) (k := .u32) (name := "signatory/digest.start") au au au au au au (by rw [e1]; exact h);refine⟨Hd.map λn=>Value.int .u32 n,?_,λj c hc=>?_⟩
  ·have:Qg=Hd.map λn=>AV.v (.int .u32 n):=(by unfold Qg Hd aN;rw[zU];rfl);rw[this];exact Zq
  ·rw[dW,dh] at hc;obtain⟨n,hn,rfl⟩:=hc;have hl:=(aP.1 hn).1;rw[t.cell au j hl,dP,hn];rfl
 ·split at hg
  ·rename_i _ h0;injection hg with hg;subst hg;subst h0;have t := Lib.tabIs_of_head (n := 64) (g := 1) (t := 242) (e := 42) (zs := Gl) (k := .u32) (name := "signatory/digest.numbers") au au au au au au (by rw [e2]; exact h.tail);refine⟨Gl.map λn=>Value.int .u32 n,?_,λj c hc=>?_⟩
   ·have:Gk=Gl.map λn=>AV.v (.int .u32 n):=(by unfold Gk Gl;rw[zU];rfl);rw[this];exact Zq
   ·rw[dW,dh] at hc;obtain⟨n,hn,rfl⟩:=hc;have hl:=(aP.1 hn).1;rw[t.cell au j hl,dP,hn];rfl
  ·split at hg
   ·injection hg with hg;subst hg;exact⟨[],.nil,λj c hc=>by simp at hc⟩
   ·cases hg
section
variable {H:Type}
def Me:al.cellsOf 3=1:=au
def cc5:al.cellsOf 5=1:=au
def adV:al.cellsOf 22=1:=au
def Md:al.cellsOf 23=1:=au
def adW:al.cellsOf 25=2:=au
def aq1:BG al 25 [(22,0),(23,1)]=ah:=au
def MP{cs:List AV}{d:DataW H}(h:Has al 23 cs d):∃x l,cs=[x]/\IL x l:=by
 obtain⟨k,es,rfl,hl,-,-,he⟩:=h.Ed dJ;obtain⟨l,rfl⟩:∃l:List Int,es=l.map xK:=Py λr hr=>by obtain⟨-,d,hd⟩:=he r hr;obtain⟨n,hn,-⟩:=hd.zq Ah;exact⟨n,hn⟩
 exact⟨_,l,rfl,k,_,rfl,λ_=>Me⟩
def ag6{cs:List AV}{d:DataW H}(h:Has al 22 cs d):∃x ae,cs=[x]/\RL x ae:=by
 obtain⟨k,es,rfl,hl,-,-,he⟩:=h.Ed iq;have hh:∀r∈es,∃x l,r=[x]/\IL x l:=λr hr=>by obtain⟨-,d,hd⟩:=he r hr;exact MP hd
 clear hl he;have key:∀es:List (List AV),(∀r∈es,∃x l,r=[x]/\IL x l)->∃(xs:List AV) (ae:List (List Int)),es=xs.map (λa=>[a])/\xs.length=ae.length/\∀(i:Nat) (a:AV) (r:List Int),xs[i]?=aa a->ae[i]?=aa r->IL a r:=by
  intro es
  induction es with
  |nil=>intro _;exact⟨[],[],rfl,rfl,λi a r ha=>by simp at ha⟩|cons e es ih=>
   intro hh;obtain⟨x,l,rfl,hx⟩:=hh e fR;obtain⟨xs,ae,rfl,h1,h2⟩:=ih λr hr=>hh r (fi _ hr);refine⟨x::xs,l::ae,rfl,by simp[h1],λi a r ha hr=>?_⟩;cases i with|zero=>simp at ha hr;subst ha;subst hr;exact hx|succ i=>exact h2 i a r (by simpa using ha) (by simpa using hr)
 obtain⟨xs,ae,rfl,h1,h2⟩:=key es hh;exact⟨_,ae,rfl,k,_,xs,rfl,λ_=>Md,h1,h2⟩
def ag0{x:AV}{d:DataW H}(h:lD al 28 x d):∃l:List UInt8,BL x l:=by
 obtain⟨k,es,rfl,h2,-,-,h4⟩:=h.Ed iO;obtain⟨l,rfl⟩:=Py (f:=jJ) λr hr=>by obtain⟨-,d,h5⟩:=h4 r hr;exact h5.Qx au
 exact⟨l,k,_,rfl,λ_=>cc5⟩
end
def ali:tU Pj:=wV uT vt alh (td au)
def alj:tU Pk:=wV uT vt ali (td au)
def alk:tU Pl:=wV uT vt alj (td au)
def alc:tU Pe:=wV uT vt alk (td au)
section
variable {H:Type}
def adX:al.cellsOf 27=4:=au
def SI:al.cellsOf 85=4:=au
def aq2:BG al 27 [(3,0),(25,1),(23,3)]=ah:=au
def aq3:BG al 85 [(3,0),(3,1),(3,2),(3,3)]=ah:=au
def OA{l:List AV}(h:l.length=4):∃a b c d,l=[a,b,c,d]:=by
 match l,h with
 | [a,b,c,d],_=>exact⟨a,b,c,d,rfl⟩
def ag1{x:AV}{d:DataW H}(h:lD al 27 x d):∃ep X Y C ae owners ao,x=.agg (aV ep X Y C)/\RL X ae/\IL Y owners/\IL C ao:=by obtain⟨xs,rfl,hl,hg⟩:=h.fields aq2;rw[adX] at hl;obtain⟨a,b,c,e,rfl⟩:=OA hl;obtain⟨_,q0⟩:=hg 0 3 0 rfl;obtain⟨_,q1⟩:=hg 1 25 1 rfl;obtain⟨_,q2⟩:=hg 2 23 3 rfl;rw[Me] at q0;rw[adW] at q1;rw[Md] at q2;obtain⟨jN,C4⟩:=q1.fields aq1;obtain⟨_,p0⟩:=C4 0 22 0 rfl;obtain⟨_,p1⟩:=C4 1 23 1 rfl;rw[adV] at p0;rw[Md] at p1;obtain⟨n,e0,-⟩:=q0.zq Ah;obtain⟨X,ae,e1,hx⟩:=ag6 p0;obtain⟨Y,owners,e2,hy⟩:=MP p1;obtain⟨C,ao,e3,hc⟩:=MP q2;simp at e0 e1 e2 e3;subst e0;subst e1;subst e2;subst e3;exact⟨n,_,_,_,ae,owners,ao,rfl,hx,hy,hc⟩
def ag2{x:AV}{d:DataW H}(h:lD al 29 x d):∃l,PL x l:=by
 obtain⟨k,es,rfl,hl,-,-,he⟩:=h.Ed wS;obtain⟨l,rfl⟩:∃l:List Pr,es=l.map bF:=Py λr hr=>by obtain⟨-,d,hd⟩:=he r hr;obtain⟨hl,hg⟩:=hd.fields aq3;rw[SI] at hl;obtain⟨a,b,c,e,rfl⟩:=OA hl;obtain⟨_,q0⟩:=hg 0 3 0 rfl;obtain⟨_,q1⟩:=hg 1 3 1 rfl;obtain⟨_,q2⟩:=hg 2 3 2 rfl;obtain⟨_,q3⟩:=hg 3 3 3 rfl;rw[Me] at q0 q1 q2 q3;obtain⟨n0,e0,-⟩:=q0.zq Ah;obtain⟨n1,e1,-⟩:=q1.zq Ah;obtain⟨n2,e2,-⟩:=q2.zq Ah;obtain⟨n3,e3,-⟩:=q3.zq Ah;simp at e0 e1 e2 e3;subst e0;subst e1;subst e2;subst e3;exact⟨⟨n0,n1,n2,n3⟩,rfl⟩
 exact⟨l,k,_,rfl,λ_=>SI⟩
def V2:List TypeId:=[3,4,5,22,23,25,27,28,29,36,81,85]
end
end Go.Proofs.YtnfciiiohoafaaaGreatDoor
end
