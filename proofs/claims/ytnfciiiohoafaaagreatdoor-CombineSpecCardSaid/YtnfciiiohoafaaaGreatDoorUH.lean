/-
  Part of the proof: UH.
-/
import Derived.Test.YtnfciiiohoafaaaGreatDoorUG
import Derived.Test.YtnfciiiohoafaaaGreatDoorUF
open Option renaming some->aa,map_eq_some_iff->dx,map_some->ff
open Go.Proofs.Tryz renaming underlying23->dQ,prog->ao,underlying29->yC,underlying94->qg
open Bool renaming true->ah,false->az,and_eq_true->bC,true_and->ry,not_true->Js,false_eq_true->jO,and_true->FZ
open Nat renaming zero_le->cA,le_refl->aJ,reduceEqDiff->aO,le_succ->GA,lt_irrefl->GB,le_of_ble_eq_true->jR,lt_or_ge->dW
open List renaming getElem?_eq_getElem->aR,mem_of_getElem?->dj,take_length->fC,getElem?_map->ej,length_map->bu,length_take->eS,map_append->mw,length_pos_iff->Nm,getElem?_eq_some_iff->aS,mem_cons->iu,not_mem_nil->vH,take_succ_cons->hU,take_zero->fR,foldl_append->oj,ext_getElem?->rB,getElem?_eq_none->uI,map_cons->eC,mem_cons_self->fW,mem_cons_of_mem->fE,flatMap_cons->Nh,filter_cons->Gi,mem_range->fQ,range->bM,all_eq_true->ey,range_succ->om,getElem_map->p9,filter_eq_nil_iff->ac2,length_set->mr,mem_of_mem_take->pE
open And renaming intro->aw
open Int renaming toNat_natCast->dV
set_option maxHeartbeats 64000000
set_option maxRecDepth 100000
set_option linter.unusedSimpArgs false
set_option linter.unusedVariables false
set_option linter.constructorNameAsVariable false
set_option linter.defProp false
section
namespace Go.Proofs.YtnfciiiohoafaaaGreatDoor
open Go.AE Go.NT
def arX:Tryz.f62.results.toList=[.tmp 4]:=by kernel_rfl
def ar1:Tryz.f73.results.toList=[.tmp 4]:=by kernel_rfl
def LX:Tryz.f141.results.toList=[.tmp 4]:=by kernel_rfl
def FB:Tryz.f162.results.toList=[.tmp 2]:=by kernel_rfl
def Sj:Tryz.f64.results.toList=[.tmp 2]:=by kernel_rfl
def wH:Tryz.f47.results.toList=[.tmp 2]:=by kernel_rfl
def aoA(x n)(h):W6.call 62 [im x,im n] h=aa (.ret (im (eR x n)),h):=by
 have c:=λh=>RR x n h;unfold im at *
 refine cJ rfl Tryz.func62 rfl ?_;exact lP @arX
def au0(x n)(h):W6.call 73 [im x,im n] h=aa (.ret (im (jk x n)),h):=by
 have c:=λh=>aaz x n h;unfold im at *
 refine cJ rfl Tryz.func73 rfl ?_;exact lP @ar1
def ahv(h:aq)(x y z:AV)(ae:List (List Int))(owners aj:List Int)(hx:RL x ae)(hy:IL y owners)(hz:IL z aj)(hl:aj.length<=1000000):
 ∃r h',W6.call 141 [.agg [x,y],z] h=aa (r,h')/\h'=h.push [x,y]/\r=.ret (.v (.bool (aj.all bI&&decide (aj.length=bJ ae)))):=by
 have bx:=wy hx hy;have c1:=VB x y ae owners hx hy;have l0:=vh (aZ h [x,y]);have hv:=λn=>Mo n;obtain⟨k,s,rfl,hs⟩:=hz;have ks:=al.mk hs;clear hs hx hy;have u23:=dQ;have z3:=fP;have cS:=dD aj;obtain⟨H0,hH⟩:∃H0,h.push [x,y]=H0:=⟨_,rfl⟩;rw[hH] at l0;rw[hH];unfold im at c1 hv;refine db rfl Tryz.func141 rfl ?_;refine cQ @LX @bg @hH ?_;refine bH.gen λe0 aF bB cU cN=>?_;have f1:e0.get 1=.list k s (ints aj):=by rw[aF];exact gS
 have f2:e0.get 2=.ptr (.box h.boxes.length) 0:=by rw[aF];exact gS
 have f5:e0.get 5=.v (.int .i64 (0:Nat)):=by rw[aF];exact gR
 have fd:e0.defers=[]:=by rw[bB];exact gS
 clear aF bB cU cN bx;refine cz (λm e H=>∃i:Nat,i<=aj.length/\m=aj.length - i/\al ((aj.take i).all bI=ah)/\e.get 1=.list k s (ints aj)/\e.get 2=.ptr (.box h.boxes.length) 0/\e.get 5=.v (.int .i64 (i:Nat))/\e.defers=[]/\H=H0) ?_ aj.length _ _ ?_;rotate_left 1
 ·exact⟨0,cA _,rfl,⟨bE⟩,f1,f2,f5,fd,rfl⟩
 clear f1 f2 f5 fd;rintro m e H ⟨i,hi,rfl,ka,g1,g2,g5,hd,rfl⟩;by_cases aA:i<aj.length
 ·have bD:s=1:=ks.out (by intro q;rw[q] at aA;simp at aA);subst bD;have ld:=eE (H:=H) (s:=1) aA;have nW:aj[i]?=aa (ai aj i):=by rw[aR aA,fm aA]
  have fx:(i:Int)<(aj.length:Int):=by omega
  have cv:=hv (ai aj i);have lU:(aj.take (i+1)).all bI=bI (ai aj i):=by rw[ft nW,List.all_append,ka.out];simp
  have kt:=al.mk (aw lU (dj nW));clear lU nW hv;generalize ai aj i=n at *
  cases hq:bI n with
  |false=>rw[hq] at cv;have kf:al (aj.all bI=az):=⟨by rw[List.all_eq_false];exact⟨n,kt.out.2,by rw[hq];simp⟩⟩;clear hq;refine bK @LX @bh ?_;exact⟨_,_,rfl,rfl,by rw[kf.out];rfl⟩
  |true=>rw[hq] at cv;have kt2:al ((aj.take (i+1)).all bI=ah):=⟨kt.out.1.trans hq⟩;clear hq;refine bK @LX @bh ?_;exact⟨aj.length - (i+1),by omega,i+1,by omega,rfl,kt2,by simp⟩
 ·have:i=aj.length:=by omega
  subst this;have:=ka.out;rw[fC] at this;have kan:=al.mk this;have Cq:decide ((aj.length:Int)=(bJ ae:Int))=decide (aj.length=bJ ae):=by rw[decide_eq_decide];omega
  have kd:=al.mk Cq;clear this hv Cq;generalize decide (aj.length=bJ ae)=dd at *
  refine br @LX ?_;exact⟨_,_,rfl,rfl,by rw[kan.out,kd.out];rfl⟩
def wq(p:Pr):Bool:=decide (0<=p.aB)&&decide (p.aB<64)&&decide (0<=p.no)&&decide (p.no<4096)&&bI p.d&&bI p.e
def anG(h:aq)(p:Pr):∃h',W6.call 162 [.agg (bU p)] h=aa (.ret (.v (.bool (wq p))),h')/\h'=h.push (bU p):=by
 have bx:(AV.agg (bU p)).bP=aa (bU p):=rfl;have b0:=aZ h (bU p);have l0:aH ao Gt (h.push (bU p)) 3 (.ptr (.box h.boxes.length) 0)=aa (.v (.int .i64 p.aB)):=ct eD b0 rfl;have l1:aH ao Gt (h.push (bU p)) 3 (.ptr (.box h.boxes.length) 1)=aa (.v (.int .i64 p.no)):=ct eD b0 rfl;have l2:aH ao Gt (h.push (bU p)) 3 (.ptr (.box h.boxes.length) 2)=aa (.v (.int .i64 p.d)):=ct eD b0 rfl;have l3:aH ao Gt (h.push (bU p)) 3 (.ptr (.box h.boxes.length) 3)=aa (.v (.int .i64 p.e)):=ct eD b0 rfl;have c1:=λh=>Mo p.d h;have c2:=λh=>Mo p.e h;have kv:al (wq p=(decide (0<=p.aB)&&decide (p.aB<64)&&decide (0<=p.no)&&decide (p.no<4096)&&bI p.d&&bI p.e)):=⟨rfl⟩;obtain⟨H,hH⟩:∃H,h.push (bU p)=H:=⟨_,rfl⟩;rw[hH] at l0 l1 l2 l3;rw[hH];generalize wq p=res at *
 unfold im at c1 c2;clear b0;generalize bU p=row at *
 obtain⟨a,b,c,d⟩:=p;dsimp only at *
 refine hY rfl Tryz.func162 rfl ?_;by_cases h1:0<=a;rotate_left 1
 ·have hf:res=az:=by rw[kv.out];simp[h1]
  have fj:decide (0<=a)=az:=cE h1;clear h1 kv;subst hf;refine bA @FB @bg @hH @iR ?_;exact⟨_,rfl,rfl⟩
 have fj:decide (0<=a)=ah:=bQ h1;by_cases h2:a<64;rotate_left 1
 ·have hf:res=az:=by rw[kv.out];simp[h2]
  have ie:decide (a<64)=az:=cE h2;clear h1 h2 kv;subst hf;refine bA @FB @bg @hH @iR ?_;exact⟨_,rfl,rfl⟩
 have ie:decide (a<64)=ah:=bQ h2;by_cases h3:0<=b;rotate_left 1
 ·have hf:res=az:=by rw[kv.out];simp[h3]
  have uf:decide (0<=b)=az:=cE h3;clear h1 h2 h3 kv;subst hf;refine bA @FB @bg @hH @iR ?_;exact⟨_,rfl,rfl⟩
 have uf:decide (0<=b)=ah:=bQ h3;by_cases h4:b<4096;rotate_left 1
 ·have hf:res=az:=by rw[kv.out];simp[h4]
  have qm:decide (b<4096)=az:=cE h4;clear h1 h2 h3 h4 kv;subst hf;refine bA @FB @bg @hH @iR ?_;exact⟨_,rfl,rfl⟩
 have qm:decide (b<4096)=ah:=bQ h4;have kv2:al (res=(bI c&&bI d)):=⟨by rw[kv.out,fj,ie,uf,qm];rfl⟩;clear h1 h2 h3 h4 kv;cases hq:bI c with
 |false=>
  rw[hq] at c1;have hf:res=az:=by rw[kv2.out,hq];rfl
  subst hf;clear hq kv2;refine bA @FB @bg @hH @iR ?_;exact⟨_,rfl,rfl⟩
 |true=>
  rw[hq] at c1;have hf:res=bI d:=by rw[kv2.out,hq];rfl
  subst hf;clear hq kv2;refine bA @FB @bg @hH @iR ?_;exact⟨_,rfl,rfl⟩
def rJ:(∀s ae i,gg ao 85 (.elem s ae i 0) 0=aa (.elem s ae i 0))/\(∀s ae i,gg ao 85 (.elem s ae i 0) 1=aa (.elem s ae i 1))/\(∀s ae i,gg ao 85 (.elem s ae i 0) 2=aa (.elem s ae i 2))/\∀s ae i,gg ao 85 (.elem s ae i 0) 3=aa (.elem s ae i 3):=
 ⟨λ_ _ _=>by kernel_rfl,λ_ _ _=>by kernel_rfl,λ_ _ _=>by kernel_rfl,λ_ _ _=>by kernel_rfl⟩
def Fe{l}{i s}{p}(h:l[i]?=aa p):(∀H:aq,aH ao Gt H 3 (.elem s (fb l) i 0)=aa (.v (.int .i64 p.aB)))/\(∀H:aq,aH ao Gt H 3 (.elem s (fb l) i 1)=aa (.v (.int .i64 p.no)))/\(∀H:aq,aH ao Gt H 3 (.elem s (fb l) i 2)=aa (.v (.int .i64 p.d)))/\∀H:aq,aH ao Gt H 3 (.elem s (fb l) i 3)=aa (.v (.int .i64 p.e)):=by
 have hr:(fb l)[i]?=aa (bU p):=by unfold fb;rw[ej,h];rfl
 refine⟨λH=>?_,λH=>?_,λH=>?_,λH=>?_⟩<;>(rw[r8 eD hr];rfl)
def alH(h:aq)(bq:cG h=ah)(x:AV)(l:List Pr)(hx:PL x l)(hl:l.length<=1000000):
 ∃r h',W6.call 64 [x] h=aa (r,h')/\∃t,r=.ret (.list t 1 (ints (l.map Pr.aB))):=by
 obtain⟨k,s,rfl,hs⟩:=hx;have ks:=al.mk hs;clear hs;have u29:=yC;have u23:=dQ;have z85:=uD;have cS:=xT l;have bn:gf ao 23 0 []=aa (.list .tight 1 []):=by kernel_rfl
 have kok:=al.mk bq;refine db rfl Tryz.func64 rfl ?_;refine br @Sj ?_;refine cz (λm e H=>∃(i:Nat) (t:Tok),i<=l.length/\m=l.length - i/\al (dm h.tn H t/\cG H=ah/\h.tn<=H.tn)/\e.get 0=.list k s (fb l)/\e.get 3=.list t 1 (ints ((l.take i).map Pr.aB))/\e.get 4=.v (.int .i64 (i:Nat))/\e.defers=[]) ?_ l.length _ _ ?_;rotate_left 1
 ·refine⟨0,.tight,cA _,rfl,⟨.inr (.inl rfl),kok.out,aJ _⟩,?_,?_,?_,?_⟩<;>first|(simp only[gW,reduceIte,aO,aM];done)|(exact gR)
 rintro m e H ⟨i,t,hi,rfl,kc,g0,g3,g4,hd⟩;by_cases aA:i<l.length
 ·have bD:s=4:=ks.out (by intro q;rw[q] at aA;simp at aA);subst bD;obtain⟨p,hp⟩:∃p,l[i]?=aa p:=⟨_,aR aA⟩;obtain⟨ld,-⟩:=Fe (s:=4) hp;have bl:=pI p.aB;have ap:=tQ (H:=H) (x:=p.aB) (es:=(l.take i).map Pr.aB) (sz:=1) (show((l.take i).map Pr.aB).length<1099511627776 by rw[bu,eS];omega) (.inl rfl) kc.out.1;have jc:((l.take i).map Pr.aB)++[p.aB]=(l.take (i+1)).map Pr.aB:=by rw[ft hp,mw];rfl
  rw[jc] at ap;have kc2:al (dm h.tn (H.app t) (.free H.tn)/\cG (H.app t)=ah/\h.tn<=(H.app t).tn):=⟨Ok kc.out.1 kc.out.2.1 kc.out.2.2,D8 kc.out.2.1 kc.out.1,by rw[D9];have:=kc.out.2.2;omega⟩;have fx:(i:Int)<(l.length:Int):=by omega
  clear hp jc kc;refine cQ @Sj @bh @rJ ?_;exact⟨l.length - (i+1),by omega,i+1,_,by omega,rfl,kc2,by simp⟩
 ·have:i=l.length:=by omega
  subst this;rw[fC] at g3;refine br @Sj ?_;exact⟨_,_,rfl,t,rfl⟩
def aiN(h:aq)(x y:AV)(ae:List (List Int))(owners:List Int)(hx:RL x ae)(hy:IL y owners):
 ∃r h',W6.call 47 [.agg [x,y]] h=aa (r,h')/\h'=h.push [x,y]/\∃b,r=.ret (.v (.bool b))/\(b=ah->ae.length<=80/\owners.length<=80):=by
 have bx:=wy hx hy;have l0:=rZ (aZ h [x,y]);have l1:=Ff (aZ h [x,y]);obtain⟨k,s,xs,rfl,hs,dN,eH⟩:=hx;obtain⟨ky,sy,rfl,lT⟩:=hy;have kk:=al.mk (aw hs eH);clear hs eH lT;have u23:=dQ;have u22:=Tryz.underlying22;have z23:=il;have cS:(xs.map λa=>[a]).length=ae.length:=by rw[bu];exact dN
 have P2:=dD owners;obtain⟨H0,hH⟩:∃H0,h.push [.list k s (xs.map λa=>[a]),.list ky sy (ints owners)]=H0:=⟨_,rfl⟩;rw[hH] at l0 l1;rw[hH];refine db rfl Tryz.func47 rfl ?_;by_cases q3:80<ae.length
 ·have q3I:(80:Int)<(ae.length:Int):=by omega
  have q1I:(16:Int)<(ae.length:Int):=by omega
  have q2I:¬(ae.length:Int)<=64:=by omega
  clear q3;refine bA @wH @bg @hH (aw @dE @eQ) ?_;exact⟨_,_,rfl,rfl,az,rfl,λq=>by cases q⟩
 by_cases q4:80<owners.length
 ·have q4I:(80:Int)<(owners.length:Int):=by omega
  have q3I:¬(80:Int)<(ae.length:Int):=by omega
  by_cases q1:16<ae.length
  ·have q1I:(16:Int)<(ae.length:Int):=(by omega);by_cases q2:ae.length<=64
   ·have q2I:(ae.length:Int)<=64:=(by omega);clear q1 q2 q3 q4;refine bA @wH @bg @hH (aw @dE @eQ) ?_;exact⟨_,_,rfl,rfl,az,rfl,λq=>by cases q⟩
   ·have q2I:¬(ae.length:Int)<=64:=(by omega);clear q1 q2 q3 q4;refine bA @wH @bg @hH (aw @dE @eQ) ?_;exact⟨_,_,rfl,rfl,az,rfl,λq=>by cases q⟩
  ·have q1I:¬(16:Int)<(ae.length:Int):=(by omega);clear q1 q3 q4;refine bA @wH @bg @hH (aw @dE @eQ) ?_;exact⟨_,_,rfl,rfl,az,rfl,λq=>by cases q⟩
 have kq:al (ae.length<=80/\owners.length<=80):=⟨ag,by omega⟩;have cP:ae.length<=80:=by omega
 have q3I:¬(80:Int)<(ae.length:Int):=by omega
 have q4I:¬(80:Int)<(owners.length:Int):=by omega
 have key:(16<ae.length/\ae.length<=64)∨¬(16:Int)<(ae.length:Int)∨((16:Int)<(ae.length:Int)/\¬(ae.length:Int)<=64):=by omega
 rcases key with⟨q1,q2⟩|key
 ·have q1I:(16:Int)<(ae.length:Int):=by omega
  have q2I:(ae.length:Int)<=64:=by omega
  clear q1 q2 q3 q4;refine bA @wH @bg @hH (aw @dE @eQ) ?_;exact⟨_,_,rfl,rfl,az,rfl,λq=>by cases q⟩
 clear q3 q4;rcases key with q1I|⟨q1I,q2I⟩
 all_goals
  refine bA @wH @bg @hH (aw @dE @eQ) ?_;refine bH.gen λe0 aF bB cU cN=>?_;have f1:e0.get 1=.ptr (.box h.boxes.length) 0:=by rw[aF];exact gS
  have f3:e0.get 3=.v (.int .i64 (0:Nat)):=by rw[aF];exact gR
  have fd:e0.defers=[]:=by rw[bB];exact gS
  clear aF bB cU cN bx l1 q1I q3I q4I hH
  try clear q2I
  refine cz (λm e H=>∃i:Nat,i<=ae.length/\m=ae.length - i/\e.get 1=.ptr (.box h.boxes.length) 0/\e.get 3=.v (.int .i64 (i:Nat))/\e.defers=[]/\H=H0) ?_ ae.length _ _ ?_;rotate_left 1
  ·exact⟨0,cA _,rfl,f1,f3,fd,rfl⟩
  clear f1 f3 fd;rintro m e H ⟨i,hi,rfl,g1,g3,hd,rfl⟩;by_cases aA:i<ae.length
  ·have bD:s=1:=kk.out.1 (by intro q;rw[q] at aA;simp at aA);subst bD;obtain⟨a,gh⟩:∃a,xs[i]?=aa a:=⟨_,aR ag⟩;obtain⟨r,hv⟩:∃r,ae[i]?=aa r:=⟨_,aR aA⟩;have ld:=lV (H:=H) (s:=1) gh;obtain⟨ka,sa,rfl,jt⟩:=kk.out.2 i a r gh hv;have xK:=dD r;have fx:(i:Int)<(ae.length:Int):=(by omega);clear gh hv jt;by_cases p1:(16:Int)<(r.length:Int)
   ·by_cases p2:(r.length:Int)<=64
    ·refine bA @wH @dE @eQ @bh ?_;exact⟨_,_,rfl,rfl,az,rfl,λq=>by cases q⟩
    ·by_cases p3:(80:Int)<(r.length:Int)
     ·refine bA @wH @dE @eQ @bh ?_;exact⟨_,_,rfl,rfl,az,rfl,λq=>by cases q⟩
     ·refine bA @wH @dE @eQ @bh ?_;exact⟨ae.length - (i+1),by omega,i+1,by omega,rfl,by simp⟩
   ·have p3:¬(80:Int)<(r.length:Int):=(by omega);refine bA @wH @dE @eQ @bh ?_;exact⟨ae.length - (i+1),by omega,i+1,by omega,rfl,by simp⟩
  ·have:i=ae.length:=(by omega);subst this;refine cQ @wH @dE @eQ ?_;exact⟨_,_,rfl,rfl,ah,rfl,λ_=>⟨by first|trivial|omega,kq.out.2⟩⟩
def Ma:Tryz.f165.results.toList=[.cell 2 96]:=by kernel_rfl
def UK:mz ao 96 [(0,.v (.int .i64 3))]=aa (.agg (aL 3 0 [] .nil 0 [])):=by kernel_rfl
def fG(n:Int):List AV:=aL 1 n [] .nil 0 []
def abz{H:aq}{r}(hr:(AV.agg r).bP=aa r)(hl:r.length=4):b7 ao (H.push (aL 0 0 [] .nil 0 [])) 96 (.ptr (.box H.boxes.length) 0) (.agg r)=aa (H.push r):=jx hr qy hl rfl
def Y7{H:aq}{b}{r}(hl:r.length=4)(hb:b<H.boxes.length):aH ao Gt (H.put b r) 96 (.ptr (.box b) 0)=aa (.agg r):=qt hl (eu hb)
def aby{H}{b}{z r}(hz:H.boxes[b]?=aa z)(mH:z.length=4)(hr:(AV.agg r).bP=aa r)(hl:r.length=4):b7 ao H 96 (.ptr (.box b) 0) (.agg r)=aa (H.put b r):=by rw[fA hr qy hz hl ag,wK ag]
def alq(h:aq)(bq:cG h=ah)(k:Tok)(l:List Int)(hl:l.length<=1000)(bG:l≠[])(hb:∀n∈l,0<=n/\n<=4611686018427387903):
 ∃r h',W6.call 165 [.list k 1 (ints l)] h=aa (r,h')/\∃n,r=.ret (.agg (aL 3 0 [] (.free n) 4 (l.map fG))):=by
 have z:=yk;have bd:=UK;have u23:=dQ;have u94:=qg;have z3:=fP;have cS:=dD l;have s1:=abz (H:=h.push (aL 0 0 [] .nil 0 [])) (r:=aL 3 0 [] .nil 0 []) rfl rfl;have oX:(h.push (aL 0 0 [] .nil 0 [])).boxes.length=h.boxes.length+1:=cH _ _;have G0:qH h ((h.push (aL 0 0 [] .nil 0 [])).push (aL 3 0 [] .nil 0 [])) (h.boxes.length+1) ((l.map Vl.int).take 0) .nil 0 []:=⟨by rw[<-oX];exact aZ _ _,.inl rfl,bq,(Ext.push _ _).trans (.push _ _),GA _,⟨rfl,λi v r q=>by simp at q⟩,λq=>absurd rfl q,λ_=>.inr rfl,rfl⟩;have B0:((h.push (aL 0 0 [] .nil 0 [])).push (aL 3 0 [] .nil 0 [])).boxes[h.boxes.length]?=aa (aL 0 0 [] .nil 0 []):=aY (aZ _ _);have kG0:=al.mk (aw G0 B0);rw[oX] at s1;clear G0 B0;have kb:=al.mk (aw hb bG);clear hb bG;obtain⟨H0,hH⟩:∃H0,(h.push (aL 0 0 [] .nil 0 [])).push (aL 3 0 [] .nil 0 [])=H0:=⟨_,rfl⟩;rw[hH] at s1 kG0;refine db rfl Tryz.func165 rfl ?_;refine cQ @Ma @bg @kK ?_;refine bH.gen λe0 aF bB cU cN=>?_;have f0:e0.get 0=.list k 1 (ints l):=by rw[aF];exact gS
 have f2:e0.get 2=.ptr (.box h.boxes.length) 0:=by rw[aF];exact gS
 have f3:e0.get 3=.ptr (.box (h.boxes.length+1)) 0:=by rw[aF];simp only[gW,reduceIte,aO,aM,cH]
 have f4:e0.get 4=.v (.int .i64 (0:Nat)):=by rw[aF];exact gR
 have fd:e0.defers=[]:=by rw[bB];exact gS
 clear aF bB cU cN s1 hH z bd;refine cz (λm e H=>∃(i:Nat) (t:Tok) (sz:Nat),i<=l.length/\m=l.length - i/\al (qH h H (h.boxes.length+1) ((l.map Vl.int).take i) t sz ((l.take i).map fG)/\H.boxes[h.boxes.length]?=aa (aL 0 0 [] .nil 0 []))/\al (0<i->(∃n,t=.free n)/\sz=4)/\e.get 0=.list k 1 (ints l)/\e.get 2=.ptr (.box h.boxes.length) 0/\e.get 3=.ptr (.box (h.boxes.length+1)) 0/\e.get 4=.v (.int .i64 (i:Nat))/\e.defers=[]) ?_ l.length _ _ ?_;rotate_left 1
 ·exact⟨0,.nil,0,cA _,rfl,kG0,⟨λq=>absurd q (GB _)⟩,f0,f2,f3,f4,fd⟩
 clear f0 f2 f3 f4 fd kG0;rintro m e H ⟨i,t,sz,hi,rfl,kG,kN,g0,g2,g3,g4,hd⟩;by_cases aA:i<l.length
 ·have hv:l[i]?=aa (ai l i):=by rw[aR aA,fm aA]
  have iK:da (.int (ai l i)) (fG (ai l i)):=.int _ (kb.out.1 _ (dj hv));have ld:=eE (H:=H) (s:=1) aA;have c:=λH=>LL (ai l i) H;have cP:((l.take i).map fG).length<1000000:=by rw[bu,eS];omega
  have l3:=oD kG.out.1.box;have ap:=BN (r:=fG (ai l i)) cP kG.out.1.four kG.out.1.nil kG.out.1.can;have bl:=BQ (r:=fG (ai l i)) rfl rfl;have st:=Dp (H:=H.app t) (t2:=.free H.tn) (sz2:=4) (rows2:=(l.take i).map fG++[fG (ai l i)]) (by rw[ec];exact kG.out.1.box);have G2:=kG.out.1.put iK rfl;have e1:(l.take i).map fG++[fG (ai l i)]=(l.take (i+1)).map fG:=by rw[ft hv,mw];rfl
  have e2:(l.map Vl.int).take i++[Vl.int (ai l i)]=(l.map Vl.int).take (i+1):=by rw[ft (x:=Vl.int (ai l i)) (by rw[ej,hv];rfl)]
  rw[e1,e2] at G2;rw[e1] at ap st;have kG2:al (qH h ((H.app t).put (h.boxes.length+1) (aL 3 0 [] (.free H.tn) 4 ((l.take (i+1)).map fG))) (h.boxes.length+1) ((l.map Vl.int).take (i+1)) (.free H.tn) 4 ((l.take (i+1)).map fG)/\((H.app t).put (h.boxes.length+1) (aL 3 0 [] (.free H.tn) 4 ((l.take (i+1)).map fG))).boxes[h.boxes.length]?=aa (aL 0 0 [] .nil 0 [])):=⟨G2,by rw[cX ag,ec];exact kG.out.2⟩;have kN2:al (0<i+1->(∃n,Tok.free H.tn=.free n)/\4=4):=⟨λ_=>⟨⟨_,rfl⟩,rfl⟩⟩;have fx:(i:Int)<(l.length:Int):=by omega
  have irw:aL 1 (ai l i) [] .nil 0 []=fG (ai l i):=rfl;rw[irw] at c;clear G2 e1 e2 hv iK cP kG kN irw;generalize fG (ai l i)=r at *
  generalize ai l i=n at *
  unfold im at *
  refine cQ @Ma @fS @bh ?_
  repeat' (first|simp(maxSteps:=999999)(disch:=first|exact dZ|fail)only[gW,reduceIte,aO,aM,Ma,fS,bh, *]|(refine dX ?_ ?_<;>(intro _;try omega))|refine ev Ee jd ?_)
  exact⟨l.length - (i+1),by omega,i+1,.free H.tn,4,by omega,rfl,(by first|exact kG2|trivial),(by first|exact kN2|trivial),by simp⟩
 ·have fF:i=l.length:=by omega
  subst fF;obtain⟨⟨n,rfl⟩,rfl⟩:=kN.out (Nm.2 kb.out.2);have hG:=kG.out.1;rw[fC] at hG;have ld:=qt (r:=aL 3 0 [] (.free n) 4 (l.map fG)) rfl hG.box;have st:=aby (r:=aL 3 0 [] (.free n) 4 (l.map fG)) kG.out.2 rfl rfl rfl;have ll:=Y7 (H:=H) (r:=aL 3 0 [] (.free n) 4 (l.map fG)) rfl (aS.1 kG.out.2).1;clear hG kG kN;refine br @Ma ?_;exact⟨_,_,rfl,n,rfl⟩
def L7:List FuncId:=L6++[37,38,39,85,15,47,141,162,64,62,73,19,175,191,58,60,165,95]
noncomputable def LC:FuncId->Option (List AV->aq->Option (AV × aq)):=qJ W6 L7
noncomputable abbrev W7:=whole ao Gt LC
def BS:qE LC L7:=yM
section
variable (R:Rec) (L:List FuncId)
noncomputable def up:Rec:=whole ao Gt (qJ R L)
def DH:Prop:=∀n h,R.call 120 [im n] h=aa (.ret (.agg (fG n)),h)
def DL:Prop:=∀s h,R.call 121 [sv s] h=aa (.ret (.agg (aL 2 0 s .nil 0 [])),h)
def DG:Prop:=∀(bp b:List UInt8) (k:Tok),b.length<=1099511610000->bp.length<=1099511610000->∀h,R.call 123 [.v (.string (bs bp)),.list k 1 (a8 b)] h=aa (.ret (im (mU (gx bp b):Nat)),h)
def DE:Prop:=∀(v:Vl) (r:List AV),da v r->gE v<=16->(dK v).length<=1099511600000->∃t,∀h,R.call 118 [.agg r] h=aa (.ret (.tuple [.list t 1 (a8 (dK v)),.v (.int .i64 0)]),h)
def DI:Prop:=∀(l:List Vl) (ae:List (List AV)),ou l ae->fa ae=ae->∀k:Tok,ae.length<=1000000->∀h,R.call 119 [.list k 4 ae] h=aa (.ret (.agg (aL 3 0 [] (bO k) 4 ae)),h)
def Br(g:FuncId):Prop:=∀x n h,R.call g [im x,im n] h=aa (.ret (im (eR x n)),h)
def Bq(g:FuncId):Prop:=∀x n h,R.call g [im x,im n] h=aa (.ret (im (jk x n)),h)
def zU(g:FuncId):Prop:=∀x n h,R.call g [im x,im n] h=aa (.ret (im (cd x n)),h)
def M3(g:FuncId):Prop:=∀x n h,R.call g [im x,im n] h=aa (.ret (im (cR x n)),h)
def M6(g:FuncId):Prop:=∀x h,R.call g [im x] h=aa (.ret (.v (.bool (bI x))),h)
def F8:Prop:=∀p h,R.call 162 [.agg (bU p)] h=aa (.ret (.v (.bool (wq p))),h)
def F7:Prop:=∀x l,PL x l->l.length<=1000000->∃X,IL X (l.map Pr.aB)/\∀h,R.call 64 [x] h=aa (.ret X,h)
def zV:Prop:=∀x y ae owners,RL x ae->IL y owners->ae.length<=1000000->∀h,R.call 115 [.agg [x,y]] h=aa (.ret (im (cW ae owners)),h)
def Bp:Prop:=∀x y z ae owners ar,RL x ae->IL y owners->IL z ar->ae.length<=1000000->ar.length<=1099511627776->
 (∃e,fL ae owners ar=([],az,e)/\∀h,R.call 63 [.agg [x,y],z] h=aa (.ret (.tuple [.list .nil 0 [],.v (.bool az),.v (.int .i64 e)]),h))∨
 ∃l,fL ae owners ar=(l,ah,0)/\l.length=ae.length/\∀h,R.call 63 [.agg [x,y],z] h=aa (.ret (.tuple [.list .held 1 (ints l),.v (.bool ah),.v (.int .i64 0)]),h)
def Jt:Prop:=∀x y z ae owners aj,RL x ae->IL y owners->IL z aj->aj.length<=1000000->∀h,R.call 141 [.agg [x,y],z] h=aa (.ret (.v (.bool (aj.all bI&&decide (aj.length=bJ ae)))),h)
def Ju:Prop:=∀x y ae owners,RL x ae->IL y owners->∃b,(b=ah->ae.length<=80/\owners.length<=80)/\∀h,R.call 47 [.agg [x,y]] h=aa (.ret (.v (.bool b)),h)
def Jv:Prop:=∀(k:Tok) (l:List Int),l.length<=1000->l≠[]->(∀n∈l,0<=n/\n<=4611686018427387903)->∀h,R.call 165 [.list k 1 (ints l)] h=aa (.ret (.agg (aL 3 0 [] .held 4 (l.map fG))),h)
def M4(g:FuncId):Prop:=∀x y a b,IL x a->IL y b->a.length<=1000000->b.length<=1000000->∀h,R.call g [x,y] h=aa (.ret (.v (.bool (decide (a=b)))),h)
end
section
variable {R:Rec} {L:List FuncId}
def PL.fZ{x}{l}(h:PL x l):PL (aC x) l/\aK 0 0 0 (aC x)=ah:=by
 obtain⟨k,s,rfl,hs⟩:=h;have h1:∀l:List Pr,fa (fb l)=fb l:=λl=>by
  induction l with
  |nil=>rfl|cons p l ih=>show bN (bU p)::fa (fb l)=_;rw[ih];rfl
 have h2:∀l:List Pr,gQ 0 0 0 (fb l)=ah:=λl=>by
  induction l with
  |nil=>rfl|cons p l ih=>show(aP 0 0 0 (bU p)&&gQ 0 0 0 (fb l))=ah;rw[ih];rfl
 rw[aC,h1];exact⟨⟨bO k,s,rfl,hs⟩,by rw[aK,fh,h2];rfl⟩
def DH.up(hg:L.contains 120=ah)(c:DH R):DH (up R L):=λn=>bm hg rfl rfl (c n _) rfl rfl
def DL.up(hg:L.contains 121=ah)(c:DL R):DL (up R L):=λs=>bm hg rfl rfl (c s _) rfl rfl
def DG.up(hg:L.contains 123=ah)(c:DG R):DG (up R L):=λbp b k hb ht=>
 bm (b9:=[.v (.string (bs bp)),.list (bO k) 1 (a8 b)]) hg (by rw[bN,bN,aC.eq_1,qo];rfl) (by simp[aP,aK,fh,jS]) (c bp b _ hb ht _) rfl rfl
def DE.up(hg:L.contains 118=ah)(c:DE R):DE (up R L):=λv r hv hd hl=>by obtain⟨h1,h2⟩:=da.hold v r hv;obtain⟨t,c⟩:=c v _ h1 hd hl;exact⟨bO t,bm (b9:=[.agg (bN r)]) hg rfl (by simpa [aP,aK] using h2) (c _) rfl (by simp[aK,aP,fh,jS])⟩
def DI.up(hg:L.contains 119=ah)(c:DI R):DI (up R L):=λl ae hr hh k hm=>by
 have hv:da (.list l) (aL 3 0 [] k 4 ae):=.list l k 4 ae hr.1 (λ_=>rfl) hm hr.2;obtain⟨h1,h2⟩:=da.hold _ _ hv;have e:bN (aL 3 0 [] k 4 ae)=aL 3 0 [] (bO k) 4 (fa ae):=rfl;rw[e,hh] at h1 h2;refine bm (b9:=[.list (bO k) 4 ae]) hg ?_ ?_ (c l ae hr hh (bO k) hm _) ?_ ?_
 ·simp only[bN,aC,hh]
 ·unfold aL at h2;simp only[aP,bC] at h2 ⊢;exact⟨h2.2.2.2.1,trivial⟩
 ·show AV.agg [im 3,im 0,sv [],.list (bO (bO (bO k))) 4 ae]=_;rw[fZ,fZ];rfl
 ·rw[aK];exact h2
def Br.up{g:FuncId}(hg:L.contains g=ah)(c:Br R g):Br (up R L) g:=λx n=>bm hg rfl rfl (c x n _) rfl rfl
def Bq.up{g:FuncId}(hg:L.contains g=ah)(c:Bq R g):Bq (up R L) g:=λx n=>bm hg rfl rfl (c x n _) rfl rfl
def zU.up{g:FuncId}(hg:L.contains g=ah)(c:zU R g):zU (up R L) g:=λx n=>bm hg rfl rfl (c x n _) rfl rfl
def M3.up{g:FuncId}(hg:L.contains g=ah)(c:M3 R g):M3 (up R L) g:=λx n=>bm hg rfl rfl (c x n _) rfl rfl
def M6.up{g:FuncId}(hg:L.contains g=ah)(c:M6 R g):M6 (up R L) g:=λx=>bm hg rfl rfl (c x _) rfl rfl
def F8.up(hg:L.contains 162=ah)(c:F8 R):F8 (up R L):=λp=>bm hg rfl rfl (c p _) rfl rfl
def IL.QD{x}{l}(hx:IL x l)(h):IL (gH h x) l/\aK 0 0 0 (gH h x)=ah:=by obtain⟨k,s,rfl,hs⟩:=hx;refine⟨⟨bO k,s,rfl,hs⟩,?_⟩;show aK 0 0 0 (.list (bO k) s (ints l))=ah;rw[aK,fh,nq];rfl
def F7.up(hg:L.contains 64=ah)(c:F7 R):F7 (up R L):=λx l hx hl=>by obtain⟨h1,h2⟩:=hx.fZ;obtain⟨X,hX,c⟩:=c _ l h1 hl;obtain⟨h3,h4⟩:=hX.QD ⟨[],[],0,[]⟩;exact⟨_,h3,bm (b9:=[aC x]) hg rfl (by simp[aP,h2]) (c _) rfl h4⟩
def zV.up(hg:L.contains 115=ah)(c:zV R):zV (up R L):=λx y ae owners hx hy hl=>by obtain⟨h1,h2⟩:=hx.fZ;obtain⟨h3,h4⟩:=hy.hold;exact bm (b9:=[.agg [aC x,aC y]]) hg rfl (by simp[aP,aK,h2,h4]) (c _ _ ae owners h1 h3 hl _) rfl rfl
def Bp.up(hg:L.contains 63=ah)(c:Bp R):Bp (up R L):=λx y z ae owners ar hx hy hz hl hw=>by
 obtain⟨h1,h2⟩:=hx.fZ;obtain⟨h3,h4⟩:=hy.hold;obtain⟨h5,h6⟩:=hz.hold;rcases c _ _ _ ae owners ar h1 h3 h5 hl hw with⟨e,e1,hc⟩|⟨l,e1,e2,hc⟩
 ·exact .inl ⟨e,e1,bm (b9:=[.agg [aC x,aC y],aC z]) hg rfl (by simp[aP,aK,h2,h4,h6]) (hc _) rfl rfl⟩
 ·exact .inr ⟨l,e1,e2,bm (b9:=[.agg [aC x,aC y],aC z]) hg rfl (by simp[aP,aK,h2,h4,h6]) (hc _) rfl (by simp[aK,aP,nq,sD])⟩
def Jt.up(hg:L.contains 141=ah)(c:Jt R):Jt (up R L):=λx y z ae owners aj hx hy hz hl=>by obtain⟨h1,h2⟩:=hx.fZ;obtain⟨h3,h4⟩:=hy.hold;obtain⟨h5,h6⟩:=hz.hold;exact bm (b9:=[.agg [aC x,aC y],aC z]) hg rfl (by simp[aP,aK,h2,h4,h6]) (c _ _ _ ae owners aj h1 h3 h5 hl _) rfl rfl
def Ju.up(hg:L.contains 47=ah)(c:Ju R):Ju (up R L):=λx y ae owners hx hy=>by obtain⟨g1,g2⟩:=hx.fZ;obtain⟨g3,g4⟩:=hy.hold;obtain⟨b,hb,hc⟩:=c _ _ ae owners g1 g3;exact⟨b,hb,bm (b9:=[.agg [aC x,aC y]]) hg rfl (by simp[aP,aK,g2,g4]) (hc _) rfl rfl⟩
def P5:∀l:List Int,fa (l.map fG)=l.map fG/\gQ 0 0 0 (l.map fG)=ah
 | []=>⟨rfl,rfl⟩
 |n::l=>by
  obtain⟨h1,h2⟩:=P5 l;refine⟨?_,?_⟩
  ·show bN (fG n)::fa (l.map fG)=_;rw[h1];rfl
  ·show(aP 0 0 0 (fG n)&&gQ 0 0 0 (l.map fG))=ah;rw[h2];rfl
def Jv.up(hg:L.contains 165=ah)(c:Jv R):Jv (up R L):=λk l hl hn hb=>
 bm (b9:=[.list (bO k) 1 (ints l)]) hg (by rw[bN,bN,aC,KW]) (by simp[aP,aK,fh,nq]) (c _ l hl hn hb _) rfl (by simp only[aL,aK,aP,(P5 l).2];rfl)
def M4.up{g:FuncId}(hg:L.contains g=ah)(c:M4 R g):M4 (up R L) g:=λx y a b hx hy ha hb=>by obtain⟨h1,h2⟩:=hx.hold;obtain⟨h3,h4⟩:=hy.hold;exact bm (b9:=[aC x,aC y]) hg rfl (by simp[aP,h2,h4]) (c _ _ a b h1 h3 ha hb _) rfl rfl
end
def alp:DH W7:=DH.up rfl λn h=>LL n h
def auQ:DL W7:=DL.up rfl λs h=>aa9 s h
def aj2:DG W7:=DG.up rfl λbp b k hb ht h=>aaA bp b k hb ht h
def aik:DE W7:=DE.up rfl λv r hv hd hl=>aax hv hd hl
def amh:DI W7:=DI.up rfl λl ae hr hh k hm h=>by rw[aaB hr hh k hm h]
def aoo:Br W7 62:=Br.up rfl λx n h=>aoA x n h
def amS:Bq W7 73:=Bq.up rfl λx n h=>au0 x n h
def agl:zU W7 65:=zU.up rfl λx n h=>ao3 x n h
def ahI:F8 W7:=λp=>by obtain⟨h',c,-⟩:=anG ⟨[],[],0,[]⟩ p;exact bm (L:=L7) rfl rfl rfl c rfl rfl
def alF:F7 W7:=λx l hx hl=>by obtain⟨h1,h2⟩:=hx.fZ;obtain⟨r,h',c,t,rfl⟩:=alH ⟨[],[],0,[]⟩ rfl (aC x) l h1 hl;obtain⟨h3,h4⟩:=IL.QD (x:=.list t 1 (ints (l.map Pr.aB))) ⟨_,_,rfl,λ_=>rfl⟩ h';exact⟨_,h3,bm (L:=L7) (b9:=[aC x]) rfl rfl (by simp[aP,h2]) c rfl h4⟩
def ad7:Bp W6:=λx y z ae owners ar hx hy hz hl hw=>by
 obtain⟨h1,h2⟩:=hx.fZ;obtain⟨h3,h4⟩:=hy.hold;obtain⟨h5,h6⟩:=hz.hold;obtain⟨r,h',hc,⟨e,e1,rfl⟩|⟨l,b,e1,e2,rfl,e3⟩⟩:=aed ⟨[],[],0,[]⟩ rfl _ _ _ ae owners ar h1 h3 h5 hl hw
 ·exact .inl ⟨e,e1,bm (L:=L6) (b9:=[.agg [aC x,aC y],aC z]) rfl rfl (by simp[aP,aK,h2,h4,h6]) hc rfl rfl⟩
 ·refine .inr ⟨l,e1,e2,bm (L:=L6) (b9:=[.agg [aC x,aC y],aC z]) rfl rfl (by simp[aP,aK,h2,h4,h6]) hc ?_ (by simp[aK,aP,nq,sD])⟩;rw[gH,ur,CW e3 e2];rfl
def ad8:Bp W7:=Bp.up rfl ad7
def agY:zV W6:=zV.up rfl λx y ae owners hx hy hl h=>RM x y ae owners hx hy hl h
def agZ:zV W7:=zV.up rfl agY
def aht:Jt W7:=λx y z ae owners aj hx hy hz hl=>by obtain⟨h1,h2⟩:=hx.fZ;obtain⟨h3,h4⟩:=hy.hold;obtain⟨h5,h6⟩:=hz.hold;obtain⟨r,h',c,-,rfl⟩:=ahv ⟨[],[],0,[]⟩ _ _ _ ae owners aj h1 h3 h5 hl;exact bm (L:=L7) (b9:=[.agg [aC x,aC y],aC z]) rfl rfl (by simp[aP,aK,h2,h4,h6]) c rfl rfl
def aiO:Ju W7:=λx y ae owners hx hy=>by obtain⟨g1,g2⟩:=hx.fZ;obtain⟨g3,g4⟩:=hy.hold;obtain⟨r,h',c,-,b,rfl,hb⟩:=aiN ⟨[],[],0,[]⟩ _ _ ae owners g1 g3;exact⟨b,hb,bm (L:=L7) (b9:=[.agg [aC x,aC y]]) rfl rfl (by simp[aP,aK,g2,g4]) c rfl rfl⟩
def alr:Jv W7:=λk l hl hn hb=>by obtain⟨r,h',c,n,rfl⟩:=alq ⟨[],[],0,[]⟩ rfl (bO k) l hl hn hb;exact bm (L:=L7) (b9:=[.list (bO k) 1 (ints l)]) rfl (by rw[bN,bN,aC,KW]) (by simp[aP,aK,fh,nq]) c rfl (by simp only[aL,aK,aP,(P5 l).2];rfl)
def R7:Tryz.f16.results.toList=[.tmp 6]:=by kernel_rfl
def RW:Tryz.f116.results.toList=[.tmp 2]:=by kernel_rfl
def aiL(h:aq)(ep:Int)(X Y C T L:AV)(ae:List (List Int))(owners aj:List Int)(text:List UInt8)(l:List Pr)(hx:RL X ae)(hy:IL Y owners)(hc:IL C aj)(ht:BL T text)(hp:PL L l):
 ∃h' b,W7.call 16 [.agg (aN ep X Y C),T,L] h=aa (.ret (.v (.bool b)),h')/\(b=ah->ae.length<=80/\owners.length<=80/\aj.length<=80/\text.length<=70000/\l.length<=80):=by
 obtain⟨b,hb,c1⟩:=aiO X Y ae owners hx hy;have bx:=uu (ep:=ep) hx hy hc;have b0:=aZ h (aN ep X Y C);have l1:aH ao Gt (h.push (aN ep X Y C)) 25 (.ptr (.box h.boxes.length) 1)=aa (.agg [X,Y]):=by rw[iL yG FU b0 (jR rfl)];rfl
 have l2:aH ao Gt (h.push (aN ep X Y C)) 23 (.ptr (.box h.boxes.length) 3)=aa C:=ct kU b0 rfl;have lc:=hc.dM;have lt:=ht.dM;have lp:=hp.dM;have kb:=al.mk hb;clear hb hx hy hc ht hp b0;obtain⟨H,hH⟩:∃H,h.push (aN ep X Y C)=H:=⟨_,rfl⟩;rw[hH] at l1 l2;generalize aN ep X Y C=K at *
 suffices hs:∃r h',W7.call 16 [.agg K,T,L] h=aa (r,h')/\∃b,r=.ret (.v (.bool b))/\(b=ah->ae.length<=80/\owners.length<=80/\aj.length<=80/\text.length<=70000/\l.length<=80) by obtain⟨r,h',c,b,rfl,q⟩:=hs;exact⟨h',b,c,q⟩
 refine db rfl Tryz.func16 rfl ?_;cases b with
 |false=>refine bA @R7 @bg @hH (aw @gL @gV) ?_;exact⟨_,_,rfl,az,rfl,λq=>by cases q⟩|true=>
 obtain⟨k1,k2⟩:=kb.out rfl;by_cases q1:(aj.length:Int)<=80;rotate_left 1
 ·have d1:decide ((aj.length:Int)<=80)=az:=cE q1;clear kb q1;refine bA @R7 @bg @hH (aw @gL @gV) ?_;exact⟨_,_,rfl,az,rfl,λq=>by cases q⟩
 have d1:decide ((aj.length:Int)<=80)=ah:=bQ q1;have key:((text.length:Int)<=300)∨(¬(text.length:Int)<=300/\¬(65536:Int)<text.length)∨(¬(text.length:Int)<=300/\(65536:Int)<text.length/\¬(text.length:Int)<=70000)∨(¬(text.length:Int)<=300/\(65536:Int)<text.length/\(text.length:Int)<=70000):=by omega
 have key2:((l.length:Int)<=8)∨(¬(l.length:Int)<=8/\¬(64:Int)<l.length)∨(¬(l.length:Int)<=8/\(64:Int)<l.length/\¬(l.length:Int)<=80)∨(¬(l.length:Int)<=8/\(64:Int)<l.length/\(l.length:Int)<=80):=by omega
 have kq:al (ae.length<=80/\owners.length<=80/\aj.length<=80):=⟨k1,k2,by omega⟩;clear k1 k2 q1 kb;rcases key with t1|⟨t1,t2⟩|⟨t1,t2,t3⟩|⟨t1,t2,t3⟩<;>rcases key2 with p1|⟨p1,p2⟩|⟨p1,p2,p3⟩|⟨p1,p2,p3⟩
 all_goals
  refine bA @R7 @bg @hH (aw @gL @gV) ?_
  first|exact⟨_,_,rfl,az,rfl,λq=>by cases q⟩|exact⟨_,_,rfl,ah,rfl,λ_=>⟨kq.out.1,kq.out.2.1,kq.out.2.2,by omega,by omega⟩⟩
def alI(h:aq)(ep:Int)(X Y C:AV)(ae:List (List Int))(owners aj:List Int)(hx:RL X ae)(hy:IL Y owners)(hc:IL C aj)(hl:aj.length<=1000000):
 ∃r h',W7.call 116 [.agg (aN ep X Y C)] h=aa (r,h')/\r=.ret (.v (.bool (lH ae ep aj))):=by
 have c1:=aht X Y C ae owners aj hx hy hc hl;have bx:=uu (ep:=ep) hx hy hc;have b0:=aZ h (aN ep X Y C);have l0:aH ao Gt (h.push (aN ep X Y C)) 3 (.ptr (.box h.boxes.length) 0)=aa (.v (.int .i64 ep)):=ct eD b0 rfl;have l1:aH ao Gt (h.push (aN ep X Y C)) 25 (.ptr (.box h.boxes.length) 1)=aa (.agg [X,Y]):=by rw[iL yG FU b0 (jR rfl)];rfl
 have l2:aH ao Gt (h.push (aN ep X Y C)) 23 (.ptr (.box h.boxes.length) 3)=aa C:=ct kU b0 rfl;have kv:al (lH ae ep aj=(decide (0<=ep)&&decide (ep<=64)&&decide (aj.length=bJ ae)&&aj.all bI)):=⟨rfl⟩;generalize lH ae ep aj=res at *
 clear hx hy hc b0;obtain⟨H,hH⟩:∃H,h.push (aN ep X Y C)=H:=⟨_,rfl⟩;rw[hH] at l0 l1 l2;generalize aN ep X Y C=K at *
 refine db rfl Tryz.func116 rfl ?_;by_cases h1:0<=ep;rotate_left 1
 ·have hf:res=az:=by rw[kv.out];simp[h1]
  have fj:decide (0<=ep)=az:=cE h1;clear h1 kv;subst hf;refine bA @RW @bg @hH (aw @vO (aw @gL @gV)) ?_;exact⟨_,_,rfl,rfl⟩
 have fj:decide (0<=ep)=ah:=bQ h1;by_cases h2:ep<=64;rotate_left 1
 ·have hf:res=az:=by rw[kv.out];simp[h2]
  have ie:decide (ep<=64)=az:=cE h2;clear h1 h2 kv;subst hf;refine bA @RW @bg @hH (aw @vO (aw @gL @gV)) ?_;exact⟨_,_,rfl,rfl⟩
 have ie:decide (ep<=64)=ah:=bQ h2;have kr:al (res=(aj.all bI&&decide (aj.length=bJ ae))):=⟨by rw[kv.out,fj,ie,ry,ry,Bool.and_comm]⟩;clear h1 h2 kv;generalize (aj.all bI&&decide (aj.length=bJ ae))=dd at *
 refine bA @RW @bg @hH (aw @vO (aw @gL @gV)) ?_;exact⟨_,_,rfl,by rw[kr.out]⟩
def LR:Tryz.f122.results.toList=[.cell 2 96]:=by kernel_rfl
def afN(a b c d):gf ao 23 4 [(0,.v (.int .i64 a)),(1,.v (.int .i64 b)),(2,.v (.int .i64 c)),(3,.v (.int .i64 d))]=aa (.list .tight 1 (ints [a,b,c,d])):=by kernel_rfl
def gU(p:Pr):List AV:=aL 3 0 [] .held 4 ([p.aB,p.no,p.d,p.e].map fG)
def D4(p:Pr):Prop:=∀n∈[p.aB,p.no,p.d,p.e],0<=n/\n<=4611686018427387903
def alx{l:List Int}(h:∀n∈l,0<=n/\n<=4611686018427387903):ou (l.map Vl.int) (l.map fG):=by refine⟨bE,λi v r hv hr=>?_⟩;rw[ej,dx] at hv hr;obtain⟨n,hn,rfl⟩:=hv;obtain⟨m,hm,rfl⟩:=hr;rw[hn] at hm;injection hm with hm;subst hm;exact .int n (h n (dj hn))
def aag{p}(h:D4 p):da p.val (gU p):=by have q:=alx h;exact .list _ _ _ _ q.1 (λ_=>rfl) bE q.2
def avp(h:aq)(bq:cG h=ah)(k:Tok)(l:List Pr)(hl:l.length<=1000)(bG:l≠[])(hb:∀p∈l,D4 p):
 ∃r h',W7.call 122 [.list k 4 (fb l)] h=aa (r,h')/\∃n,r=.ret (.agg (aL 3 0 [] (.free n) 4 (l.map gU))):=by
 have z:=yk;have bd:=UK;have u29:=yC;have u94:=qg;have z85:=uD;have cS:=xT l;have s1:=abz (H:=h.push (aL 0 0 [] .nil 0 [])) (r:=aL 3 0 [] .nil 0 []) rfl rfl;have oX:(h.push (aL 0 0 [] .nil 0 [])).boxes.length=h.boxes.length+1:=cH _ _;have G0:qH h ((h.push (aL 0 0 [] .nil 0 [])).push (aL 3 0 [] .nil 0 [])) (h.boxes.length+1) ((l.map Pr.val).take 0) .nil 0 []:=⟨by rw[<-oX];exact aZ _ _,.inl rfl,bq,(Ext.push _ _).trans (.push _ _),GA _,⟨rfl,λi v r q=>by simp at q⟩,λq=>absurd rfl q,λ_=>.inr rfl,rfl⟩;have B0:((h.push (aL 0 0 [] .nil 0 [])).push (aL 3 0 [] .nil 0 [])).boxes[h.boxes.length]?=aa (aL 0 0 [] .nil 0 []):=aY (aZ _ _);have kG0:=al.mk (aw G0 B0);rw[oX] at s1;clear G0 B0;have kb:=al.mk (aw hb bG);clear hb bG;obtain⟨H0,hH⟩:∃H0,(h.push (aL 0 0 [] .nil 0 [])).push (aL 3 0 [] .nil 0 [])=H0:=⟨_,rfl⟩;rw[hH] at s1 kG0;refine db rfl Tryz.func122 rfl ?_;refine cQ @LR @bg @kK ?_;refine bH.gen λe0 aF bB cU cN=>?_;have f0:e0.get 0=.list k 4 (fb l):=by rw[aF];exact gS
 have f2:e0.get 2=.ptr (.box h.boxes.length) 0:=by rw[aF];exact gS
 have f3:e0.get 3=.ptr (.box (h.boxes.length+1)) 0:=by rw[aF];simp only[gW,reduceIte,aO,aM,cH]
 have f4:e0.get 4=.v (.int .i64 (0:Nat)):=by rw[aF];exact gR
 have fd:e0.defers=[]:=by rw[bB];exact gS
 clear aF bB cU cN s1 hH z bd;refine cz (λm e H=>∃(i:Nat) (t:Tok) (sz:Nat),i<=l.length/\m=l.length - i/\al (qH h H (h.boxes.length+1) ((l.map Pr.val).take i) t sz ((l.take i).map gU)/\H.boxes[h.boxes.length]?=aa (aL 0 0 [] .nil 0 []))/\al (0<i->(∃n,t=.free n)/\sz=4)/\e.get 0=.list k 4 (fb l)/\e.get 2=.ptr (.box h.boxes.length) 0/\e.get 3=.ptr (.box (h.boxes.length+1)) 0/\e.get 4=.v (.int .i64 (i:Nat))/\e.defers=[]) ?_ l.length _ _ ?_;rotate_left 1
 ·exact⟨0,.nil,0,cA _,rfl,kG0,⟨λq=>absurd q (GB _)⟩,f0,f2,f3,f4,fd⟩
 clear f0 f2 f3 f4 fd kG0;rintro m e H ⟨i,t,sz,hi,rfl,kG,kN,g0,g2,g3,g4,hd⟩;by_cases aA:i<l.length
 ·obtain⟨p,hv⟩:∃p,l[i]?=aa p:=⟨_,aR aA⟩;have pU:=kb.out.1 p (dj hv);have iK:=aag pU;have lde:=Fe (s:=4) hv;have c:=alr .tight [p.aB,p.no,p.d,p.e] bE bE pU;have b4:=afN p.aB p.no p.d p.e;have cP:((l.take i).map gU).length<1000000:=by rw[bu,eS];omega
  have l3:=oD kG.out.1.box;have ap:=BN (r:=gU p) cP kG.out.1.four kG.out.1.nil kG.out.1.can;have bl:=BQ (r:=gU p) rfl rfl;have st:=Dp (H:=H.app t) (t2:=.free H.tn) (sz2:=4) (rows2:=(l.take i).map gU++[gU p]) (by rw[ec];exact kG.out.1.box);have G2:=kG.out.1.put iK rfl;have e1:(l.take i).map gU++[gU p]=(l.take (i+1)).map gU:=by rw[ft hv,mw];rfl
  have e2:(l.map Pr.val).take i++[p.val]=(l.map Pr.val).take (i+1):=by rw[ft (x:=p.val) (by rw[ej,hv];rfl)]
  rw[e1,e2] at G2;rw[e1] at ap st;have kG2:al (qH h ((H.app t).put (h.boxes.length+1) (aL 3 0 [] (.free H.tn) 4 ((l.take (i+1)).map gU))) (h.boxes.length+1) ((l.map Pr.val).take (i+1)) (.free H.tn) 4 ((l.take (i+1)).map gU)/\((H.app t).put (h.boxes.length+1) (aL 3 0 [] (.free H.tn) 4 ((l.take (i+1)).map gU))).boxes[h.boxes.length]?=aa (aL 0 0 [] .nil 0 [])):=⟨G2,by rw[cX ag,ec];exact kG.out.2⟩;have kN2:al (0<i+1->(∃n,Tok.free H.tn=.free n)/\4=4):=⟨λ_=>⟨⟨_,rfl⟩,rfl⟩⟩;have fx:(i:Int)<(l.length:Int):=by omega
  have irw:aL 3 0 [] .held 4 ([p.aB,p.no,p.d,p.e].map fG)=gU p:=rfl;rw[irw] at c;clear G2 e1 e2 hv iK cP kG kN irw pU;generalize gU p=r at *
  refine bA @LR @fS @rJ @bh ?_
  repeat' (first|simp(maxSteps:=999999)(disch:=first|exact dZ|fail)only[gW,reduceIte,aO,aM,LR,fS,rJ,bh, *]|(refine dX ?_ ?_<;>(intro _;try omega))|refine ev BS jd ?_)
  exact⟨l.length - (i+1),by omega,i+1,.free H.tn,4,by omega,rfl,(by first|exact kG2|trivial),(by first|exact kN2|trivial),by simp⟩
 ·have fF:i=l.length:=by omega
  subst fF;obtain⟨⟨n,rfl⟩,rfl⟩:=kN.out (Nm.2 kb.out.2);have hG:=kG.out.1;rw[fC] at hG;have ld:=qt (r:=aL 3 0 [] (.free n) 4 (l.map gU)) rfl hG.box;have st:=aby (r:=aL 3 0 [] (.free n) 4 (l.map gU)) kG.out.2 rfl rfl rfl;have ll:=Y7 (H:=H) (r:=aL 3 0 [] (.free n) 4 (l.map gU)) rfl (aS.1 kG.out.2).1;clear hG kG kN;refine br @LR ?_;exact⟨_,_,rfl,n,rfl⟩
def P6:∀l:List Pr,fa (l.map gU)=l.map gU/\gQ 0 0 0 (l.map gU)=ah
 | []=>⟨rfl,rfl⟩
 |p::l=>by
  obtain⟨h1,h2⟩:=P6 l;refine⟨?_,?_⟩
  ·show bN (gU p)::fa (l.map gU)=_;rw[h1];rfl
  ·show(aP 0 0 0 (gU p)&&gQ 0 0 0 (l.map gU))=ah;rw[h2];rfl
def avo{l}(h:∀p∈l,D4 p)(hl:l.length<=1000):da (uz l) (aL 3 0 [] .held 4 (l.map gU)):=by refine .list _ _ _ _ bE (λ_=>rfl) (by simp;omega) λi v r hv hr=>?_;rw[ej,dx] at hv hr;obtain⟨p,hp,rfl⟩:=hv;obtain⟨q,hq,rfl⟩:=hr;rw[hp] at hq;injection hq with hq;subst hq;exact aag (h p (dj hp))
def L8:List FuncId:=L7++[31,33,35,16,116,122,142,169]
noncomputable def RE:FuncId->Option (List AV->aq->Option (AV × aq)):=qJ W7 L8
noncomputable abbrev W8:=whole ao Gt RE
def BT:qE RE L8:=yM
section
variable (R:Rec)
def Jx:Prop:=∀(k:Tok) (l:List Pr),l.length<=1000->l≠[]->(∀p∈l,D4 p)->∀h,R.call 122 [.list k 4 (fb l)] h=aa (.ret (.agg (aL 3 0 [] .held 4 (l.map gU))),h)
def Jw:Prop:=∀ep X Y C ae owners aj,RL X ae->IL Y owners->IL C aj->aj.length<=1000000->∀h,R.call 116 [.agg (aN ep X Y C)] h=aa (.ret (.v (.bool (lH ae ep aj))),h)
def DF:Prop:=∀ep X Y C T L ae owners aj text l,RL X ae->IL Y owners->IL C aj->BL T text->PL L l->
 ∃b,(b=ah->ae.length<=80/\owners.length<=80/\aj.length<=80/\text.length<=70000/\l.length<=80)/\∀h,R.call 16 [.agg (aN ep X Y C),T,L] h=aa (.ret (.v (.bool b)),h)
end
def BL.fZ{x}{b}(h:BL x b):BL (aC x) b/\aK 0 0 0 (aC x)=ah:=by obtain⟨k,s,rfl,hs⟩:=h;rw[aC,qo];exact⟨⟨bO k,s,rfl,hs⟩,by rw[aK,fh,jS];rfl⟩
def Ly(l):fa (fb l)=fb l/\gQ 0 0 0 (fb l)=ah:=by
 induction l with
 |nil=>exact⟨rfl,rfl⟩|cons p l ih=>
  refine⟨?_,?_⟩
  ·show bN (bU p)::fa (fb l)=_;rw[ih.1];rfl
  ·show(aP 0 0 0 (bU p)&&gQ 0 0 0 (fb l))=ah;rw[ih.2];rfl
section
variable {R:Rec} {L:List FuncId}
def V9(l:List Pr):aK 0 0 0 (.agg (aL 3 0 [] .held 4 (l.map gU)))=ah:=by simp only[aL,aK,aP,(P6 l).2];rfl
def Jx.up(hg:L.contains 122=ah)(c:Jx R):Jx (up R L):=λk l hl hn hb=>
 bm (b9:=[.list (bO k) 4 (fb l)]) hg (by rw[bN,bN,aC,(Ly l).1]) (by simp[aP,aK,fh,(Ly l).2]) (c _ l hl hn hb _) rfl (V9 l)
def Jw.up(hg:L.contains 116=ah)(c:Jw R):Jw (up R L):=λep X Y C ae owners aj hx hy hc hl=>by obtain⟨h1,h2⟩:=hx.fZ;obtain⟨h3,h4⟩:=hy.hold;obtain⟨h5,h6⟩:=hc.hold;exact bm (b9:=[.agg (aN ep (aC X) (aC Y) (aC C))]) hg rfl (by simp[aN,aP,aK,h2,h4,h6]) (c ep _ _ _ ae owners aj h1 h3 h5 hl _) rfl rfl
def DF.up(hg:L.contains 16=ah)(c:DF R):DF (up R L):=λep X Y C T l' ae owners aj text l hx hy hc ht hp=>by obtain⟨h1,h2⟩:=hx.fZ;obtain⟨h3,h4⟩:=hy.hold;obtain⟨h5,h6⟩:=hc.hold;obtain⟨h7,h8⟩:=ht.fZ;obtain⟨h9,qM⟩:=hp.fZ;obtain⟨b,hb,c⟩:=c ep _ _ _ _ _ ae owners aj text l h1 h3 h5 h7 h9;exact⟨b,hb,bm (b9:=[.agg (aN ep (aC X) (aC Y) (aC C)),aC T,aC l']) hg rfl (by simp[aN,aP,aK,h2,h4,h6,h8,qM]) (c _) rfl rfl⟩
end
def YN:DH W8:=alp.up rfl
def auR:DL W8:=auQ.up rfl
def aj3:DG W8:=aj2.up rfl
def ail:DE W8:=aik.up rfl
def amk:DI W8:=amh.up rfl
def aop:Br W8 62:=aoo.up rfl
def amT:Bq W8 73:=amS.up rfl
def aej:zU W8 65:=agl.up rfl
def ahJ:F8 W8:=ahI.up rfl
def alG:F7 W8:=alF.up rfl
def ad9:Bp W8:=ad8.up rfl
def ag0:zV W8:=agZ.up rfl
def avn:Jx W8:=λk l hl hn hb=>by obtain⟨r,h',c,n,rfl⟩:=avp ⟨[],[],0,[]⟩ rfl (bO k) l hl hn hb;exact bm (L:=L8) (b9:=[.list (bO k) 4 (fb l)]) rfl (by rw[bN,bN,aC,(Ly l).1]) (by simp[aP,aK,fh,(Ly l).2]) c rfl (V9 l)
def alJ:Jw W8:=λep X Y C ae owners aj hx hy hc hl=>by obtain⟨h1,h2⟩:=hx.fZ;obtain⟨h3,h4⟩:=hy.hold;obtain⟨h5,h6⟩:=hc.hold;obtain⟨r,h',c,rfl⟩:=alI ⟨[],[],0,[]⟩ ep _ _ _ ae owners aj h1 h3 h5 hl;exact bm (L:=L8) (b9:=[.agg (aN ep (aC X) (aC Y) (aC C))]) rfl rfl (by simp[aN,aP,aK,h2,h4,h6]) c rfl rfl
def aiP:DF W8:=λep X Y C T l' ae owners aj text l hx hy hc ht hp=>by obtain⟨h1,h2⟩:=hx.fZ;obtain⟨h3,h4⟩:=hy.hold;obtain⟨h5,h6⟩:=hc.hold;obtain⟨h7,h8⟩:=ht.fZ;obtain⟨h9,qM⟩:=hp.fZ;obtain⟨h',b,c,hb⟩:=aiL ⟨[],[],0,[]⟩ ep _ _ _ _ _ ae owners aj text l h1 h3 h5 h7 h9;exact⟨b,hb,bm (L:=L8) (b9:=[.agg (aN ep (aC X) (aC Y) (aC C)),aC T,aC l']) rfl rfl (by simp[aN,aP,aK,h2,h4,h6,h8,qM]) c rfl rfl⟩
def Me:Tryz.f51.results.toList=[.tmp 8]:=by kernel_rfl
def sg:Tryz.f117.results.toList=[.tmp 4]:=by kernel_rfl
def I6:Tryz.f50.results.toList=[.tmp 6]:=by kernel_rfl
def afR(a b)(t)(V):gf ao 94 4 [(0,.agg (fG a)),(1,.agg (aL 2 0 t .nil 0 [])),(2,.agg (aL 3 0 [] .held 4 V)),(3,.agg (fG b))]=aa (.list .tight 4 [fG a,aL 2 0 t .nil 0 [],aL 3 0 [] .held 4 V,fG b]):=by kernel_rfl
def afC(h:aq)(ep:Int)(X Y C T L:AV)(aj:List Int)(text:List UInt8)(l:List Pr)(aB:Int)(bx:(AV.agg (aN ep X Y C)).bP=aa (aN ep X Y C))(hc:IL C aj)(ht:BL T text)(hp:PL L l)
 (jb:0<aj.length) (Cn:0<=ai aj 0/\ai aj 0<=4611686018427387903) (uo:text.length<=65536) (hl:l.length<=64) (bG:l≠[]) (hb:∀p∈l,D4 p) (hk:0<=aB/\aB<=4611686018427387903):
 ∃r h',W8.call 51 [.agg (aN ep X Y C),T,L,im aB] h=aa (r,h')/\h'=h.push (aN ep X Y C)/\r=.ret (im ((eU (ai aj 0) text l aB:Nat):Int)):=by
 obtain⟨kc,sc,rfl,uZ⟩:=hc;obtain⟨kt,st,rfl,bT⟩:=ht;obtain⟨kp,sp,rfl,mh⟩:=hp;have Qr:sc=1:=uZ (by intro e;rw[e] at jb;simp at jb);subst Qr;have ak1:sp=4:=mh bG;subst ak1;have c1:=λh=>YN (ai aj 0) h;have c2:=λh=>auR text h;have c3:=avn kp l ag bG hb;have c4:=λh=>YN aB h;have iK:=avo hb ag;have hr:ou [.int (ai aj 0),.text text,uz l,.int aB] [fG (ai aj 0),aL 2 0 text .nil 0 [],aL 3 0 [] .held 4 (l.map gU),fG aB]:=by
  refine⟨rfl,λi v r hv hr=>?_⟩
  match i with
  |0=>injection hv with hv;injection hr with hr;subst hv;subst hr;exact .int _ Cn
  |1=>injection hv with hv;injection hr with hr;subst hv;subst hr;exact .text text ag
  |2=>injection hv with hv;injection hr with hr;subst hv;subst hr;exact iK
  |3=>injection hv with hv;injection hr with hr;subst hv;subst hr;exact .int _ hk
  |i+4=>simp at hv
 have td:fa [fG (ai aj 0),aL 2 0 text .nil 0 [],aL 3 0 [] .held 4 (l.map gU),fG aB]=[fG (ai aj 0),aL 2 0 text .nil 0 [],aL 3 0 [] .held 4 (l.map gU),fG aB]:=by
  have e:bN (aL 3 0 [] .held 4 (l.map gU))=aL 3 0 [] .held 4 (l.map gU):=by show[im 3,im 0,sv [],.list .held 4 (fa (l.map gU))]=_;rw[(P6 l).1];rfl
  show[bN (fG (ai aj 0)),bN (aL 2 0 text .nil 0 []),bN (aL 3 0 [] .held 4 (l.map gU)),bN (fG aB)]=_;rw[e];rfl
 have c5:=amk _ _ hr td .tight bE;have hv:da (.list [.int (ai aj 0),.text text,uz l,.int aB]) (aL 3 0 [] (bO .tight) 4 [fG (ai aj 0),aL 2 0 text .nil 0 [],aL 3 0 [] .held 4 (l.map gU),fG aB]):=.list _ _ _ _ rfl (λ_=>rfl) bE hr.2;have hd:=ab5 l;have jJ:=UP (ai aj 0) text l aB;obtain⟨t,c6⟩:=ail _ _ hv (by simp[uz,gE,ia];omega) ag;have c7:=aj3 Dl (dK (.list [.int (ai aj 0),.text text,uz l,.int aB])) t ag aV;have hh:mU (gx Dl (dK (.list [.int (ai aj 0),.text text,uz l,.int aB])))=eU (ai aj 0) text l aB:=rfl;rw[hh] at c7;rw[show Dl=[98,105,110,100] from rfl] at c7;have bk:=afR (ai aj 0) aB text (l.map gU);have cv:=λH=>Kd (k:=kt) bT H;have b0:=aZ h (aN ep X Y (.list kc 1 (ints aj)));have l2:aH ao Gt (h.push (aN ep X Y (.list kc 1 (ints aj)))) 23 (.ptr (.box h.boxes.length) 3)=aa (.list kc 1 (ints aj)):=ct kU b0 rfl;have l4:=eE (H:=h.push (aN ep X Y (.list kc 1 (ints aj)))) (l:=aj) (i:=0) (s:=1) jb;have cS:=dD aj;have u23:=dQ;have z3:=fP;have KX:(0:Int)<(aj.length:Int):=by omega
 have z0:(0:Int).toNat=0:=rfl;clear hr hv jJ hh bT td iK hd b0 uZ mh hb;generalize eU (ai aj 0) text l aB=n at *
 generalize aL 3 0 [] (bO .tight) 4 [fG (ai aj 0),aL 2 0 text .nil 0 [],aL 3 0 [] .held 4 (l.map gU),fG aB]=R at *
 generalize fG (ai aj 0)=r0 at *
 generalize fG aB=r3 at *
 generalize aL 2 0 text .nil 0 []=r1 at *
 generalize aL 3 0 [] .held 4 (l.map gU)=r2 at *
 generalize dK (.list [.int (ai aj 0),.text text,uz l,.int aB])=eb at *
 generalize ai aj 0=c0 at *
 obtain⟨H0,hH⟩:∃H0,h.push (aN ep X Y (.list kc 1 (ints aj)))=H0:=⟨_,rfl⟩;rw[hH] at l2 l4;rw[hH];generalize aN ep X Y (.list kc 1 (ints aj))=K at *
 unfold sv at c2;unfold im at *
 refine db rfl Tryz.func51 rfl ?_;have svs:=I9 kc 1 aj;refine bA @Me @bg @hH (aw @gV @bh) ?_;refine ng [(1,6),(3,6)] BT jd (λp hp=>?_) ?_
 ·simp only[iu,vH,or_false] at hp;rcases hp with rfl|rfl
  ·refine wL (x:=.ptr (.box h.boxes.length) 3) (v:=.list kc 1 (ints aj)) jd rfl rfl rfl jd (svs) ?_ ?_<;>(simp only[hU,fR];exact mT @Me @gV @bh @and_self)
  ·refine wL (x:=.elem 1 (ints aj) 0 0) (v:=.v (.int .i64 c0)) jd rfl rfl rfl jd (by simp[fc,lX]) ?_ ?_<;>(simp only[hU,fR];exact mT @Me @gV @bh @and_self)
 refine cQ @Me @gV @bh ?_;exact⟨_,_,rfl,rfl,rfl⟩
def aeA:gI ao 27=aa ah:=by kernel_rfl
def auH:dt ao 27=aa 4:=by kernel_rfl
def ve{H}{b}{K}(hb:H.boxes[b]?=aa K)(hl:K.length=4):aH ao Gt H 27 (.ptr (.box b) 0)=aa (.agg K):=by rw[iL aeA auH hb ag,List.drop_zero,<-hl,fC]
def Fv(ae:List (List Int))(owners:List Int)(l:List Pr):Bool:=decide (1<=l.length)&&decide (l.length<=64)&&gd (-1) l&&(fL ae owners (l.map Pr.aB)).2.1&&decide ((fL ae owners (l.map Pr.aB)).2.2=0)
def anQ{cZ}{p}{l}(h:wq p=az)(h1: -1<=cZ):gd cZ (p::l)=az:=by
 unfold wq at h;rw[NT.gd];by_cases q:0<=p.aB
 ·rw[bQ q,ry] at h;by_cases q2:cZ<p.aB
  ·rw[bQ q2,ry,h];rfl
  ·rw[cE q2];rfl
 ·rw[cE (ag:¬cZ<p.aB)];rfl
def ZU{cZ}{p}{l}(h:wq p=ah)(h1:cZ<p.aB):gd cZ (p::l)=gd p.aB l:=by unfold wq at h;rw[NT.gd];simp only[bC] at h;obtain⟨⟨⟨⟨⟨-,h2⟩,h3⟩,h4⟩,h5⟩,h6⟩:=h;rw[bQ h1,h2,h3,h4,h5,h6];rfl
def anP{cZ}{p}{l}(h1:p.aB<=cZ):gd cZ (p::l)=az:=by rw[NT.gd,cE (ag:¬cZ<p.aB)];rfl
def anJ{p}(h:wq p=ah):0<=p.aB:=by unfold wq at h;simp only[bC,decide_eq_true_eq] at h;exact h.1.1.1.1.1
def anO(h:aq)(ep:Int)(X Y C L:AV)(ae:List (List Int))(owners:List Int)(l:List Pr)(bx:(AV.agg (aN ep X Y C)).bP=aa (aN ep X Y C))(hx:RL X ae)(hy:IL Y owners)(hp:PL L l)(cP:ae.length<=1000000)(dG:l.length<=1000000):
 ∃r h',W8.call 117 [.agg (aN ep X Y C),L] h=aa (r,h')/\r=.ret (.v (.bool (Fv ae owners l))):=by
 obtain⟨Z,hZ,ck⟩:=alG L l hp dG;have ca:=ad9 X Y Z ae owners (l.map Pr.aB) hx hy hZ cP (by rw[bu];omega);have b0:=aZ h (aN ep X Y C);have l1:aH ao Gt (h.push (aN ep X Y C)) 25 (.ptr (.box h.boxes.length) 1)=aa (.agg [X,Y]):=by rw[iL yG FU b0 (jR rfl)];rfl
 have kv:al (Fv ae owners l=(decide (1<=l.length)&&decide (l.length<=64)&&gd (-1) l&&(fL ae owners (l.map Pr.aB)).2.1&&decide ((fL ae owners (l.map Pr.aB)).2.2=0))):=⟨rfl⟩;generalize Fv ae owners l=res at *
 obtain⟨kp,sp,rfl,mh⟩:=hp;have lp:dM ao 29 (.list kp sp (fb l))=aa (.v (.int .i64 (l.length:Nat))):=PL.dM ⟨_,_,rfl,mh⟩;have u29:=yC;have z85:=uD;have cS:=xT l;obtain⟨H0,hH⟩:∃H0,h.push (aN ep X Y C)=H0:=⟨_,rfl⟩;rw[hH] at l1;generalize aN ep X Y C=K at *
 have kc:=al.mk (aw ca mh);have kck:=al.mk ck;clear b0 hx hy hZ ca mh ck;refine db rfl Tryz.func117 rfl ?_;by_cases q1:l.length<1
 ·have q1I:((l.length:Nat):Int)<1:=by omega
  have kf:al (res=az):=⟨by rw[kv.out,cE ag];rfl⟩;clear q1 kv;refine cQ @sg @bg @hH ?_;exact⟨_,_,rfl,by rw[kf.out]⟩
 have q1I:¬((l.length:Nat):Int)<1:=by omega
 by_cases q2:64<l.length
 ·have q2I:(64:Int)<((l.length:Nat):Int):=by omega
  have kf:al (res=az):=⟨by rw[kv.out,cE (ag:¬l.length<=64),Bool.and_false];rfl⟩;clear q1 q2 kv;refine cQ @sg @bg @hH ?_;exact⟨_,_,rfl,by rw[kf.out]⟩
 have q2I:¬(64:Int)<((l.length:Nat):Int):=by omega
 have bD:sp=4:=kc.out.2 (by intro q;rw[q] at q1;simp at q1);subst bD;have kv2:al (res=(gd (-1) l&&(fL ae owners (l.map Pr.aB)).2.1&&decide ((fL ae owners (l.map Pr.aB)).2.2=0))):=⟨by rw[kv.out,bQ (ag:1<=l.length),bQ (ag:l.length<=64)];rfl⟩;clear kv;refine cQ @sg @bg @hH ?_;refine bH.gen λe0 aF bB cU cN=>?_;have f1:e0.get 1=.list kp 4 (fb l):=by rw[aF];exact gS
 have f2:e0.get 2=.ptr (.box h.boxes.length) 0:=by rw[aF];exact gS
 have f5:e0.get 5=.v (.int .i64 (0:Nat)):=by rw[aF];exact gR
 have fd:e0.defers=[]:=by rw[bB];exact gS
 clear aF bB cU cN bx hH q1I q2I;refine cz (λm e H=>∃(i:Nat) (cZ:Int),i<=l.length/\m=l.length - i/\al (gd cZ (l.drop i)=gd (-1) l)/\ -1<=cZ/\al (i=0->cZ= -1)/\al (∀q,0<i->l[i - 1]?=aa q->q.aB=cZ)/\e.get 1=.list kp 4 (fb l)/\e.get 2=.ptr (.box h.boxes.length) 0/\e.get 5=.v (.int .i64 (i:Nat))/\e.defers=[]/\H=H0) ?_ l.length _ _ ?_;rotate_left 1
 ·exact⟨0,-1,cA _,rfl,⟨rfl⟩,Int.le_refl _,⟨λ_=>rfl⟩,⟨λ_ q=>absurd q (GB _)⟩,f1,f2,f5,fd,rfl⟩
 clear f1 f2 f5 fd;rintro m e H ⟨i,cZ,hi,rfl,kP,mf,k0,k1,g1,g2,g5,hd,rfl⟩;by_cases aA:i<l.length;rotate_left 1
 ·have fF:i=l.length:=by omega
  subst fF;have hf:gd (-1) l=ah:=by rw[<-kP.out,List.drop_of_length_le (aJ _)];rfl
  have kv3:al (res=((fL ae owners (l.map Pr.aB)).2.1&&decide ((fL ae owners (l.map Pr.aB)).2.2=0))):=⟨by rw[kv2.out,hf,ry]⟩;have ck:=kck.out;clear hf kv2 kP k0 k1;rcases kc.out.1 with⟨e,e1,ca⟩|⟨w,e1,-,ca⟩
  ·have kf:al (res=az):=⟨by rw[kv3.out,e1];rfl⟩;clear kv3 e1;refine bK @sg @gL ?_
   repeat' (first|simp(maxSteps:=999999)(disch:=first|exact dZ|fail)only[gW,reduceIte,aO,aM,sg,gL, *]|(refine dX ?_ ?_<;>(intro _;try omega))|refine ev BT jd ?_)
   exact⟨_,_,rfl,by rw[kf.out]⟩
  ·have kf:al (res=ah):=⟨by rw[kv3.out,e1];rfl⟩;clear kv3 e1;refine bK @sg @gL ?_
   repeat' (first|simp(maxSteps:=999999)(disch:=first|exact dZ|fail)only[gW,reduceIte,aO,aM,sg,gL, *]|(refine dX ?_ ?_<;>(intro _;try omega))|refine ev BT jd ?_)
   exact⟨_,_,rfl,by rw[kf.out]⟩
 obtain⟨p,eL⟩:∃p,l[i]?=aa p:=⟨_,aR aA⟩;have pQ:l.drop i=p::l.drop (i+1):=by rw[List.drop_eq_getElem_cons aA,(aS.1 eL).2]
 have ld:=λH=>C6 (H:=H) (s:=4) eL;obtain⟨ld0,-⟩:=Fe (s:=4) eL;have cp:=ahJ p;have fx:(i:Int)<(l.length:Int):=by omega
 have kpp:al (gd cZ (p::l.drop (i+1))=gd (-1) l):=⟨by rw[<-pQ];exact kP.out⟩;have kpv:=al.mk eL;clear pQ eL;cases hq:wq p with
 |false=>
  rw[hq] at cp;have kf:al (res=az):=⟨by rw[kv2.out,<-kpp.out,anQ hq mf];rfl⟩;clear hq mf kv2 k0 k1 kP;refine cQ @sg @rJ @bh ?_
  repeat' (first|simp(maxSteps:=999999)(disch:=first|exact dZ|fail)only[gW,reduceIte,aO,aM,sg,rJ,bh, *]|(refine dX ?_ ?_<;>(intro _;try omega))|refine ev BT jd ?_)
  exact⟨_,_,rfl,by rw[kf.out]⟩
 |true=>
 rw[hq] at cp;have PQ:=anJ hq;by_cases Pw:i=0
 ·subst Pw;have AU:=k0.out rfl;have kP2:al (gd p.aB (l.drop (0+1))=gd (-1) l):=⟨by rw[<-kpp.out,ZU hq ag]⟩;have kk1:al (∀q,0<0+1->l[0+1 - 1]?=aa q->q.aB=p.aB):=⟨λq _ h2=>by rw[show 0+1 - 1=0 from rfl,kpv.out] at h2;injection h2 with h2;rw[h2]⟩;have HB: -1<=p.aB:=by omega
  clear hq AU mf k0 k1 kP PQ;refine cQ @sg @rJ @bh ?_
  repeat' (first|simp(maxSteps:=999999)(disch:=first|exact dZ|fail)only[gW,reduceIte,aO,aM,sg,rJ,bh, *]|(refine dX ?_ ?_<;>(intro _;try omega))|refine ev BT jd ?_)
  exact⟨l.length - 1,by omega,0+1,p.aB,by omega,rfl,(by first|exact kP2|trivial),(by first|exact HB|trivial),⟨λq=>absurd q ag⟩,(by first|exact kk1|trivial),by simp⟩
 ·obtain⟨q,tw⟩:∃q,l[i - 1]?=aa q:=⟨_,aR ag⟩;have Qg:=k1.out q ag tw;obtain⟨lq0,-⟩:=Fe (s:=4) tw;rw[Qg] at lq0;have KX:(0:Int)<(i:Int):=by omega
  have jK:(i:Int) - 1=((i - 1:Nat):Int):=by omega
  have akK:((i - 1:Nat):Int)<(l.length:Int):=by omega
  clear tw;by_cases c3:p.aB<=cZ
  ·have kf:al (res=az):=⟨by rw[kv2.out,<-kpp.out,anP c3];rfl⟩;clear hq mf kv2 k0 k1 kP PQ Qg;refine cQ @sg @rJ @bh ?_
   repeat' (first|simp(maxSteps:=999999)(disch:=first|exact dZ|fail)only[gW,reduceIte,aO,aM,sg,rJ,bh, *]|(refine dX ?_ ?_<;>(intro _;try omega))|refine ev BT jd ?_)
   exact⟨_,_,rfl,by rw[kf.out]⟩
  ·have kP2:al (gd p.aB (l.drop (i+1))=gd (-1) l):=⟨by rw[<-kpp.out,ZU hq ag]⟩;have kk1:al (∀q,0<i+1->l[i+1 - 1]?=aa q->q.aB=p.aB):=⟨λq _ h2=>by rw[show i+1 - 1=i from rfl,kpv.out] at h2;injection h2 with h2;rw[h2]⟩;have HB: -1<=p.aB:=(by omega);clear hq mf k0 k1 kP PQ Qg;refine cQ @sg @rJ @bh ?_
   repeat' (first|simp(maxSteps:=999999)(disch:=first|exact dZ|fail)only[gW,reduceIte,aO,aM,sg,rJ,bh, *]|(refine dX ?_ ?_<;>(intro _;try omega))|refine ev BT jd ?_)
   exact⟨l.length - (i+1),by omega,i+1,p.aB,by omega,rfl,(by first|exact kP2|trivial),(by first|exact HB|trivial),⟨λq=>absurd q ag⟩,(by first|exact kk1|trivial),by simp⟩
def afk{ae}{owners aj}{ep}{text}{l}(h1:cW ae owners=0)(h2:lH ae ep aj=ah)(h3:text.length<=65536):
 cC ae owners ep aj text l=if Fv ae owners l=ah then 0 else 420:=by
 unfold cC;unfold lH at h2;rw[aI (by simp[h1]),aI (by rw[h2];simp),aI ag];unfold Fv;by_cases q1:64<l.length
 ·rw[aG q1,cE (ag:¬l.length<=64)];simp
 rw[aI q1,bQ (ag:l.length<=64)];cases q2:gd (-1) l with
 |false=>simp|true=>
  rw[aI bE];obtain⟨w,ok,e⟩:=fL ae owners (l.map Pr.aB);dsimp only;by_cases q3:l.length=0
  ·rw[aG (.inr (.inr q3)),cE (ag:¬1<=l.length)];simp
  ·rw[bQ (ag:1<=l.length)];cases ok with
   |false=>simp|true=>
    by_cases q4:e=0
    ·subst q4;simp[q3]
    ·simp[q4]
def aiD(h:aq)(ep:Int)(X Y C T L:AV)(ae:List (List Int))(owners aj:List Int)(text:List UInt8)(l:List Pr)(hx:RL X ae)(hy:IL Y owners)(hc:IL C aj)(ht:BL T text)(hp:PL L l)
 (cP:ae.length<=1000000) (de:aj.length<=1000000) (dG:l.length<=1000000):
 ∃r h',W8.call 50 [.agg (aN ep X Y C),T,L] h=aa (r,h')/\r=.ret (im (cC ae owners ep aj text l)):=by
 have bx:=uu (ep:=ep) hx hy hc;have c1:=ag0 X Y ae owners hx hy cP;have c2:=alJ ep X Y C ae owners aj hx hy hc de;obtain⟨_,H2,c3,rfl⟩:=anO (h.push (aN ep X Y C)) ep X Y C L ae owners l bx hx hy hp cP dG;have b0:=aZ h (aN ep X Y C);have l0:aH ao Gt (h.push (aN ep X Y C)) 27 (.ptr (.box h.boxes.length) 0)=aa (.agg (aN ep X Y C)):=ve b0 rfl;have l1:aH ao Gt (h.push (aN ep X Y C)) 25 (.ptr (.box h.boxes.length) 1)=aa (.agg [X,Y]):=by rw[iL yG FU b0 (jR rfl)];rfl
 have lt:=ht.dM;have kE:=al.mk (@afk ae owners aj ep text l);have kE0:al (cW ae owners≠0->cC ae owners ep aj text l=cW ae owners):=⟨λq=>by unfold cC;rw[aG q]⟩;have kE1:al (cW ae owners=0->lH ae ep aj=az->cC ae owners ep aj text l=380):=⟨λq1 q2=>by unfold lH at q2;unfold cC;rw[aI (by simp[q1]),aG (by rw[q2];rfl)]⟩;have kE2:al (cW ae owners=0->lH ae ep aj=ah->65536<text.length->cC ae owners ep aj text l=2):=⟨λq1 q2 q3=>by unfold lH at q2;unfold cC;rw[aI (by simp[q1]),aI (by rw[q2];simp),aG q3]⟩;generalize cC ae owners ep aj text l=res at *
 obtain⟨H0,hH⟩:∃H0,h.push (aN ep X Y C)=H0:=⟨_,rfl⟩;rw[hH] at c3 l0 l1;clear b0 hx hy hc ht hp;generalize aN ep X Y C=K at *
 unfold im at c1;refine db rfl Tryz.func50 rfl ?_;by_cases q1:cW ae owners=0;rotate_left 1
 ·have kf:=al.mk (kE0.out q1);have bB:decide (cW ae owners=0)=az:=cE q1;generalize cW ae owners=pe at *
  clear q1 kE kE0 kE1 kE2;refine bA @I6 @bg @hH @gL ?_;exact⟨_,_,rfl,by rw[kf.out];rfl⟩
 rw[q1] at c1;cases q2:lH ae ep aj with
 |false=>rw[q2] at c2;have kf:=al.mk (kE1.out q1 q2);clear q1 q2 kE kE0 kE1 kE2;refine bA @I6 @bg @hH @gL ?_;exact⟨_,_,rfl,by rw[kf.out];rfl⟩
 |true=>
 rw[q2] at c2;by_cases q3:65536<text.length
 ·have q3I:(65536:Int)<((text.length:Nat):Int):=by omega
  have kf:=al.mk (kE2.out q1 q2 q3);clear q1 q2 q3 kE kE0 kE1 kE2;refine bA @I6 @bg @hH @gL ?_;exact⟨_,_,rfl,by rw[kf.out];rfl⟩
 have q3I:¬(65536:Int)<((text.length:Nat):Int):=by omega
 have kf:=al.mk (kE.out q1 q2 ag);clear q1 q2 q3 kE kE0 kE1 kE2;cases q4:Fv ae owners l with
 |false=>rw[q4] at c3 kf;refine bA @I6 @bg @hH @gL ?_;exact⟨_,_,rfl,by rw[kf.out];rfl⟩
 |true=>rw[q4] at c3 kf;refine bA @I6 @bg @hH @gL ?_;exact⟨_,_,rfl,by rw[kf.out];rfl⟩
def Un{ae}{owners ar}(hp:cW ae owners=0)(hw:fJ (-1) ar=ah):(fL ae owners ar).2.2=0:=by unfold fL;rw[aI (by rw[hp];simp),hw];simp only[Js,jO,if_false];split<;>rfl
def SW(ep:Int)(X Y C S W L N:AV):List AV:=[im ep,X,Y,C,S,W,L,N]
abbrev nl:AV:=.list .nil 0 []
def SU:dt ao 27=aa 4:=av
def auI:dt ao 29=aa 1:=av
def auJ:dt ao 36=aa 1:=av
def alf:∃i,ao.info? 85=aa i/\i.size=4/\i.bytes<=64/\(i.zero.map λz=>z.cells.size)=aa 4:=by
 have h:(match ao.info? 85 with|some i=>Nat.beq i.size 4&&Nat.ble i.bytes 64&&decide ((i.zero.map λz=>z.cells.size)=aa 4)|none=>az)=ah:=av;cases hi:ao.info? 85 with
 |none=>rw[hi] at h;cases h
 |some i=>rw[hi] at h;simp only[bC,decide_eq_true_eq] at h;exact⟨i,rfl,Nat.eq_of_beq_eq_true h.1.1,jR h.1.2,h.2⟩
def afO(p):gf ao 29 1 [(0,.agg (bU p))]=aa (.list .tight 4 [bU p]):=av
def aeI{H}{k}{n0 sz}{l}{p}(hl:l.length<1000000)(hs:sz=4∨(l=[]/\k=.nil))(hk:dm n0 H k):
 gN ao H #[29,29] (.list k sz (fb l)) (.list .tight 4 [bU p])=aa (.list (.free H.tn) 4 (fb (l++[p])),H.app k):=by
 have:=N1 (T:=29) (E:=85) (n:=4) (H:=H) (k:=k) (n0:=n0) (sz:=sz) (es:=fb l) (r:=bU p) yC alf ag (by rw[xT];omega) (hs.imp_right λq=>⟨by rw[q.1];rfl,q.2⟩) hk;rw[this];unfold fb;rw[mw];rfl
structure TI(h H:aq)(X Y:AV)(T:List AV)(t:Tok):Prop where
 ext:Ext h H
 ok:cG H=ah
 can:dm h.tn H t
 pb:H.boxes[h.boxes.length]?=aa [X,Y]
 tb:H.boxes[h.boxes.length+1]?=aa T
section
variable {h H:aq} {X Y:AV} {T:List AV} {t:Tok}
def TI.app(b:TI h H X Y T t):TI h (H.app t) X Y T (.free H.tn):=by have gr:=Grown.one b.can b.ok b.ext.tn;exact⟨gr.ext b.ext (aJ _),gr.ok,gr.can,by rw[ec];exact b.pb,by rw[ec];exact b.tb⟩
def TI.push(b:TI h H X Y T t)(cs:List AV):TI h (H.push cs) X Y T t:=⟨b.ext.trans (.push _ _),b.ok,by rw[An];exact b.can,aY b.pb,aY b.tb⟩
def TI.put(b:TI h H X Y T t)(T2:List AV):TI h (H.put (h.boxes.length+1) T2) X Y T2 t:=by have hl:=(aS.1 b.tb).1;exact⟨b.ext.fK ag _,b.ok,by rw[BU];exact b.can,by rw[cX ag];exact b.pb,eu hl⟩
def TI.nil(b:TI h H X Y T t):TI h H X Y T .nil:=⟨b.ext,b.ok,.inl rfl,b.pb,b.tb⟩
end
section
variable {H:aq} {b:Nat} {ep:Int} {X Y C S W L N x:AV}
def stS(hb:H.boxes[b]?=aa (SW ep X Y C S W L N))(hx:x.bP=aa [x]):b7 ao H 36 (.ptr (.box b) 4) x=aa (H.put b (SW ep X Y C x W L N)):=
 fA (off:=4) (cs:=SW ep X Y C S W L N) (xs:=[x]) hx auJ hb rfl (jR rfl)
def RL.Ao{x}{l}(h:RL x l):x.bP=aa [x]:=by obtain⟨k,s,xs,rfl,-⟩:=h.form;rfl
def PL.Ao{x}{l}(h:PL x l):x.bP=aa [x]:=by obtain⟨k,s,rfl,-⟩:=h;rfl
def IL.Ao{x}{l}(h:IL x l):x.bP=aa [x]:=by obtain⟨k,s,rfl,-⟩:=h;rfl
end
structure awd(ae:List (List Int))(owners aj:List Int)(sh:List (Int × Int))(ar:List Int)(l:List Pr)(nn:List Int)(X Y C S W L N:AV):Prop where
 x:RL X ae
 y:IL Y owners
 c:IL C aj
 s:SL S sh
 w:IL W ar
 p:PL L l
 n:IL N nn
 wl:ar.length<=16
 nl:nn.length=2 * ar.length
 sl:sh.length<=1000
 inn:∀p∈sh,0<=p.1/\p.1<owners.length
 cl:aj.length<=1000000
 ll:l.length<=1000000
structure TB(h H:aq)(T:List AV)(t:Tok):Prop where
 ext:Ext h H
 ok:cG H=ah
 can:dm h.tn H t
 tb:H.boxes[h.boxes.length]?=aa T
section
variable {h H:aq} {T:List AV} {t:Tok}
def TB.app(b:TB h H T t):TB h (H.app t) T (.free H.tn):=by have gr:=Grown.one b.can b.ok b.ext.tn;exact⟨gr.ext b.ext (aJ _),gr.ok,gr.can,by rw[ec];exact b.tb⟩
def TB.push(b:TB h H T t)(cs:List AV):TB h (H.push cs) T t:=⟨b.ext.trans (.push _ _),b.ok,by rw[An];exact b.can,aY b.tb⟩
def TB.start(bq:cG h=ah)(T:List AV):TB h (h.push T) T .nil:=⟨.push _ _,bq,.inl rfl,aZ _ _⟩
end
def MS:(gZ ao 50).bind AV.bP=aa [im 0,im 0]:=av
def Dr:dt ao 50=aa 2:=av
def aeB:gI ao 50=aa ah:=av
def vg{H}{b}{x y}(hb:H.boxes[b]?=aa [im x,im y]):aH ao Gt H 50 (.ptr (.box b) 0)=aa (.agg [im x,im y]):=by rw[iL aeB Dr hb (aJ 2)];rfl
def FQ{H}{b}{x y u v}(hb:H.boxes[b]?=aa [im x,im y]):b7 ao H 50 (.ptr (.box b) 0) (.agg [im u,im v])=aa (H.put b [im u,im v]):=
 fA (off:=0) (cs:=[im x,im y]) (xs:=[im u,im v]) rfl Dr hb rfl (aJ 2)
def yF(z:List Int)(k:Nat):Int:=(z.take k).foldl cd 0
def aem{z}{k}(h:k<z.length):yF z (k+1)=cd (yF z k) (ai z k):=by unfold yF;rw[ft (aR h),oj,fm h];rfl
structure pq(ar N:List Int)(l:List Pr):Prop where
 len:l.length=ar.length
 nl:N.length=2 * ar.length
 ok:∀x∈N,okF x
 at_:∀i<ar.length,∃no:Int,0<=no/\no<4096/\l[i]?=aa ⟨ai ar i,no,(bF Gn (ai N (2 * i)):Nat),(bF Gn (ai N (2 * i+1)):Nat)⟩
def pq.wj{ar N}{l}(c:pq ar N l){i}(h:i<ar.length):okF (ai N (2 * i))/\okF (ai N (2 * i+1)):=⟨c.ok _ (GP (by rw[c.nl];omega)),c.ok _ (GP (by rw[c.nl];omega))⟩
def pq.ki{ar N}{l}(c:pq ar N l):l.map Pr.aB=ar:=by
 refine rB λi=>?_;rcases dW i ar.length with h|h
 ·obtain⟨no,-,-,q⟩:=c.at_ i h;rw[ej,q,ff,fm h,aR h]
 ·rw[uI (by rw[bu,c.len];exact h),uI h]
def VP(n):bI ((bF Gn n:Nat):Int)=ah:=by have h:=Bg rA n;unfold bI;rw[dV,h,FZ,decide_eq_true_eq];have:=(elem_iff.1 h).1;omega
def anR:∀{l:List Pr} {cZ:Int},fJ cZ (l.map Pr.aB)=ah->(∀p∈l,0<=p.no/\p.no<4096/\bI p.d=ah/\bI p.e=ah)->gd cZ l=ah:=by
 intro l
 induction l with
 |nil=>intro _ _ _;rfl|cons p l ih=>intro cZ h1 h2;rw[eC,fJ] at h1;simp only[bC,decide_eq_true_eq] at h1;obtain⟨q1,q2,q3,q4⟩:=h2 p fW;rw[NT.gd,ih h1.2 λq hq=>h2 q (fE _ hq),q3,q4];simp only[FZ,bC,decide_eq_true_eq];omega
def pq.mem{ar N}{l}(c:pq ar N l){p}(hp:p∈l):∃i,∃(_:i<ar.length) (no:Int),0<=no/\no<4096/\l[i]?=aa p/\p=⟨ai ar i,no,(bF Gn (ai N (2 * i)):Nat),(bF Gn (ai N (2 * i+1)):Nat)⟩:=by obtain⟨i,hi⟩:=List.getElem?_of_mem hp;have cS:=(aS.1 hi).1;rw[c.len] at cS;obtain⟨no,n1,n2,q⟩:=c.at_ i cS;rw[hi] at q;injection q with q;exact⟨i,cS,no,n1,n2,hi,q⟩
def pq.Rn{ar N}{l}(c:pq ar N l)(hw:fJ (-1) ar=ah):gd (-1) l=ah:=by refine anR (by rw[c.ki];exact hw) λp hp=>?_;obtain⟨i,hi,no,n1,n2,-,rfl⟩:=c.mem hp;exact⟨n1,n2,VP _,VP _⟩
def xO(ar:List Int)(k:Int):Nat:=ar.idxOf k
def YV{ar}(hn:ar.Nodup){i}(h:i<ar.length):xO ar (ai ar i)=i:=by unfold xO;rw[fm h];exact hn.idxOf_getElem i h
def pq.amp{ar N}{l}(c:pq ar N l)(hw:fJ (-1) ar=ah):Ny l (λk=>ai N (2 * xO ar k)) (λk=>ai N (2 * xO ar k+1)):=by intro p hp;obtain⟨i,hi,no,n1,n2,-,rfl⟩:=c.mem hp;simp only[YV (Rs hw).2 hi];exact⟨trivial,trivial⟩
def anA{ae}{owners s}(hl:ae.length=owners.length)(k):qY owners [k] (pK ae s)=mY owners (jG ae s) k:=by
 unfold qY mY jw pK;rw[hl];have e:∀(L:List Nat),(∀i∈L,i<ae.length)->(L.map λi=>(((i:Nat):Int),oQ (ae.getD i []) s)).flatMap (Bf owners [k])=(L.filter λi=>decide (ai owners i=k)).map λi=>(((i:Nat):Int),ai (jG ae s) i):=by
  intro L
  induction L with
  |nil=>intro _;rfl|cons i L ih=>
   intro hL;have hi:=hL i fW;rw[eC,Nh,ih λj hj=>hL j (fE _ hj),Gi];unfold Bf;rw[dV];by_cases q:ai owners i=k
   ·rw[aG (by simp[q]),List.filter_cons_of_pos (by simp[q]),eC,eC,SB hi];rfl
   ·rw[aI (by simp[q]),List.filter_cons_of_neg (by simp[Ne.symm q])];rfl
 exact e _ λi hi=>by rw[hl];exact fQ.1 hi
section
variable {ae:List (List Int)} {owners ar N s y:List Int} {l:List Pr} {text:List UInt8} {ep:Int}
def Oo{aj:List Int}(c:pq ar N l)(ha:fL ae owners ar=(y,ah,0))(bG:ar≠[])(ju:ar.length<=64)(ht:text.length<=65536)(he:0<=ep/\ep<=64)(hc:aj.length=bJ ae)(tc:aj.all bI=ah):cC ae owners ep aj text l=0:=by obtain⟨hp,hw,-⟩:=yE ha;unfold cC;rw[aI (by simp[hp]),aI (by simp[hc,tc,he.1,he.2]),aI ag,aI (by rw[c.len];omega),aI (by rw[c.Rn hw];simp),c.ki,ha];have:ar.length≠0:=λq=>bG (List.length_eq_zero_iff.1 q);simp[c.len,this]
def Aq(hs:s.length=bJ ae):(cI s).length=bJ ae/\(cI s).all bI=ah:=⟨by unfold cI;rw[bu,hs],ahw⟩
def ahN(c:pq ar N l)(ha:fL ae owners ar=(y,ah,0))(bG:ar≠[])(ju:ar.length<=64)(ht:text.length<=65536)(he:0<=ep/\ep<=64)(hs:s.length=bJ ae){i:Nat}(hi:i<ar.length):
 vm ae owners ep (cI s) text l (ai ar i) (mY owners (jG ae s) (ai ar i)) (ai N (2 * i)) (ai N (2 * i+1))=
  (qw ae owners (cI s) text l (ai ar i) (ai N (2 * i)) (ai N (2 * i+1)) (mY owners (jG ae s) (ai ar i)),0):=by
 obtain⟨hp,hw,-⟩:=yE ha;unfold vm;rw[aI (by rw[Oo c ha bG ju ht he (Aq hs).1 (Aq hs).2];simp)];obtain⟨no,-,-,q⟩:=c.at_ i hi;have hm:=dj q;exact amC hp hs (c.Rn hw) hm rfl rfl (c.wj hi).1 (c.wj hi).2
def ahL(c:pq ar N l)(ha:fL ae owners ar=(y,ah,0))(bG:ar≠[])(ju:ar.length<=64)(ht:text.length<=65536)(he:0<=ep/\ep<=64)(hs:s.length=bJ ae){i:Nat}(hi:i<ar.length){z:Int}(hz:okF z):
 pZ ae owners ep (cI s) text l (ai ar i) z=
  (decide (z=qw ae owners (cI s) text l (ai ar i) (ai N (2 * i)) (ai N (2 * i+1)) (mY owners (jG ae s) (ai ar i))),0):=by
 obtain⟨hp,hw,-⟩:=yE ha;unfold pZ;rw[aI (by rw[Oo c ha bG ju ht he (Aq hs).1 (Aq hs).2];simp)];obtain⟨no,-,-,q⟩:=c.at_ i hi;have hm:=dj q;have pU:=ZT (c.Rn hw) hm;unfold Az;rw[pU];simp only[rW.2 hz,Js,jO,if_false];rw[aiX hp hs rfl rfl hz]
def ahP(c:pq ar N l)(ha:fL ae owners ar=(y,ah,0))(hs:s.length=bJ ae):
 nI (ai (cI s) 0) text ((dF (ai (cI s) 0) text l:Nat):Int) (((bM ar.length).map λi=>qw ae owners (cI s) text l (ai ar i) (ai N (2 * i)) (ai N (2 * i+1)) (mY owners (jG ae s) (ai ar i))).foldl cd 0)=ah:=by
 obtain⟨hp,hw,-⟩:=yE ha;have Qs:=Mt (text:=text) (l:=l) (by rw[c.ki];exact ha) hs (c.amp hw);rw[c.ki] at Qs;have e:(ar.map λk=>qw ae owners (cI s) text l k (ai N (2 * xO ar k)) (ai N (2 * xO ar k+1)) (mY owners (jG ae s) k))=(bM ar.length).map λi=>qw ae owners (cI s) text l (ai ar i) (ai N (2 * i)) (ai N (2 * i+1)) (mY owners (jG ae s) (ai ar i)):=by
  refine rB λi=>?_;rcases dW i ar.length with h|h
  ·have hx:=YV (Rs hw).2 h;rw[ej,ej,List.getElem?_range h,aR h,ff,ff];rw[fm h] at hx ⊢;rw[hx]
  ·rw[uI (by simpa using h),uI (by simpa using h)]
 rw[e] at Qs;exact Qs
end
def R3:List (List Int):=[[1,1],[1,2],[1,3]]
def O3:List Int:=[0,1,2]
def S2:List Int:=[10,4]
def Dt:List UInt8:=[116,101,120,116]
def pA:Pr:=⟨0,0,(bF Gn 5:Nat),(bF Gn 6:Nat)⟩
def pB:Pr:=⟨2,2,(bF Gn 7:Nat),(bF Gn 8:Nat)⟩
def Uj:fL R3 O3 [0,2]=([536870896,0,536870894],ah,0):=by decide+kernel
abbrev C3:List Int:=cI S2
abbrev b3(k:Int):Int:=((eU (ai C3 0) Dt [pA,pB] k:Nat):Int)
abbrev Vo:Int:=((dF (ai C3 0) Dt [pA,pB]:Nat):Int)
def x3:Int:=cd (cd 5 (cR 6 (b3 0))) (cR Vo 21)
def y3:Int:=cd (cd 7 (cR 8 (b3 2))) (cR Vo 1073741778)
def X3:AV:=.list .tight 1 [[.list .tight 1 (ints [1,1])],[.list .tight 1 (ints [1,2])],[.list .tight 1 (ints [1,3])]]
def T3:AV:=.list .held 1 (a8 Dt)
def agi(h)(bq:cG h=ah)(es):∃H5 H6,h.fresh 1 es=(.list (.free h.tn) 1 es,H5)/\nL ao H5 28 28 (.list (.free h.tn) 1 es)=aa (.list .held 1 es,H6)/\Ext h H6/\H6.boxes=h.boxes:=by
 have eG:alive {h with tn:=h.tn+1} h.tn=ah:=by
  unfold cG at bq;unfold alive;simp only[bC,decide_eq_true_eq,Bool.not_eq_true'];refine⟨Nat.lt_succ_self _,?_⟩;cases hc:h.dead.contains h.tn with|false=>rfl|true=>have:=ey.1 bq h.tn (by simpa using hc);simp at this
 have u28:=Tryz.underlying28;have u5:ao.underlying 5=aa (.int .u8):=av;refine⟨{h with tn:=h.tn+1},{h with tn:=h.tn+1,dead:=h.tn::h.dead},rfl,?_,?_,rfl⟩
 ·unfold nL;rw[u28];simp only[u5,eG,and_self,if_true]
 ·refine⟨λ_ _ q=>q,λ_ _ q=>q,GA _,λn hn q=>?_,λho=>?_⟩
  ·rcases iu.1 q with q|q
   ·omega
   ·exact q
  ·unfold cG at *
   rw[List.all_cons,bC];refine⟨bE,ey.2 λx hx=>?_⟩;have:=ey.1 ho x hx;simp at this ⊢;omega
def afb(a b):mz ao 50 [(0,im a),(1,im b)]=aa (.agg [im a,im b]):=av
section
variable {ae:List (List Int)} {owners cB awN:List Int} {b8 sm:Int} {text:List UInt8}
def wu(ae:List (List Int))(owners s ar N:List Int)(l:List Pr)(text:List UInt8)(i:Nat):Int:=
 qw ae owners (cI s) text l (ai ar i) (ai N (2 * i)) (ai N (2 * i+1)) (mY owners (jG ae s) (ai ar i))
end
def BL.Ao{x}{b}(h:BL x b):x.bP=aa [x]:=by obtain⟨k,s,rfl,-⟩:=h;rfl
def jL(l:List Pr)(z:List Int):Bool:=decide (z.length=l.length)&&z.all bX
def pV(l:List Pr)(i:Nat):Int:=ai (l.map Pr.aB) i
def jj(ae:List (List Int))(owners:List Int)(ep:Int)(aj:List Int)(text:List UInt8)(l:List Pr)(z:List Int):(Int × Int) × Bool × Int:=
 if cC ae owners ep aj text l≠0 then ((0,0),az,cC ae owners ep aj text l)
 else if jL l z=az then ((0,0),az,1)
 else if nI (ai aj 0) text ((dF (ai aj 0) text l:Nat):Int) (z.foldl cd 0) then ((((dF (ai aj 0) text l:Nat):Int),z.foldl cd 0),ah,0)
 else ((0,0),az,0)
def Ag(ae:List (List Int))(owners:List Int)(ep:Int)(aj:List Int)(text:List UInt8)(l:List Pr)(z:List Int)(i:Nat):List Int:=
 if (pZ ae owners ep aj text l (pV l i) (ai z i)).1 then [] else [pV l i]
def xd(ae:List (List Int))(owners:List Int)(ep:Int)(aj:List Int)(text:List UInt8)(l:List Pr)(z:List Int)(k:Nat):List Int:=
 (bM k).flatMap (Ag ae owners ep aj text l z)
def uN(ae:List (List Int))(owners:List Int)(ep:Int)(aj:List Int)(text:List UInt8)(l:List Pr)(z:List Int):List Int × Int:=
 if cC ae owners ep aj text l≠0 then ([],cC ae owners ep aj text l)
 else if jL l z=az then ([],1)
 else (xd ae owners ep aj text l z l.length,0)
def UJ(ae)(owners)(ep)(aj)(text)(l)(z)(k):
 xd ae owners ep aj text l z (k+1)=xd ae owners ep aj text l z k++Ag ae owners ep aj text l z k:=by
 unfold xd;rw[om,List.flatMap_append];simp
def Fq{l}{z}:jL l z=ah↔z.length=l.length/\∀x∈z,okF x:=by unfold jL;simp only[bC,decide_eq_true_eq,ey,rW]
def YX{l}{i}{p}(h:l[i]?=aa p):pV l i=p.aB:=by have hl:=(aS.1 h);obtain⟨hi,e⟩:=hl;unfold pV;rw[fm (by rw[bu];exact hi),p9,e]
def anK{l}{i:Nat}{p}(h:l[i]?=aa p):∃q,qu l p.aB=aa q:=by
 unfold qu;cases hq:l.find? λx=>decide (x.aB=p.aB) with|some q=>exact⟨q,rfl⟩|none=>have:=List.find?_eq_none.1 hq p (dj h);simp at this
def ai0{ae}{owners aj}{ep}{text}{l}{z}(hb:cC ae owners ep aj text l=0)(hz:jL l z=ah){i}(hi:i<l.length):
 (pZ ae owners ep aj text l (pV l i) (ai z i)).2=0:=by
 obtain⟨hl,ho⟩:=Fq.1 hz;have hp:l[i]?=aa l[i]:=aR hi;rw[YX hp];obtain⟨q,hq⟩:=anK hp;have iD:bX (ai z i)=ah:=rW.2 (ho _ (GP ag));unfold pZ Az;rw[aI (by rw[hb];simp),hq];simp[iD]
def ai2{α:Type}(f:Nat->α)(p:Nat->Bool):∀L:List Nat,L.flatMap (λi=>if p i then [] else [f i])=(L.filter λi=> !p i).map f:=by
 intro L
 induction L with
 |nil=>rfl|cons a L ih=>rw[Nh,ih,Gi];cases p a<;>rfl
def filter_one{n i}(h:i<n):((bM n).filter λj=>decide (j=i))=[i]:=by
 induction n with
 |zero=>omega|succ n ih=>
  rw[om,List.filter_append];by_cases e:i=n
  ·subst e;have:((bM i).filter λj=>decide (j=i))=[]:=ac2.2 λj hj=>(by have:=fQ.1 hj;simp;omega);rw[this];simp
  ·rw[ih ag];have:decide (n=i)=az:=cE ag;simp[this]
section
variable {ae:List (List Int)} {owners ar N s y z:List Int} {l:List Pr} {text:List UInt8} {ep:Int}
def oF(ae:List (List Int))(owners s ar N:List Int)(l:List Pr)(text:List UInt8):List Int:=(bM ar.length).map (wu ae owners s ar N l text)
def Lz:(oF ae owners s ar N l text).length=ar.length:=by unfold oF;simp
def Rp{i:Nat}(h:i<ar.length):ai (oF ae owners s ar N l text) i=wu ae owners s ar N l text i:=by unfold oF;rw[fm (by simpa using h),p9,List.getElem_range]
def ZV(i:Nat):okF (wu ae owners s ar N l text i):=ZX
def Rq(c:pq ar N l):jL l (oF ae owners s ar N l text)=ah:=by refine Fq.2 ⟨by rw[Lz,c.len],λx hx=>?_⟩;unfold oF at hx;obtain⟨i,-,rfl⟩:=List.mem_map.1 hx;exact ZV i
def ahM(c:pq ar N l)(i:Nat):pV l i=ai ar i:=by unfold pV;rw[c.ki]
structure px(ae:List (List Int))(owners ar N s y:List Int)(l:List Pr)(text:List UInt8)(ep:Int):Prop where
 xm:pq ar N l
 acc:fL ae owners ar=(y,ah,0)
 ne:ar≠[]
 wl:ar.length<=64
 tl:text.length<=65536
 ep:0<=ep/\ep<=64
 sl:s.length=bJ ae
def px.JX(c:px ae owners ar N s y l text ep):cC ae owners ep (cI s) text l=0:=
 Oo c.xm c.acc c.ne c.wl c.tl c.ep (Aq c.sl).1 (Aq c.sl).2
def px.Mt(c:px ae owners ar N s y l text ep):nI (ai (cI s) 0) text ((dF (ai (cI s) 0) text l:Nat):Int) ((oF ae owners s ar N l text).foldl cd 0)=ah:=
 ahP c.xm c.acc c.sl
def px.comb(c:px ae owners ar N s y l text ep):jj ae owners ep (cI s) text l (oF ae owners s ar N l text)=
 ((((dF (ai (cI s) 0) text l:Nat):Int),(oF ae owners s ar N l text).foldl cd 0),ah,0):=by
 unfold jj;rw[aI (by rw[c.JX];simp),aI (by rw[Rq c.xm];simp),c.Mt,aG rfl]
def px.ahq(c:px ae owners ar N s y l text ep)(hz:jL l z=az):jj ae owners ep (cI s) text l z=((0,0),az,1):=by unfold jj;rw[aI (by rw[c.JX];simp),aG hz]
def px.afS(c:px ae owners ar N s y l text ep)(hz:jL l z=az):uN ae owners ep (cI s) text l z=([],1):=by unfold uN;rw[aI (by rw[c.JX];simp),aG hz]
def px.US(c:px ae owners ar N s y l text ep)(hz:jL l z=ah):uN ae owners ep (cI s) text l z=
 (((bM ar.length).filter λi=> !decide (ai z i=wu ae owners s ar N l text i)).map (ai ar),0):=by
 unfold uN;rw[aI (by rw[c.JX];simp),aI (by rw[hz];simp)];rw[<-ai2];unfold xd;rw[c.xm.len];refine congrArg (λq=>(q,(0:Int))) ?_;obtain⟨hl,ho⟩:=Fq.1 hz;have key:∀L:List Nat,(∀i∈L,i<ar.length)->L.flatMap (Ag ae owners ep (cI s) text l z)=L.flatMap λi=>if decide (ai z i=wu ae owners s ar N l text i) then [] else [ai ar i]:=by
  intro L
  induction L with
  |nil=>intro _;rfl|cons i L ih=>intro hL;have hi:=hL i fW;rw[Nh,Nh,ih λj hj=>hL j (fE _ hj)];unfold Ag;rw[ahM c.xm,ahL c.xm c.acc c.ne c.wl c.tl c.ep c.sl hi (ho _ (GP (by rw[hl,c.xm.len];exact hi)))];rfl
 exact key _ λi hi=>fQ.1 hi
def px.afT(c:px ae owners ar N s y l text ep):uN ae owners ep (cI s) text l (oF ae owners s ar N l text)=([],0):=by rw[c.US (Rq c.xm)];refine congrArg (λq=>(q,(0:Int))) ?_;rw[List.map_eq_nil_iff];refine ac2.2 λi hi=>?_;rw[Rp (fQ.1 hi)];simp
def px.afU(c:px ae owners ar N s y l text ep){i:Nat}(hi:i<ar.length){v:Int}(hv:okF v)(bG:v≠wu ae owners s ar N l text i):
 uN ae owners ep (cI s) text l ((oF ae owners s ar N l text).set i v)=([ai ar i],0)/\jL l ((oF ae owners s ar N l text).set i v)=ah:=by
 have ok:jL l ((oF ae owners s ar N l text).set i v)=ah:=by
  obtain⟨h1,h2⟩:=Fq.1 (Rq (ae:=ae) (owners:=owners) (s:=s) (text:=text) c.xm);refine Fq.2 ⟨by rw[mr];exact h1,λx hx=>?_⟩;rcases List.mem_or_eq_of_mem_set hx with q|rfl
  ·exact h2 x q
  ·exact hv
 refine⟨?_,ok⟩;rw[c.US ok];refine congrArg (λq=>(q,(0:Int))) ?_;have e:((bM ar.length).filter λj=> !decide (ai ((oF ae owners s ar N l text).set i v) j=wu ae owners s ar N l text j))=((bM ar.length).filter λj=>decide (j=i)):=by
  refine List.filter_congr λj hj=>?_;have hj:=fQ.1 hj;rw[fm (by rw[mr,Lz];exact hj),List.getElem_set];by_cases q:i=j
  ·subst q;simp[bG]
  ·rw[aI q,<-fm (by rw[Lz];exact hj),Rp hj];have:¬j=i:=λz=>q z.symm;simp[this]
 rw[e,filter_one hi];rfl
end
def Di:Tryz.f37.results.toList=[.tmp 4]:=av
def aa7:Tryz.f95.results.toList=[.tmp 6]:=av
def ar8:Tryz.f96.results.toList=[.tmp 4]:=av
def zH:Tryz.f39.results.toList=[.tmp 6]:=av
def asJ(h:aq)(x y:AV)(a b:List Int)(hx:IL x a)(hy:IL y b)(eG:a.length<=1000000)(jJ:b.length<=1000000):
 ∃r h',W6.call 37 [x,y] h=aa (r,h')/\h'=h/\r=.ret (.v (.bool (decide (a=b)))):=by
 have lx:=hx.dM;have ly:=hy.dM;have kk:=al.mk (aw hx hy);clear hx hy;refine db rfl Tryz.func37 rfl ?_;by_cases hl:a.length=b.length;rotate_left 1
 ·have hI:¬((a.length:Nat):Int)=((b.length:Nat):Int):=by omega
  have kr:al (decide (a=b)=az):=⟨cE λq=>hl (by rw[q])⟩;clear hl;refine br @Di ?_;exact⟨_,_,rfl,rfl,by rw[kr.out]⟩
 have hI:((a.length:Nat):Int)=((b.length:Nat):Int):=by omega
 have kl:=al.mk hl;refine br @Di ?_;refine cz (λm e H=>∃i:Nat,i<=a.length/\m=a.length - i/\al (a.take i=b.take i)/\e.get 0=x/\e.get 1=y/\e.get 5=.v (.int .i64 (i:Nat))/\e.defers=[]/\H=h) ?_ a.length _ _ ?_;rotate_left 1
 ·refine⟨0,cA _,rfl,⟨rfl⟩,?_,?_,?_,?_,rfl⟩<;>exact gR
 rintro m e H ⟨i,hi,rfl,kt,g0,g1,g5,hd,rfl⟩;by_cases aA:i<a.length
 ·have ix:=kk.out.1.ix aA;have iy:=kk.out.2.ix (i:=i) ag;have ldx:=eE (H:=H) (s:=1) aA;have ldy:=eE (H:=H) (l:=b) (i:=i) (s:=1) ag;have ea:a[i]?=aa (ai a i):=by rw[aR aA,fm aA]
  have eb:b[i]?=aa (ai b i):=by rw[aR ag,fm ag]
  have fx:(i:Int)<(a.length:Int):=by omega
  by_cases hq:ai a i=ai b i
  ·have kt2:al (a.take (i+1)=b.take (i+1)):=⟨by rw[ft ea,ft eb,kt.out,hq]⟩;have dq:decide (ai a i≠ai b i)=az:=(by simp[hq]);clear ea eb kt;generalize ai a i=va at *
   generalize ai b i=vb at *
   subst hq;clear hl hI;refine br @Di ?_;refine ev Ee av ?_;refine br @Di ?_;exact⟨a.length - (i+1),by omega,i+1,by omega,rfl,(by first|exact kt2|trivial),by simp⟩
  ·have kr:al (decide (a=b)=az):=⟨cE λq=>hq (by rw[q])⟩;clear ea eb kt hl hI;generalize ai a i=va at *
   generalize ai b i=vb at *
   refine br @Di ?_;refine ev Ee av ?_;refine br @Di ?_;exact⟨_,_,rfl,rfl,by rw[kr.out]⟩
 ·have fF:i=a.length:=by omega
  subst fF;have kr:al (decide (a=b)=ah):=⟨bQ (by have:=kt.out;rw[fC,List.take_of_length_le ag] at this;exact this)⟩;clear hl hI;refine br @Di ?_;exact⟨_,_,rfl,rfl,by rw[kr.out]⟩
def afQ(a b)(t):gf ao 94 3 [(0,.agg (aL 1 a [] .nil 0 [])),(1,.agg (aL 1 b [] .nil 0 [])),(2,.agg (aL 2 0 t .nil 0 []))]=aa (.list .tight 4 [aL 1 a [] .nil 0 [],aL 1 b [] .nil 0 [],aL 2 0 t .nil 0 []]):=av
def Xa(h:aq)(p key:Int)(T:AV)(text:List UInt8)(hp:0<=p/\p<=4611686018427387903)(hk:0<=key/\key<=4611686018427387903)(ht:BL T text)(hl:text.length<=1000000):
 ∃r h',W6.call 95 [im p,im key,T] h=aa (r,h')/\h'=h/\r=.ret (im ((rn p key text:Nat):Int)):=by
 have c1:=LL p;have c2:=LL key;have c3:=aa9 text;have hr:ou [.int p,.int key,.text text] [aL 1 p [] .nil 0 [],aL 1 key [] .nil 0 [],aL 2 0 text .nil 0 []]:=by
  refine⟨rfl,λi v r hv hr=>?_⟩
  match i with
  |0=>injection hv with hv;injection hr with hr;subst hv;subst hr;exact .int p hp
  |1=>injection hv with hv;injection hr with hr;subst hv;subst hr;exact .int key hk
  |2=>injection hv with hv;injection hr with hr;subst hv;subst hr;exact .text text ag
  |i+3=>simp at hv
 have c4:=aaB hr rfl .tight bE;have hv:da (.list [.int p,.int key,.text text]) (aL 3 0 [] (bO .tight) 4 [aL 1 p [] .nil 0 [],aL 1 key [] .nil 0 [],aL 2 0 text .nil 0 []]):=.list _ _ _ _ rfl (λ_=>rfl) bE hr.2;have hlen:=SC p key text;obtain⟨t,c5⟩:=aax hv (by simp[gE,ia]) ag;have c6:=aaA yc (dK (.list [.int p,.int key,.text text])) t ag aV;have hh:mU (gx yc (dK (.list [.int p,.int key,.text text])))=rn p key text:=rfl;rw[hh] at c6;rw[show yc=[115,105,103,110] from rfl] at c6;have bk:=afQ p key text;obtain⟨kt,st,rfl,bT⟩:=ht;have cv:=λH=>Kd (k:=kt) bT H;generalize rn p key text=n at *
 generalize aL 3 0 [] (bO .tight) 4 [aL 1 p [] .nil 0 [],aL 1 key [] .nil 0 [],aL 2 0 text .nil 0 []]=R at *
 generalize aL 1 p [] .nil 0 []=r0 at *
 generalize aL 1 key [] .nil 0 []=r1 at *
 generalize aL 2 0 text .nil 0 []=r2 at *
 generalize dK (.list [.int p,.int key,.text text])=eb at *
 clear hr hv hlen hh bT;unfold sv at c3;unfold im at *
 refine db rfl Tryz.func95 rfl ?_;refine br @aa7 ?_;refine ev Ee av ?_;refine br @aa7 ?_;exact⟨_,_,rfl,rfl,rfl⟩
def an8(h:aq)(key e s:Int)(he:0<=e/\e<1073741789):
 ∃r h',W6.call 96 [im key,.agg [im e,im s]] h=aa (r,h')/\h'=h.push [im e,im s]/\r=.ret (im (jk (eR 4 s) (eR key (0 - e)))):=by
 have c1:=RR 4 s;have c2:=RR key (0 - e);have c3:=aaz (eR 4 s) (eR key (0 - e));have bx:(AV.agg [im e,im s]).bP=aa [im e,im s]:=rfl;have l0:aH ao Gt (h.push [im e,im s]) 3 (.ptr (.box h.boxes.length) 0)=aa (im e):=ct eD (aZ _ _) rfl;have l1:aH ao Gt (h.push [im e,im s]) 3 (.ptr (.box h.boxes.length) 1)=aa (im s):=ct eD (aZ _ _) rfl;have wn:IntKind.i64.wrap (0 - e)=0 - e:=fN ag ag;generalize jk (eR 4 s) (eR key (0 - e))=R at *
 generalize eR 4 s=u at *
 generalize eR key (0 - e)=v at *
 unfold im at *
 refine db rfl Tryz.func96 rfl ?_;refine bA @ar8 @bg @qL @pM ?_;exact⟨_,_,rfl,rfl,rfl⟩
def asF(h:aq)(key e s:Int)(T:AV)(text:List UInt8)(ht:BL T text)(hl:text.length<=1000000):
 ∃r h',W6.call 39 [im key,T,.agg [im e,im s]] h=aa (r,h')/\Ext h h'/\r=.ret (.v (.bool (nI key text e s))):=by
 have c1:=Mo key;have bx:(AV.agg [im e,im s]).bP=aa [im e,im s]:=rfl;have b0:=aZ h [im e,im s];have l0:aH ao Gt (h.push [im e,im s]) 3 (.ptr (.box h.boxes.length) 0)=aa (im e):=ct eD b0 rfl;have l1:aH ao Gt (h.push [im e,im s]) 3 (.ptr (.box h.boxes.length) 1)=aa (im s):=ct eD b0 rfl;have l2:=vg b0;have kv:al (nI key text e s=(bI key&&bX e&&bX s&&decide (e=((rn ((bF Gn s * bF key.toNat (0 - e)%P:Nat):Int) key text:Nat):Int)))):=⟨by rw[Int.zero_sub];rfl⟩;generalize nI key text e s=res at *
 refine db rfl Tryz.func39 rfl ?_;cases hC:bI key with
 |false=>
  rw[hC] at c1;have kr:al (res=az):=⟨by rw[kv.out,hC];rfl⟩;clear hC kv ht b0;unfold im at *
  refine bA @zH @qL @pM @bg ?_;exact⟨_,_,rfl,.push _ _,by rw[kr.out]⟩
 |true=>
 rw[hC] at c1;by_cases h1:e<0
 ·have kr:al (res=az):=⟨by rw[kv.out];unfold bX;rw[cE (ag:¬0<=e)];simp⟩;clear hC kv ht b0;unfold im at *
  refine bA @zH @qL @pM @bg ?_;exact⟨_,_,rfl,.push _ _,by rw[kr.out]⟩
 by_cases h2:1073741789<=e
 ·have kr:al (res=az):=⟨by rw[kv.out];unfold bX Qi;rw[cE (ag:¬e<1073741789)];simp⟩;clear hC kv ht b0;unfold im at *
  refine bA @zH @qL @pM @bg ?_;exact⟨_,_,rfl,.push _ _,by rw[kr.out]⟩
 by_cases h3:s<0
 ·have kr:al (res=az):=⟨by rw[kv.out];unfold bX;rw[cE (ag:¬0<=s)];simp⟩;clear hC kv ht b0;unfold im at *
  refine bA @zH @qL @pM @bg ?_;exact⟨_,_,rfl,.push _ _,by rw[kr.out]⟩
 by_cases h4:1073741789<=s
 ·have kr:al (res=az):=⟨by rw[kv.out];unfold bX Qi;rw[cE (ag:¬s<1073741789)];simp⟩;clear hC kv ht b0;unfold im at *
  refine bA @zH @qL @pM @bg ?_;exact⟨_,_,rfl,.push _ _,by rw[kr.out]⟩
 have hr:=VQ (uR sX s) (uR hC (0 - e));have hR:jk (eR 4 s) (eR key (0 - e))=((bF Gn s * bF key.toNat (0 - e)%P:Nat):Int):=by rw[AB (uR sX s) (uR hC (0 - e)),sY sX,sY hC,dV,dV];rfl
 have kr:al (res=decide (e=((rn (jk (eR 4 s) (eR key (0 - e))) key text:Nat):Int))):=⟨by rw[kv.out,hC,hR,rW.2 (show okF e from⟨ag,by have:Qi=1073741789:=rfl;omega⟩),rW.2 (show okF s from⟨ag,by have:Qi=1073741789:=rfl;omega⟩)];rfl⟩;have hk:=As hC;have lQ:=As hr;obtain⟨_,_,c2,rfl,rfl⟩:=an8 (h.push [im e,im s]) key e s ⟨ag,by omega⟩;clear hR hr;generalize jk (eR 4 s) (eR key (0 - e))=R at *
 obtain⟨_,_,c3,rfl,rfl⟩:=Xa ((h.push [im e,im s]).push [im e,im s]) R key T text ⟨ag,by omega⟩ ⟨ag,by omega⟩ ht hl;generalize ((rn R key text:Nat):Int)=n at *
 have l0b:aH ao Gt ((h.push [im e,im s]).push [im e,im s]) 3 (.ptr (.box h.boxes.length) 0)=aa (im e):=ct eD (aY b0) rfl;have kx:al (Ext h ((h.push [im e,im s]).push [im e,im s])):=⟨(Ext.push _ _).trans (.push _ _)⟩;clear hC kv ht b0 hk lQ;unfold im at *
 refine bA @zH @qL @pM @bg ?_;refine ng [(1,4),(1,7)] Ee av (λp hp=>?_) ?_
 ·simp only[iu,vH,or_false] at hp;rcases hp with rfl|rfl
  ·refine wL (x:=.ptr (.box h.boxes.length) 0) (v:=.v (.int .i64 e)) av rfl rfl rfl av (by simp[fc,lX]) ?_ ?_<;>(simp only[hU,fR];exact mT @zH @qL @pM @and_self)
  ·refine wL (x:=.ptr (.box h.boxes.length) 0) (v:=.v (.int .i64 e)) av rfl rfl rfl av (by simp[fc,lX]) ?_ ?_<;>(simp only[hU,fR];exact mT @zH @qL @pM @and_self)
 refine cQ @zH @qL @pM ?_;exact⟨_,_,rfl,kx.out,by rw[kr.out]⟩
def L9:List FuncId:=L8++[117,51,50,170,74]
noncomputable def RF:FuncId->Option (List AV->aq->Option (AV × aq)):=qJ W8 L9
noncomputable abbrev W9:=whole ao Gt RF
def U9:qE RF L9:=yM
structure py(X Y C T L:AV)(ae:List (List Int))(owners aj:List Int)(text:List UInt8)(l:List Pr):Prop where
 x:RL X ae
 y:IL Y owners
 c:IL C aj
 t:BL T text
 p:PL L l
structure DN(aj:List Int)(text:List UInt8)(l:List Pr):Prop where
 pos:0<aj.length
 c0:0<=ai aj 0/\ai aj 0<=4611686018427387903
 tl:text.length<=65536
 ll:l.length<=64
 ne:l≠[]
 ok:∀p∈l,D4 p
 el:∀p∈l,bI p.d=ah/\bI p.e=ah
section
variable {X Y C T L:AV} {ae:List (List Int)} {owners aj:List Int} {text:List UInt8} {l:List Pr}
def py.hold(g:py X Y C T L ae owners aj text l):py (aC X) (aC Y) (aC C) (aC T) (aC L) ae owners aj text l/\aK 0 0 0 (aC X)=ah/\aK 0 0 0 (aC Y)=ah/\aK 0 0 0 (aC C)=ah/\aK 0 0 0 (aC T)=ah/\aK 0 0 0 (aC L)=ah:=by obtain⟨h1,h2⟩:=g.x.fZ;obtain⟨h3,h4⟩:=g.y.hold;obtain⟨h5,h6⟩:=g.c.hold;obtain⟨h7,h8⟩:=g.t.fZ;obtain⟨h9,qM⟩:=g.p.fZ;exact⟨⟨h1,h3,h5,h7,h9⟩,h2,h4,h6,h8,qM⟩
def py.cells(g:py X Y C T L ae owners aj text l)(ep:Int):(AV.agg (aN ep X Y C)).bP=aa (aN ep X Y C):=uu g.x g.y g.c
end
section
variable (R:Rec)
def F2:Prop:=∀ep X Y C T L ae owners aj text l aB,py X Y C T L ae owners aj text l->DN aj text l->0<=aB/\aB<=4611686018427387903->∀h,R.call 51 [.agg (aN ep X Y C),T,L,im aB] h=aa (.ret (im ((eU (ai aj 0) text l aB:Nat):Int)),h)
def F4:Prop:=∀ep X Y C T L ae owners aj text l,py X Y C T L ae owners aj text l->ae.length<=1000000->aj.length<=1000000->l.length<=1000000->∀h,R.call 50 [.agg (aN ep X Y C),T,L] h=aa (.ret (im (cC ae owners ep aj text l)),h)
def DK:Prop:=∀p key T text,0<=p/\p<=4611686018427387903->0<=key/\key<=4611686018427387903->BL T text->text.length<=1000000->∀h,R.call 95 [im p,im key,T] h=aa (.ret (im ((rn p key text:Nat):Int)),h)
end
section
variable {R:Rec} {L:List FuncId}
def F2.up(hg:L.contains 51=ah)(c:F2 R):F2 (up R L):=λep X Y C T L' ae owners aj text l aB g f hk=>by obtain⟨g2,f1,f2,f3,f4,f5⟩:=g.hold;exact bm (b9:=[.agg (aN ep (aC X) (aC Y) (aC C)),aC T,aC L',im aB]) hg rfl (by simp[aN,im,aP,aK,f1,f2,f3,f4,f5]) (c ep _ _ _ _ _ ae owners aj text l aB g2 f hk _) rfl rfl
def F4.up(hg:L.contains 50=ah)(c:F4 R):F4 (up R L):=λep X Y C T L' ae owners aj text l g q1 q2 q3=>by obtain⟨g2,f1,f2,f3,f4,f5⟩:=g.hold;exact bm (b9:=[.agg (aN ep (aC X) (aC Y) (aC C)),aC T,aC L']) hg rfl (by simp[aN,aP,aK,f1,f2,f3,f4,f5]) (c ep _ _ _ _ _ ae owners aj text l g2 q1 q2 q3 _) rfl rfl
def DK.up(hg:L.contains 95=ah)(c:DK R):DK (up R L):=λp key T text hp hk ht hl=>by obtain⟨h1,h2⟩:=ht.fZ;exact bm (b9:=[im p,im key,aC T]) hg rfl (by simp[im,aP,aK,h2]) (c p key _ text hp hk h1 hl _) rfl rfl
end
def atd:DK W7:=λp key T text hp hk ht hl=>by obtain⟨h1,h2⟩:=ht.fZ;obtain⟨r,h',c,-,rfl⟩:=Xa ⟨[],[],0,[]⟩ p key _ text hp hk h1 hl;exact bm (L:=L7) (b9:=[im p,im key,aC T]) rfl rfl (by simp[im,aP,aK,h2]) c rfl rfl
def ate:DK W8:=atd.up rfl
def atf:DK W9:=ate.up rfl
def aoq:Br W9 62:=aop.up rfl
def Zx:Bq W9 73:=amT.up rfl
def agm:zU W9 65:=aej.up rfl
def agU:DF W9:=aiP.up rfl
def Vh:F2 W9:=λep X Y C T L' ae owners aj text l aB g f hk=>by obtain⟨g2,f1,f2,f3,f4,f5⟩:=g.hold;obtain⟨r,h',c,-,rfl⟩:=afC ⟨[],[],0,[]⟩ ep _ _ _ _ _ aj text l aB (g2.cells ep) g2.c g2.t g2.p f.pos f.c0 f.tl f.ll f.ne f.ok hk;exact bm (L:=L9) (b9:=[.agg (aN ep (aC X) (aC Y) (aC C)),aC T,aC L',im aB]) rfl rfl (by simp[aN,im,aP,aK,f1,f2,f3,f4,f5]) c rfl rfl
def agS:F4 W9:=λep X Y C T L' ae owners aj text l g q1 q2 q3=>by obtain⟨g2,f1,f2,f3,f4,f5⟩:=g.hold;obtain⟨r,h',c,rfl⟩:=aiD ⟨[],[],0,[]⟩ ep _ _ _ _ _ ae owners aj text l g2.x g2.y g2.c g2.t g2.p q1 q2 q3;exact bm (L:=L9) (b9:=[.agg (aN ep (aC X) (aC Y) (aC C)),aC T,aC L']) rfl rfl (by simp[aN,aP,aK,f1,f2,f3,f4,f5]) c rfl rfl
def Mf:Tryz.f52.results.toList=[.tmp 6]:=by kernel_rfl
def Mg:Tryz.f53.results.toList=[.tmp 6]:=by kernel_rfl
def aac(h:aq)(ep:Int)(X Y C T L:AV)(ae:List (List Int))(owners aj:List Int)(text:List UInt8)(l:List Pr)(g:py X Y C T L ae owners aj text l)(f:DN aj text l):
 ∃r h',W9.call 52 [.agg (aN ep X Y C),T,L] h=aa (r,h')/\h'=h.push (aN ep X Y C)/\r=.ret (im ((gM (ai aj 0) text l:Nat):Int)):=by
 have bx:=g.cells ep;have cb:=λk hk=>Vh ep X Y C T L ae owners aj text l k g f hk;have b0:=aZ h (aN ep X Y C);have l0:aH ao Gt (h.push (aN ep X Y C)) 27 (.ptr (.box h.boxes.length) 0)=aa (.agg (aN ep X Y C)):=ve b0 rfl;obtain⟨kp,sp,rfl,mh⟩:=g.p;have bD:sp=4:=mh f.ne;subst bD;have u29:=yC;have z85:=uD;have cS:=xT l;have kf:=al.mk (aw f cb);have dG:=f.ll;have Qe:al (gM (ai aj 0) text l=l.foldl (λx p=>x * kj (ai aj 0) text l p%P) 1):=⟨rfl⟩;generalize gM (ai aj 0) text l=pt at *
 obtain⟨H0,hH⟩:∃H0,h.push (aN ep X Y C)=H0:=⟨_,rfl⟩;rw[hH] at l0;rw[hH];clear b0 g f mh cb;generalize aN ep X Y C=K at *
 refine db rfl Tryz.func52 rfl ?_;refine cQ @Mf @bg @hH ?_;refine bH.gen λe0 aF bB cU cN=>?_;have f1:e0.get 1=T:=by rw[aF];exact gS
 have f2:e0.get 2=.list kp 4 (fb l):=by rw[aF];exact gS
 have f3:e0.get 3=.ptr (.box h.boxes.length) 0:=by rw[aF];exact gS
 have f7:e0.get 7=.v (.int .i64 (((l.take 0).foldl (λx p=>x * kj (ai aj 0) text l p%P) 1:Nat):Int)):=by rw[aF];exact gR
 have f8:e0.get 8=.v (.int .i64 (0:Nat)):=by rw[aF];exact gR
 have fd:e0.defers=[]:=by rw[bB];exact gS
 clear aF bB cU cN bx hH;refine cz (λm e H=>∃i:Nat,i<=l.length/\m=l.length - i/\e.get 1=T/\e.get 2=.list kp 4 (fb l)/\e.get 3=.ptr (.box h.boxes.length) 0/\e.get 7=.v (.int .i64 (((l.take i).foldl (λx p=>x * kj (ai aj 0) text l p%P) 1:Nat):Int))/\e.get 8=.v (.int .i64 (i:Nat))/\e.defers=[]/\H=H0) ?_ l.length _ _ ?_;rotate_left 1
 ·exact⟨0,cA _,rfl,f1,f2,f3,f7,f8,fd,rfl⟩
 clear f1 f2 f3 f7 f8 fd;rintro m e H ⟨i,hi,rfl,g1,g2,g3,g7,g8,hd,rfl⟩;by_cases aA:i<l.length
 ·obtain⟨p,hv⟩:∃p,l[i]?=aa p:=⟨_,aR aA⟩;have qn:=dj hv;have pU:=kf.out.1.ok p qn;obtain⟨gi,KF⟩:=kf.out.1.el p qn;obtain⟨ld0,-,ld2,mi⟩:=Fe (s:=4) hv;have c1:=kf.out.2 p.aB (pU p.aB bE);have c2:=aoq p.e ((eU (ai aj 0) text l p.aB:Nat):Int);have c3:=Zx p.d (eR p.e ((eU (ai aj 0) text l p.aB:Nat):Int));have hN:jk p.d (eR p.e ((eU (ai aj 0) text l p.aB:Nat):Int))=((kj (ai aj 0) text l p:Nat):Int):=by rw[AB gi (uR KF _),sY KF];unfold kj;rw[dV];unfold eU;rw[LB]
  rw[hN] at c3;have bG:=Fo (c0:=ai aj 0) (text:=text) (l:=l) gi KF;have YG:elem ((l.take i).foldl (λx p=>x * kj (ai aj 0) text l p%P) 1)=ah:=
   De (λq hq=>Fo (kf.out.1.el q (pE hq)).1 (kf.out.1.el q (pE hq)).2) At
  have c4:=Zx (((l.take i).foldl (λx p=>x * kj (ai aj 0) text l p%P) 1:Nat):Int) ((kj (ai aj 0) text l p:Nat):Int);have bT:jk (((l.take i).foldl (λx p=>x * kj (ai aj 0) text l p%P) 1:Nat):Int) ((kj (ai aj 0) text l p:Nat):Int)=(((l.take (i+1)).foldl (λx p=>x * kj (ai aj 0) text l p%P) 1:Nat):Int):=by rw[AB (tU YG) (tU bG),ft hv,oj,dV,dV];rfl
  rw[bT] at c4;have fx:(i:Int)<(l.length:Int):=by omega
  clear hv qn pU gi KF hN bG YG bT;generalize (((l.take i).foldl (λx p=>x * kj (ai aj 0) text l p%P) 1:Nat):Int)=x0 at *
  generalize ((kj (ai aj 0) text l p:Nat):Int)=nn at *
  generalize ((eU (ai aj 0) text l p.aB:Nat):Int)=bn at *
  generalize eR p.e bn=pw at *
  unfold im at *
  refine cQ @Mf @rJ @bh ?_
  repeat' (first|simp(maxSteps:=999999)(disch:=first|exact dZ|fail)only[gW,reduceIte,aO,aM,Mf,rJ,bh, *]|(refine dX ?_ ?_<;>(intro _;try omega))|refine ev U9 jd ?_)
  exact⟨l.length - (i+1),by omega,i+1,by omega,rfl,by simp⟩
 ·have fF:i=l.length:=by omega
  subst fF;rw[fC,<-Qe.out] at g7;refine br @Mf ?_;exact⟨_,_,rfl,rfl,rfl⟩
def an9{c0}{text}{l}(h:∀p∈l,bI p.d=ah/\bI p.e=ah):0<=((gM c0 text l:Nat):Int)/\((gM c0 text l:Nat):Int)<=4611686018427387903:=by
 have he:elem (gM c0 text l)=ah:=De (λp hp=>Fo (h p hp).1 (h p hp).2) At;have:=(elem_iff.1 he).2.1;have hP:P<=4611686018427387903:=by decide
 omega
def agW(h:aq)(ep:Int)(X Y C T L:AV)(ae:List (List Int))(owners aj:List Int)(text:List UInt8)(l:List Pr)(g:py X Y C T L ae owners aj text l)(f:DN aj text l):
 ∃r h',W9.call 53 [.agg (aN ep X Y C),T,L] h=aa (r,h')/\Ext h h'/\r=.ret (im ((dF (ai aj 0) text l:Nat):Int)):=by
 have bx:=g.cells ep;obtain⟨_,H2,c1,e2,rfl⟩:=aac (h.push (aN ep X Y C)) ep X Y C T L ae owners aj text l g f;have c2:=atf ((gM (ai aj 0) text l:Nat):Int) (ai aj 0) T text (an9 f.el) f.c0 g.t (by have:=f.tl;omega);have ud:rn ((gM (ai aj 0) text l:Nat):Int) (ai aj 0) text=dF (ai aj 0) text l:=rfl;rw[ud] at c2;have b0:=aZ h (aN ep X Y C);have l0:aH ao Gt (h.push (aN ep X Y C)) 27 (.ptr (.box h.boxes.length) 0)=aa (.agg (aN ep X Y C)):=ve b0 rfl;obtain⟨kc,sc,rfl,uZ⟩:=g.c;have jb:=f.pos;have bD:sc=1:=uZ (by intro e;rw[e] at jb;simp at jb);subst bD;have l2:aH ao Gt (h.push (aN ep X Y (.list kc 1 (ints aj)))) 23 (.ptr (.box h.boxes.length) 3)=aa (.list kc 1 (ints aj)):=ct kU b0 rfl;have l3:aH ao Gt H2 23 (.ptr (.box h.boxes.length) 3)=aa (.list kc 1 (ints aj)):=by rw[e2];exact ct kU (aY b0) rfl
 have l4:=λH=>eE (H:=H) (l:=aj) (i:=0) (s:=1) jb;have X2:Ext h H2:=by rw[e2];exact(Ext.push _ _).trans (.push _ _)
 have u23:=dQ;have z3:=fP;have cS:=dD aj;have KX:(0:Int)<(aj.length:Int):=by omega
 have z0:(0:Int).toNat=0:=rfl;have svs:=I9 kc 1 aj;clear b0 e2 ud uZ jb g f;generalize ((dF (ai aj 0) text l:Nat):Int)=ch at *
 generalize ((gM (ai aj 0) text l:Nat):Int)=pt at *
 generalize ai aj 0=c0 at *
 obtain⟨H0,hH⟩:∃H0,h.push (aN ep X Y (.list kc 1 (ints aj)))=H0:=⟨_,rfl⟩;rw[hH] at l0 l2 c1;generalize aN ep X Y (.list kc 1 (ints aj))=K at *
 unfold im at *
 refine db rfl Tryz.func53 rfl ?_;refine cQ @Mg @bg @hH ?_;refine ng [(3,5),(3,7)] U9 jd (λp hp=>?_) ?_
 ·simp only[iu,vH,or_false] at hp;rcases hp with rfl|rfl
  ·refine sw (x:=.ptr (.box h.boxes.length) 3) (v:=.list kc 1 (ints aj)) jd rfl rfl rfl jd (svs) ?_ ?_<;>(simp only[hU,fR];exact mT @Mg @gV @bh @and_self)
  ·refine sw (x:=.elem 1 (ints aj) 0 0) (v:=.v (.int .i64 c0)) jd rfl rfl rfl jd (by simp[fc,lX]) ?_ ?_<;>(simp only[hU,fR];exact mT @Mg @gV @bh @and_self)
 refine cQ @Mg @gV @bh ?_;exact⟨_,_,rfl,X2,rfl⟩
def Bt:List FuncId:=L9++[52,53,131]
noncomputable def Rz:FuncId->Option (List AV->aq->Option (AV × aq)):=qJ W9 Bt
noncomputable abbrev rE:=whole ao Gt Rz
def GU:qE Rz Bt:=yM
section
variable (R:Rec)
def acC:Prop:=∀ep X Y C T L ae owners aj text l,py X Y C T L ae owners aj text l->DN aj text l->∀h,R.call 52 [.agg (aN ep X Y C),T,L] h=aa (.ret (im ((gM (ai aj 0) text l:Nat):Int)),h)
def acB:Prop:=∀ep X Y C T L ae owners aj text l,py X Y C T L ae owners aj text l->DN aj text l->∀h,R.call 53 [.agg (aN ep X Y C),T,L] h=aa (.ret (im ((dF (ai aj 0) text l:Nat):Int)),h)
end
def ahK:acC rE:=λep X Y C T L' ae owners aj text l g f=>by obtain⟨g2,f1,f2,f3,f4,f5⟩:=g.hold;obtain⟨r,h',c,-,rfl⟩:=aac ⟨[],[],0,[]⟩ ep _ _ _ _ _ ae owners aj text l g2 f;exact bm (L:=Bt) (b9:=[.agg (aN ep (aC X) (aC Y) (aC C)),aC T,aC L']) rfl rfl (by simp[aN,aP,aK,f1,f2,f3,f4,f5]) c rfl rfl
def agN:acB rE:=λep X Y C T L' ae owners aj text l g f=>by obtain⟨g2,f1,f2,f3,f4,f5⟩:=g.hold;obtain⟨r,h',c,-,rfl⟩:=agW ⟨[],[],0,[]⟩ ep _ _ _ _ _ ae owners aj text l g2 f;exact bm (L:=Bt) (b9:=[.agg (aN ep (aC X) (aC Y) (aC C)),aC T,aC L']) rfl rfl (by simp[aN,aP,aK,f1,f2,f3,f4,f5]) c rfl rfl
def agJ:F2 rE:=Vh.up rfl
def Vn:F4 rE:=agS.up rfl
def agT:DF rE:=agU.up rfl
def agk:zU rE 65:=agm.up rfl
def Oy{x}(h:bI x=ah):0<=x/\x<=4611686018427387903:=by
 have h1:=(elem_iff.1 (BY h)).2.1;unfold bI at h;simp only[bC,decide_eq_true_eq] at h;have hP:P<=4611686018427387903:=by decide
 have:=h.1;omega
def V5{ae}{owners aj}{ep}{text}{l}(h:cC ae owners ep aj text l=0):DN aj text l:=by
 obtain⟨h1,h2,h3,h4,h5,h6⟩:=Ec h;obtain⟨n1,-⟩:=sU h1;have hm:=zB h6;refine⟨ag,Oy ?_,h5,h4,?_,λp hp n hn=>?_,λp hp=>⟨(hm p hp).2.2.2.2.1,(hm p hp).2.2.2.2.2⟩⟩
 ·refine ey.1 h3 _ ?_;rw[fm (ag:0<aj.length)];exact List.getElem_mem _
 ·rintro rfl;unfold cC at h;rw[aI (by simp[h1])] at h;split at h
  ·cases h
  ·rw[aI ag,aI bE] at h;simp[NT.gd] at h
 ·obtain⟨q1,q2,q3,q4,q5,q6⟩:=hm p hp;simp only[iu,vH,or_false] at hn;rcases hn with rfl|rfl|rfl|rfl
  ·omega
  ·omega
  ·exact Oy q5
  ·exact Oy q6
def FD:Tryz.f18.results.toList=[.tmp 6,.tmp 7,.tmp 8,.tmp 9]:=by kernel_rfl
def ao5(h:aq)(bq:cG h=ah)(ep:Int)(X Y C T L:AV)(ae:List (List Int))(owners aj:List Int)(text:List UInt8)(l:List Pr)(g:py X Y C T L ae owners aj text l)(cP:ae.length<=1000000)(de:aj.length<=1000000)(dG:l.length<=1000000):
 ∃r h',rE.call 18 [.agg (aN ep X Y C),T,L] h=aa (r,h')/\Ext h h'/\
  ((cC ae owners ep aj text l≠0/\r=.ret (.tuple [.list .nil 0 [],im 0,im 0,im (cC ae owners ep aj text l)]))∨
  (cC ae owners ep aj text l=0/\∃t,r=.ret (.tuple [.list t 1 (ints (rF (ai aj 0) text l)),im ((gM (ai aj 0) text l:Nat):Int),im ((dF (ai aj 0) text l:Nat):Int),im 0]))):=by
 have bx:=g.cells ep;have c1:=Vn ep X Y C T L ae owners aj text l g cP de dG;have b0:=aZ h (aN ep X Y C);have l0:aH ao Gt (h.push (aN ep X Y C)) 27 (.ptr (.box h.boxes.length) 0)=aa (.agg (aN ep X Y C)):=ve b0 rfl;have kX:=al.mk (Ext.push h (aN ep X Y C));unfold im at c1;refine db rfl Tryz.func18 rfl ?_;by_cases q1:cC ae owners ep aj text l=0;rotate_left 1
 ·have bB:decide (cC ae owners ep aj text l=0)=az:=cE q1;have kq:=al.mk q1;obtain⟨H0,hH⟩:∃H0,h.push (aN ep X Y C)=H0:=⟨_,rfl⟩;rw[hH] at l0 kX;generalize cC ae owners ep aj text l=be at *
  clear q1 b0 g;generalize aN ep X Y C=K at *
  refine cQ @FD @bg @hH ?_;exact⟨_,_,rfl,kX.out,.inl ⟨kq.out,rfl⟩⟩
 have f:=V5 q1;have kq:=al.mk q1;rw[q1] at c1;have c2:=ahK ep X Y C T L ae owners aj text l g f;have c3:=agN ep X Y C T L ae owners aj text l g f;have cb:=al.mk λk hk=>agJ ep X Y C T L ae owners aj text l k g f hk;obtain⟨kp,sp,rfl,mh⟩:=g.p;have bD:sp=4:=mh f.ne;subst bD;have u29:=yC;have u23:=dQ;have z85:=uD;have cS:=xT l;have bn:gf ao 23 0 []=aa (.list .tight 1 []):=by kernel_rfl
 have kf:=al.mk f;have kok:al (cG (h.push (aN ep X Y C))=ah):=⟨bq⟩;have kB:=al.mk b0;have kKl:al ((aN ep X Y C).length=4):=⟨rfl⟩;have mV:al (rF (ai aj 0) text l=l.map λp=>((eU (ai aj 0) text l p.aB:Nat):Int)):=⟨rfl⟩;clear q1 b0 g f mh;generalize rF (ai aj 0) text l=JZ at *
 generalize ((dF (ai aj 0) text l:Nat):Int)=ch at *
 generalize ((gM (ai aj 0) text l:Nat):Int)=pt at *
 generalize cC ae owners ep aj text l=be at *
 obtain⟨H0,hH⟩:∃H0,h.push (aN ep X Y C)=H0:=⟨_,rfl⟩;rw[hH] at l0 kX kok kB;generalize aN ep X Y C=K at *
 unfold im at c2 c3;refine cQ @FD @bg @hH ?_;refine bH.gen λe0 aF bB cU cN=>?_;have f1:e0.get 1=T:=by rw[aF];exact gS
 have f2:e0.get 2=.list kp 4 (fb l):=by rw[aF];exact gS
 have f3:e0.get 3=.ptr (.box h.boxes.length) 0:=by rw[aF];exact gS
 have f11:e0.get 11=.list .tight 1 (ints ((l.take 0).map λp=>((eU (ai aj 0) text l p.aB:Nat):Int))):=by rw[aF];exact gR
 have f12:e0.get 12=.v (.int .i64 (0:Nat)):=by rw[aF];exact gR
 have fd:e0.defers=[]:=by rw[bB];exact gS
 clear aF bB cU cN bx hH bn l0 c1;refine cz (λm e H=>∃(i:Nat) (t:Tok),i<=l.length/\m=l.length - i/\al (Ext h H/\cG H=ah/\dm h.tn H t/\H.boxes[h.boxes.length]?=aa K)/\e.get 1=T/\e.get 2=.list kp 4 (fb l)/\e.get 3=.ptr (.box h.boxes.length) 0/\e.get 11=.list t 1 (ints ((l.take i).map λp=>((eU (ai aj 0) text l p.aB:Nat):Int)))/\e.get 12=.v (.int .i64 (i:Nat))/\e.defers=[]) ?_ l.length _ _ ?_;rotate_left 1
 ·exact⟨0,.tight,cA _,rfl,⟨kX.out,kok.out,.inr (.inl rfl),kB.out⟩,f1,f2,f3,f11,f12,fd⟩
 clear f1 f2 f3 f11 f12 fd kX kok kB;rintro m e H ⟨i,t,hi,rfl,kM,g1,g2,g3,g11,g12,hd⟩;have l0:=ve kM.out.2.2.2 kKl.out;by_cases aA:i<l.length
 ·obtain⟨p,hv⟩:∃p,l[i]?=aa p:=⟨_,aR aA⟩;have pU:=kf.out.ok p (dj hv);obtain⟨ld0,-,-,-⟩:=Fe (s:=4) hv;have cbb:=cb.out p.aB (pU p.aB bE);have bl:=pI ((eU (ai aj 0) text l p.aB:Nat):Int);have ap:=tQ (H:=H) (x:=((eU (ai aj 0) text l p.aB:Nat):Int)) (es:=(l.take i).map λp=>((eU (ai aj 0) text l p.aB:Nat):Int)) (sz:=1) (by rw[bu,eS];omega) (.inl rfl) kM.out.2.2.1;have jc:((l.take i).map λp=>((eU (ai aj 0) text l p.aB:Nat):Int))++[((eU (ai aj 0) text l p.aB:Nat):Int)]=(l.take (i+1)).map λp=>((eU (ai aj 0) text l p.aB:Nat):Int):=by rw[ft hv,mw];rfl
  rw[jc] at ap;have hG:=Grown.one kM.out.2.2.1 kM.out.2.1 kM.out.1.tn;have kM2:al (Ext h (H.app t)/\cG (H.app t)=ah/\dm h.tn (H.app t) (.free H.tn)/\(H.app t).boxes[h.boxes.length]?=aa K):=⟨hG.ext kM.out.1 (aJ _),hG.ok,hG.can,by rw[ec];exact kM.out.2.2.2⟩;have fx:(i:Int)<(l.length:Int):=by omega
  clear hv pU jc hG kM;unfold im at cbb;refine cQ @FD @rJ @bh ?_
  repeat' (first|simp(maxSteps:=999999)(disch:=first|exact dZ|fail)only[gW,reduceIte,aO,aM,FD,rJ,bh, *]|(refine dX ?_ ?_<;>(intro _;try omega))|refine ev GU jd ?_)
  exact⟨l.length - (i+1),by omega,i+1,.free H.tn,by omega,rfl,(by first|exact kM2|trivial),by simp⟩
 ·have fF:i=l.length:=by omega
  subst fF;rw[fC,<-mV.out] at g11;refine br @FD ?_
  repeat' (first|simp(maxSteps:=999999)(disch:=first|exact dZ|fail)only[gW,reduceIte,aO,aM,FD, *]|(refine dX ?_ ?_<;>(intro _;try omega))|refine ev GU jd ?_)
  exact⟨_,_,rfl,kM.out.1,.inr ⟨kq.out,t,rfl⟩⟩
section
variable (R:Rec)
def M5:Prop:=∀h,R.call 15 [] h=aa (.ret (.v (.bool ah)),h)
def MZ:Prop:=∀ep X Y C T L ae owners aj text l,py X Y C T L ae owners aj text l->aj.length<=1000000->l.length<=1000000->
 (cC ae owners ep aj text l≠0/\∀h,R.call 17 [.agg (aN ep X Y C),T,L] h=aa (.ret (.tuple [.list .nil 0 [],im 0,im 0,im (cC ae owners ep aj text l)]),h))∨
  (cC ae owners ep aj text l=0/\∃Z,IL Z (rF (ai aj 0) text l)/\∀h,R.call 17 [.agg (aN ep X Y C),T,L] h=aa (.ret (.tuple [Z,im ((gM (ai aj 0) text l:Nat):Int),im ((dF (ai aj 0) text l:Nat):Int),im 0]),h))
end
section
variable {R:Rec} {L:List FuncId}
def M5.up(hg:L.contains 15=ah)(c:M5 R):M5 (up R L):=bm hg rfl rfl (c _) rfl rfl
def MZ.up(hg:L.contains 17=ah)(c:MZ R):MZ (up R L):=λep X Y C T L' ae owners aj text l g q1 q2=>by
 obtain⟨g2,f1,f2,f3,f4,f5⟩:=g.hold;rcases c ep _ _ _ _ _ ae owners aj text l g2 q1 q2 with⟨q,c⟩|⟨q,Z,hZ,c⟩
 ·exact .inl ⟨q,bm (b9:=[.agg (aN ep (aC X) (aC Y) (aC C)),aC T,aC L']) hg rfl (by simp[aN,aP,aK,f1,f2,f3,f4,f5]) (c _) rfl rfl⟩
 ·obtain⟨z1,z2⟩:=hZ.QD ⟨[],[],0,[]⟩;exact .inr ⟨q,_,z1,bm (b9:=[.agg (aN ep (aC X) (aC Y) (aC C)),aC T,aC L']) hg rfl (by simp[aN,aP,aK,f1,f2,f3,f4,f5]) (c _) rfl (by simp[im,ur,aK,aP,z2,gH])⟩
end
end Go.Proofs.YtnfciiiohoafaaaGreatDoor
end
