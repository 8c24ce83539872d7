/-
  The engine, part 47: lists that grow.
-/
import Derived.Test.YtnfciiiohoafaaaGreatDoorUC
import Derived.Test.YtnfciiiohoafaaaGreatDoorUB
open True renaming intro->aU
open List renaming replicate->a9,replicate_succ->Bz,flatten_cons->pC,length_nil->kQ,getElem?_toArray->jy,getElem?_cons_zero->jV,getElem?_cons_succ->p8,getElem?_map->ej,take_append_drop->yz,flatten_append->rC,length_append->dw,getElem?_eq_getElem->aR,take_length->fC,mem_of_getElem?->dj,mem_flatten->Nq,mem_cons_self->fW,not_mem_nil->vH,getElem?_eq_some_iff->aS,mem_of_mem_take->pE,length_replicate->mM,nil_append->lJ,replicate_zero->adk,append_nil->jr,length_map->bu,drop_zero->iO,take_of_length_le->gm,map_cons->eC,map_nil->vE,head?_drop->JG,getD_eq_getElem?_getD->ez,foldl_append->oj,getElem?_set->mL,length_set->mr,all_eq_true->ey,mem_cons->iu,length_take->eS,length_drop->hJ,mem_map->jP,getElem?_take->oJ,getElem?_drop->pD,range->bM,mem_filter->vG,set_set->DW,ext_getElem?->rB,mem_cons_of_mem->fE,filter_cons_of_neg->ac0,filter_cons_of_pos->ac1,ext_getElem->JE,getElem_map->p9,getElem_range->Bv,mem_range->fQ,getElem?_append_right->Ab,mem_singleton->my,mem_or_eq_of_mem_set->wS,getElem_mem->iW,eq_of_mem_replicate->JD,getElem?_replicate->Ni,nodup_cons->Gq,foldl_cons->yw,contains_iff_mem->acU,mem_iff_getElem->By,getElem?_mapIdx->ac4,map_map->Bx,cons_append->kL,append_assoc->tL,take_succ_cons->hU,take_zero->fR,length_cons->iP,getElem?_range->yx
open Go.Proofs.Tryz renaming prog->ao,underlying28->jz,underlying3->yD,func206->adV,underlying23->dQ,underlying9->D5,func132->adN,func140->Ua,underlying94->qg,func207->Ue,func186->Uc,func187->Ud,func188->adS,func164->Ub
open Option renaming some->aa,none->au,bind_some->oq,map_some->ff,some.injEq->dP,map_map->NL
open Nat renaming beq->jQ,ble->NA,eq_of_beq_eq_true->jW,le_of_ble_eq_true->jR,mul_le_mul->qG,mul_one->oN,zero_add->qb,le_trans->fw,zero_le->cA,reduceEqDiff->aO,eq_zero_or_pos->Gy,le_refl->aJ,sub_self->uK,and_two_pow_sub_one_eq_mod->adt,pow_succ->BG,mul_pos->NG,pow_pos->NI,mod_lt->nj,add_mul->gJ,mod_eq_of_lt->oo,pow_le_pow_right->adG,shiftLeft_eq->BH,shiftLeft_add_eq_or_of_lt->NJ,lt_of_lt_of_le->ni,lt_succ_of_lt->wT,lt_or_ge->dW,shiftLeft_add->TL,shiftLeft_or_distrib->TM
open Bool renaming false->az,true->ah,and_eq_true->bC,and_true->FZ,not_eq_true'->zR
open Int renaming sub_zero->DR,natCast_zero->tK,dvd_add->yp,zero_mul->JC,emod_eq_emod_iff_emod_sub_eq_zero->acI,emod_emod_of_dvd->DP,dvd_refl->DO,emod_eq_of_lt->M8,zero_add->Gf,toNat_natCast->dV,mul_comm->zW,mul_sub->zX,dvd_mul_of_dvd_right->Gb,fdiv_eq_ediv_of_nonneg->Gc
open And renaming intro->aw
open Prod renaming mk.injEq->dn,fst->GG
set_option maxHeartbeats 64000000
set_option maxRecDepth 100000
set_option linter.unusedSimpArgs false
set_option linter.unusedVariables false
set_option linter.constructorNameAsVariable false
set_option linter.defProp false
section
namespace Go.Proofs.YtnfciiiohoafaaaGreatDoor
open Go.AE Go.NT
def RQ(z:AV):∀n:Nat,(a9 n [z]).flatten=a9 n z
 |0=>rfl|n+1=>by rw[Bz,pC,RQ z n,Bz];rfl
def aaX:Tryz.f206.results.toList=[.tmp 4]:=av
def Bj:Tryz.f182.results.toList=[.tmp 2]:=av
def Vf:Eh ao 28 (.list .nil 0 [])=aa (.v (.int .i64 0)):=av
def abq:iN ao 28 (.list .nil 0 []) au (aa (.v (.int .i64 0))) au=aa (.list .nil 0 []):=av
def CY:∃i,ao.info? 5=aa i/\i.size=1/\i.bytes<=8/\(i.zero.map λz=>z.cells.size)=aa 1:=by
 have h:(match ao.info? 5 with|some i=>jQ i.size 1&&NA i.bytes 8&&decide ((i.zero.map λz=>z.cells.size)=aa 1)|none=>az)=ah:=av;split at h
 ·rename_i i hi;simp only[bC,decide_eq_true_eq] at h;exact⟨i,hi,jW h.1.1,jR h.1.2,h.2⟩
 ·cases h
def zr5:(gZ ao 5).bind AV.bP=aa [bZ 0]:=av
def ae2{H}{n}(h0:0<n)(hn:n<=1099511627776):gN ao H #[28,3] (.list .nil 0 []) (.v (.int .i64 (n:Nat)))=aa (.arr H.boxes.length 0 n n,H.push (a9 n [bZ 0]).flatten):=by obtain⟨i,h1,h2,h3,h4⟩:=CY;have:=qG hn h3;exact UC jz yD h1 zr5 h0 ag ag ag h2.symm
def ajD(n:Nat)(h0:0<n)(hn:n<=1099511627776)(H:aq):W.call 206 [.list .nil 0 [],.v (.int .i64 (n:Nat))] H=aa (.ret (.arr H.boxes.length 0 0 n),H.push (a9 n [bZ 0]).flatten):=by
 have u28:=jz;have a:=ae2 (H:=H) h0 hn;have e1:IntKind.i64.wrap ((0:Int) - 0)=0:=by rfl
 have e2:IntKind.i64.wrap (((n:Nat):Int) - 0)=((n:Nat):Int):=by rw[DR,fN ag ag]
 have s2:iN ao 28 (.arr H.boxes.length 0 n n) au (aa (.v (.int .i64 (0:Nat)))) au=aa (.arr H.boxes.length 0 0 n):=abo u28 tI aV aV ag h0;have s2:iN ao 28 (.arr H.boxes.length 0 n n) au (aa (.v (.int .i64 0))) au=aa (.arr H.boxes.length 0 0 n):=s2;have aA:(0:Int)<(n:Nat):=by omega
 refine cJ rfl adV rfl ?_;exact Kz @aaX @GX @Vf (aw @abq (aw @kQ.{0} (aw @tK @DR)))
def ajE(H:aq):W.call 206 [.list .nil 0 [],.v (.int .i64 (0:Nat))] H=aa (.ret (.list .nil 0 []),H):=by
 have u28:=jz;refine cJ rfl adV rfl ?_;have e1:IntKind.i64.wrap ((0:Int) - 0)=0:=by rfl
 have e2:IntKind.i64.wrap (((0:Nat):Int) - 0)=0:=by rfl
 exact Kz @aaX @GX @Vf (aw @abq (aw @kQ.{0} (aw @tK @DR)))
def aey:gI ao 28=aa az:=av
def abZ:dt ao 28=aa 1:=av
def ad5{H}{b len aD}{cs}{new}{x}(s:dT 1 H x new)(hb:H.boxes[b]?=aa cs)(h2:len+new.length<=aD)(h3:aD<=cs.length):
 gN ao H #[28,28] (.arr b 0 len aD) x=aa (.arr b 0 (len+new.length) aD,H.put b (eX cs len new.flatten)):=by
 obtain⟨i,h1,q2,-,h4⟩:=CY;have:=UA (off:=0) jz jz h1 ag (by rw[q2];exact h4) (by rw[q2];exact s.news) hb h2 (by rw[q2];omega)
 rwa [q2,oN,qb] at this
def aeF{H}{x}(s:dT 1 H x []):gN ao H #[28,28] (.list .nil 0 []) x=aa (.list .nil 0 [],H):=by
 obtain⟨i,h1,q2,-,h4⟩:=CY;have hx:mX H i.size x=aa []:=by rw[q2];exact s.news
 unfold gN;simp only[jy,jV,p8,oq,jz,h1,hx];rw[aG ⟨ag,by rw[q2];exact h4⟩];simp
def ahy(k:Tok)(xs:List AV)(dk:List (List (List AV)))(hl:xs.length=dk.length)(H:aq)(hs:∀(i:Nat) x rs,xs[i]?=aa x->dk[i]?=aa rs->dT 1 H x rs)(hb:dk.flatten.length<=1099511627776)(dN:xs.length<=1000):
 ∃r H',W.call 182 [.list k 1 (xs.map λx=>[x])] H=aa (r,H')/\∃y,r=.ret y/\Ext H H'/\dT 1 H' y dk.flatten:=by
 have u28:=jz;have u233:=Tryz.underlying233;have aE:=aey;have sE:=abZ;have hr:∀(i:Nat) x,xs[i]?=aa x->(xs.map λx=>[x])[i]?=aa [x]:=λi x hx=>by rw[ej,hx];rfl
 have eO:∀i,(dk.take i).flatten.length<=1099511627776:=λi=>by
  refine fw ?_ hb
  conv=>rhs;rw[<-yz i dk,rC,dw]
  omega
 have jc:∀(i:Nat) rs,dk[i]?=aa rs->(dk.take (i+1)).flatten=(dk.take i).flatten++rs:=λi rs hi=>by rw[ft hi,rC];simp
 have kS:=al.mk hs;have kl:=al.mk hl;have kr:=al.mk hr;have kst:=al.mk jc;have kle:=al.mk eO;have nx:(xs.map λx=>[x]).length=xs.length:=by simp
 clear hs hr jc eO hl;generalize hM:(xs.map λx=>[x])=M at *
 refine db rfl Tryz.func182 rfl ?_;refine br @Bj ?_;refine cz (λm e h'=>∃i:Nat,i<=xs.length/\m=xs.length - i/\e.get 0=.list k 1 M/\e.get 9=.list k 1 M/\e.get 10=.v (.int .i64 (xs.length:Nat))/\e.get 11=.v (.int .i64 i)/\e.get 3=.v (.int .i64 ((dk.take i).flatten.length:Nat))/\e.get 2=.list .nil 0 []/\e.defers=[]/\h'=H) ?_ xs.length _ _ ?_;rotate_left 1
 ·refine⟨0,cA _,rfl,?_,?_,?_,?_,?_,?_,?_,rfl⟩<;>(first|assumption|(simp only[gW,reduceIte,aO,aM,nx]<;>rfl))
 rintro m e h' ⟨i,hi,rfl,g0,g9,g10,g11,g3,g2,hd,rfl⟩;by_cases aA:i<xs.length
 ·obtain⟨x,hx⟩:∃x,xs[i]?=aa x:=⟨_,aR aA⟩;obtain⟨rs,jE⟩:∃rs,dk[i]?=aa rs:=⟨_,aR (by have:=kl.out;omega)⟩;have s1:=kS.out i x rs hx jE;have ls:=s1.len u28;have vY:=kr.out i x hx;have CB:(i:Int)<(M.length:Int):=by omega
  have q:=kst.out i rs jE;have q1:=kle.out (i+1);rw[q,dw] at q1;have ksum:=al.mk (show(dk.take (i+1)).flatten.length=(dk.take i).flatten.length+rs.length by rw[q,dw]);generalize (dk.take i).flatten.length=n1 at *
  have e1:IntKind.i64.wrap (((n1:Nat):Int)+((rs.length:Nat):Int))=((n1+rs.length:Nat):Int):=by rw[fN ag ag];omega
  have nn:¬(((n1+rs.length:Nat):Int)<0):=by omega
  have ld:aH ao Gt h' 28 (.elem 1 M i 0)=aa x:=by rw[r8 aE vY];rfl
  clear q q1 s1;refine bK @Bj @bh ?_;exact⟨xs.length - (i+1),by omega,i+1,by omega,rfl,by trivial,by trivial,by trivial,by simp,by rw[ksum.out],by trivial,by trivial,by trivial⟩
 have:i=xs.length:=by omega
 subst this;rw[show dk.take xs.length=dk by rw[kl.out];exact fC] at g3;have hn:=kle.out xs.length;rw[show dk.take xs.length=dk by rw[kl.out];exact fC] at hn;generalize hN:dk.flatten.length=n at *
 rcases Gy n with h0|h0
 ·subst h0;have gn:=ajE h';have pT:dk.flatten=[]:=List.eq_nil_of_length_eq_zero hN;refine br @Bj ?_;refine cz (λm e H1=>∃i:Nat,i<=xs.length/\m=xs.length - i/\e.get 25=.list k 1 M/\e.get 26=.v (.int .i64 (xs.length:Nat))/\e.get 27=.v (.int .i64 i)/\e.get 6=.list .nil 0 []/\e.defers=[]/\H1=h') ?_ xs.length _ _ ?_;rotate_left 1
  ·refine⟨0,cA _,rfl,?_,?_,?_,?_,?_,rfl⟩<;>(first|assumption|(simp only[gW,reduceIte,aO,aM,nx]<;>rfl))
  clear g0 g9 g10 g11 g3 g2 hd gn;rintro m e H1 ⟨i,hi,rfl,g25,g26,g27,g6,hd,rfl⟩;by_cases aA:i<xs.length
  ·obtain⟨x,hx⟩:∃x,xs[i]?=aa x:=⟨_,aR aA⟩;obtain⟨rs,jE⟩:∃rs,dk[i]?=aa rs:=⟨_,aR (by have:=kl.out;omega)⟩;have s1:=kS.out i x rs hx jE;have Qo:rs=[]:=by
    have:=dj jE;cases rs with|nil=>rfl|cons a l=>exact absurd (Nq.2 ⟨_,this,fW⟩) (by rw[pT];exact vH)
   subst Qo;have an:=aeF s1;have vY:=kr.out i x hx;have CB:(i:Int)<(M.length:Int):=(by omega);have ld:aH ao Gt H1 28 (.elem 1 M i 0)=aa x:=(by rw[r8 aE vY];rfl);clear s1;refine bK @Bj @bh ?_;exact⟨xs.length - (i+1),by omega,i+1,by omega,rfl,by trivial,by trivial,by simp,by trivial,by trivial,by trivial⟩
  ·have:i=xs.length:=(by omega);subst this;refine br @Bj ?_;exact⟨_,_,rfl,_,rfl,Ext.refl _,by(try rw[pT]);exact dT.list (λr hr=>by cases hr) (λq=>absurd rfl q)⟩
 ·have gn:=ajD n h0 hn h';refine br @Bj ?_;rw[RQ];have CN:∀(i:Nat) rs,dk[i]?=aa rs->∀r∈rs,r.length=1:=λi rs hi=>by obtain⟨x,hx⟩:∃x,xs[i]?=aa x:=⟨_,aR (by rw[kl.out];exact(aS.1 hi).1)⟩;exact(kS.out i x rs hx hi).1
  have jD:∀i,∀r∈(dk.take i).flatten,r.length=1:=λi r hr=>by obtain⟨rs,h1,h2⟩:=Nq.1 hr;obtain⟨j,hj⟩:=List.mem_iff_getElem?.1 (pE h1);exact CN j rs hj r h2
  have oV:∀i,(dk.take i).flatten.flatten.length=(dk.take i).flatten.length:=λi=>by rw[nN (jD i),oN]
  have HL:∀i,(dk.take i).flatten.length<=n:=λi=>by
   rw[<-hN]
   conv=>rhs;rw[<-yz i dk,rC,dw]
   omega
  have kfl:=al.mk oV;have kmo:=al.mk HL;have kr2:=al.mk jD;clear CN oV HL jD gn;refine cz (λm e H1=>∃i:Nat,i<=xs.length/\m=xs.length - i/\e.get 25=.list k 1 M/\e.get 26=.v (.int .i64 (xs.length:Nat))/\e.get 27=.v (.int .i64 i)/\e.get 6=.arr h'.boxes.length 0 (dk.take i).flatten.length n/\e.defers=[]/\H1.boxes[h'.boxes.length]?=aa ((dk.take i).flatten.flatten++a9 (n - (dk.take i).flatten.length) (bZ 0))/\Ext h' H1) ?_ xs.length _ _ ?_;rotate_left 1
  ·refine⟨0,cA _,rfl,?_,?_,?_,?_,?_,?_,Ext.push _ _⟩<;>(first|assumption|exact aZ _ _|(simp only[gW,reduceIte,aO,aM,nx]<;>rfl))
  clear g0 g9 g10 g11 g3 g2 hd;rintro m e H1 ⟨i,hi,rfl,g25,g26,g27,g6,hd,hB,hX⟩;by_cases aA:i<xs.length
  ·obtain⟨x,hx⟩:∃x,xs[i]?=aa x:=⟨_,aR aA⟩;obtain⟨rs,jE⟩:∃rs,dk[i]?=aa rs:=⟨_,aR (by have:=kl.out;omega)⟩;have s1:=(kS.out i x rs hx jE).ext hX;have q:=kst.out i rs jE;have m1:=kmo.out (i+1);have f0:=kfl.out i;have A1:(dk.take (i+1)).flatten.length=(dk.take i).flatten.length+rs.length:=(by rw[q,dw]);rw[A1] at m1;have Qp:rs.flatten.length=rs.length:=(by rw[nN s1.1,oN]);have ap:=ad5 s1 hB m1 (by rw[dw,mM,f0];omega);have mh:eX ((dk.take i).flatten.flatten++a9 (n - (dk.take i).flatten.length) (bZ 0)) (dk.take i).flatten.length rs.flatten=(dk.take (i+1)).flatten.flatten++a9 (n - (dk.take (i+1)).flatten.length) (bZ 0):=(by unfold eX;rw[List.take_left' f0,List.drop_append,List.drop_of_length_le (by rw[f0];omega),lJ,f0,List.drop_replicate,q,rC,dw,Qp];congr 2;omega);rw[mh] at ap;have vY:=kr.out i x hx;have CB:(i:Int)<(M.length:Int):=(by omega);have ld:aH ao Gt H1 28 (.elem 1 M i 0)=aa x:=(by rw[r8 aE vY];rfl);have kX:=al.mk hX;have nT:=(aS.1 hB).1;have ks:=al.mk A1;clear s1 hX hB mh q f0 A1;refine bK @Bj @bh ?_;refine⟨xs.length - (i+1),by omega,i+1,by omega,rfl,by trivial,by trivial,by simp,by rw[ks.out],by trivial,?_,kX.out.fK (aJ _) _⟩;exact eu nT
  ·have:i=xs.length:=(by omega);subst this;have ht:dk.take xs.length=dk:=(by rw[kl.out];exact fC);have f0:=kfl.out xs.length;have jD:=kr2.out xs.length;rw[ht] at hB g6 f0 jD;rw[hN] at hB g6;rw[uK,adk,jr] at hB;have kB:=al.mk hB;have kX:=al.mk hX;clear hB hX;refine br @Bj ?_;exact⟨_,_,rfl,_,rfl,kX.out,dT.box jD hN.symm kB.out⟩
def aaR:Tryz.f158.results.toList=[.tmp 4]:=av
def Bh:Tryz.f109.results.toList=[.tmp 2]:=av
def Ve:Eh ao 23 (.list .nil 0 [])=aa (.v (.int .i64 0)):=av
def abp:iN ao 23 (.list .nil 0 []) au (aa (.v (.int .i64 0))) au=aa (.list .nil 0 []):=av
def EZ:∃i,ao.info? 3=aa i/\i.size=1/\i.bytes<=8/\(i.zero.map λz=>z.cells.size)=aa 1:=by
 have h:(match ao.info? 3 with|some i=>jQ i.size 1&&NA i.bytes 8&&decide ((i.zero.map λz=>z.cells.size)=aa 1)|none=>az)=ah:=av;split at h
 ·rename_i i hi;simp only[bC,decide_eq_true_eq] at h;exact⟨i,hi,jW h.1.1,jR h.1.2,h.2⟩
 ·cases h
def zr3:(gZ ao 3).bind AV.bP=aa [im 0]:=av
def ae1{H}{n}(h0:0<n)(hn:n<=1099511627776):gN ao H #[23,3] (.list .nil 0 []) (.v (.int .i64 (n:Nat)))=aa (.arr H.boxes.length 0 n n,H.push (a9 n [im 0]).flatten):=by obtain⟨i,h1,h2,h3,h4⟩:=EZ;have:=qG hn h3;exact UC dQ yD h1 zr3 h0 ag ag ag h2.symm
def aex:gI ao 23=aa az:=av
def il:dt ao 23=aa 1:=av
def ad4{H}{b len aD}{cs}{new}{x}(s:dT 1 H x new)(hb:H.boxes[b]?=aa cs)(h2:len+new.length<=aD)(h3:aD<=cs.length):
 gN ao H #[23,23] (.arr b 0 len aD) x=aa (.arr b 0 (len+new.length) aD,H.put b (eX cs len new.flatten)):=by
 obtain⟨i,h1,q2,-,h4⟩:=EZ;have:=UA (off:=0) dQ dQ h1 ag (by rw[q2];exact h4) (by rw[q2];exact s.news) hb h2 (by rw[q2];omega)
 rwa [q2,oN,qb] at this
def aeE{H}{x}(s:dT 1 H x []):gN ao H #[23,23] (.list .nil 0 []) x=aa (.list .nil 0 [],H):=by
 obtain⟨i,h1,q2,-,h4⟩:=EZ;have hx:mX H i.size x=aa []:=by rw[q2];exact s.news
 unfold gN;simp only[jy,jV,p8,oq,dQ,h1,hx];rw[aG ⟨ag,by rw[q2];exact h4⟩];simp
def arv:Tryz.f145.results.toList=[.cell 4 177]:=av
def VI(l)(h):nL ao h 9 28 (.v (.string (bs l)))=aa (.list (.free h.tn) 1 (a8 l),h.app .nil):=by have h1:ao.underlying 9=aa .string:=D5;have h2:ao.underlying 28=aa (.slice 5):=jz;have h3:ao.underlying 5=aa (.int .u8):=Tryz.underlying5;obtain⟨i,q1,q2,-⟩:=CY;unfold nL;simp only[h1,h2,h3,q1,q2,if_true];simp[bs,aq.fresh,aq.app]
def afJ(x y)(hx:x.ek=ah)(hy:y.ek=ah):gf ao 233 2 [(0,x),(1,y)]=aa (.list .tight 1 [[x],[y]]):=by cases x<;>first|(cases hx;done)|(cases y<;>first|(cases hy;done)|kernel_rfl)
def dT.cell{sz}{h}{x}{ae}(s:dT sz h x ae):x.ek=ah:=by rcases s.2 with⟨k,s',rfl,-⟩|⟨b,off,aD,cs,rfl,-⟩<;>rfl
def uB(b):(fe b).length=32:=by unfold fe;rw[Dd,vL _ _ _ rfl]
def abm(M):iN ao 177 (.ptr (.box M) 0) au au au=aa (.arr M 0 32 32):=av
def auK(bp b:List UInt8)(x:AV)(h:aq)(s:dT 1 h x (a8 b))(hb:b.length<=1099511620000)(ht:bp.length<=1099511620000):
 ∃h',W.call 145 [.v (.string (bs bp)),x] h=aa (.ret (.agg (bV (gx bp b))),h')/\Ext h h':=by
 have z177:=FX;have x0:Ext h ((h.push (a9 32 (bZ 0))).app .nil):=(Ext.push _ _).trans (Ext.app (Ext.refl _) (.inl rfl));have e0:((h.push (a9 32 (bZ 0))).app .nil).boxes=(h.push (a9 32 (bZ 0))).boxes:=ec _ _;obtain⟨H2,c2,x2⟩:=abi bp (.list (.free (h.push (a9 32 (bZ 0))).tn) 1 (a8 bp)) ((h.push (a9 32 (bZ 0))).app .nil) (dT.list (Ai _) λ_=>rfl) ag;have d0:H2.boxes[h.boxes.length]?=aa (a9 32 (bZ 0)):=x2.box _ _ (by rw[e0];exact aZ _ _);have tl:(bV (fe bp)).length=32:=by rw[mq,uB]
 have st1:b7 ao (H2.push (a9 32 (bZ 0))) 177 (.ptr (.box H2.boxes.length) 0) (.agg (bV (fe bp)))=aa (H2.push (bV (fe bp))):=jx (zK _) ru tl rfl;have sx:dT 1 (H2.push (bV (fe bp))) x (a8 b):=((s.ext x0).ext x2).ext (Ext.push _ _);have sy:dT 1 (H2.push (bV (fe bp))) (.arr H2.boxes.length 0 32 32) (a8 (fe bp)):=dT.box (Ai _) (by rw[bu,uB]) (by rw[Jn];exact aZ _ _);obtain⟨r3,H3,c3,y,rfl,x3,s3⟩:=ahy .tight [.arr H2.boxes.length 0 32 32,x] [a8 (fe bp),a8 b] rfl (H2.push (bV (fe bp))) (λi z rs hz jE=>by
  rcases i with _|_|i
  ·injection hz with hz;injection jE with jE;subst hz;subst jE;exact sy
  ·injection hz with hz;injection jE with jE;subst hz;subst jE;exact sx
  ·cases hz) (by simp[uB];omega) bE
 have ef:[a8 (fe bp),a8 b].flatten=a8 (fe bp++b):=by simp[a8]
 rw[ef] at s3;have bl:=afJ _ x (dT.cell sy) (dT.cell sx);obtain⟨H4,c4,x4⟩:=abi (fe bp++b) y H3 s3 (by rw[dw,uB];omega);have hX:Ext H2 H4:=(Ext.push _ _).trans (x3.trans x4);have d4:H4.boxes[h.boxes.length]?=aa (a9 32 (bZ 0)):=hX.box _ _ d0;have tl2:(bV (gx bp b)).length=32:=by rw[mq];exact uB _
 have st2:b7 ao H4 177 (.ptr (.box h.boxes.length) 0) (.agg (bV (gx bp b)))=aa (H4.put h.boxes.length (bV (gx bp b))):=by rw[fA (zK _) ru d4 tl2 bE,wK (by rw[tl2];simp)]
 have ld2:aH ao Gt (H4.put h.boxes.length (bV (gx bp b))) 177 (.ptr (.box h.boxes.length) 0)=aa (.agg (bV (gx bp b))):=by rw[iL D6 ru (eu (aS.1 d4).1) (by rw[tl2];exact aJ _),iO,gm (by rw[tl2];exact aJ _)]
 replace c4:W.call 181 [y] H3=aa (.ret (.agg (bV (gx bp b))),H4):=c4;have kX:=al.mk (((x0.trans x2).trans hX).fK (aJ _) (bV (gx bp b)));simp only[eC,vE] at c3;clear s sx sy s3 x0 e0 x2 x3 x4 hX d0 d4 ef tl tl2;refine hY rfl Tryz.func145 rfl ?_;refine cQ @arv @VI @abm ?_;exact⟨_,rfl,kX.out⟩
def Sm:Tryz.f78.results.toList=[.tmp 4]:=av
def Ik{b n}{k}(hn:n<32):dH ao 177 (.ptr (.box b) 0) (.v (.int k (n:Nat)))=aa (.ptr (.box b) n):=by have h1:ao.underlying 177=aa (.array 32 5):=Tryz.underlying177;unfold dH;simp only[h1,tI];rw[aG ⟨ag,by omega⟩];simp
def Lf{H}{b i}{l}(hb:H.boxes[b]?=aa (bV l))(hi:i<l.length):aH ao Gt H 5 (.ptr (.box b) i)=aa (bZ (dy l i)):=by rw[mJ JS hb,JG,ej,aR hi];unfold dy;rw[ez,aR hi];rfl
def Oq(n)(h):nL ao h 5 3 (.v (.int .u8 n))=aa (.v (.int .i64 (IntKind.i64.wrap n)),h):=av
def Uk(b):∀i,i<=b.length->jA b i=(b.take i).foldl (λn c=>n * 256+c.toNat) 0
 |0,_=>rfl
 |i+1,hi=>by
  rw[jA,Uk b i ag];have:b[i]?=aa (dy b i):=by unfold dy;rw[ez,aR ag];rfl
  rw[ft this,oj];rfl
def mask(b:List UInt8):List UInt8:=b.set 0 (dy b 0&&&127)
def Lm{b}{i}(hb:0<b.length):dy (mask b) i=if i=0 then dy b 0&&&127 else dy b i:=by
 unfold mask dy;rw[ez,mL];split
 ·rename_i h;subst h;simp[hb]
 ·rename_i h;rw[aI (λq=>h q.symm),ez]
def NY(c:UInt8):(c&&&127).toNat=c.toNat%128:=by rw[UInt8.toNat_and];exact adt c.toNat 7
def Q3{b}(hb:0<b.length):∀i,jA (mask b) (i+1)=jA b (i+1)%(128 * 256^i)
 |0=>by show 0 * 256+(dy (mask b) 0).toNat=(0 * 256+(dy b 0).toNat)%128;rw[Lm hb,aG rfl,NY];omega
 |i+1=>by
  rw[jA,Q3 hb i,Lm hb,aI ag,jA.eq_2 b (i+1)];have:=vz (dy b (i+1));generalize jA b (i+1)=A at *
  generalize (dy b (i+1)).toNat=r at *
  rw[BG,<-Nat.mul_assoc];have hM:0<128 * 256^i:=NG aV (NI aV);generalize 128 * 256^i=M at *
  have h1:=nj A hM;have h2:=Nat.div_add_mod A M;have h3:A * 256+r=M * 256 * (A/M)+(A%M * 256+r):=by rw[Nat.mul_right_comm,<-Nat.add_assoc,<-gJ,h2]
  rw[h3,Nat.mul_add_mod,oo (a:=A%M * 256+r) (b:=M * 256) (by have:(A%M+1) * 256<=M * 256:=Nat.mul_le_mul_right _ h1;rw[gJ] at this;omega)]
def Zq{b}(hb:0<b.length){i}(hi:i<8):jA (mask b) i<36028797018963968:=by
 cases i with
 |zero=>show 0<_;decide|succ i=>
  rw[Q3 hb];have h1:=nj (jA b (i+1)) (show 0<128 * 256^i from NG aV (NI aV));have h2:256^i<=256^6:=adG aV ag;have h3:256^6=281474976710656:=by decide
  omega
def hash_eq{b}(hb:8<=b.length):jA (mask b) 8%Q=mU b:=by unfold mU;rw[Q3 ag 7,Uk b 8 hb]
def as6{t}{x y}{n}(hn:n<36028797018963968):cY ao .shl t x y (.v (.int .i64 (n:Nat))) (.v (.int .u64 8))=aa (.v (.int .i64 ((n * 256:Nat):Int))):=by rw[N9 aV];congr 3;show IntKind.i64.wrap (((n:Nat):Int) * 256)=_;rw[fN ag ag];omega
def ori{t}{x y}{n m}(hn:n<36028797018963968)(hm:m<256):cY ao .or t x y (.v (.int .i64 ((n * 256:Nat):Int))) (.v (.int .i64 (m:Nat)))=aa (.v (.int .i64 ((n * 256+m:Nat):Int))):=by
 rw[N8];congr 3;have e1:BitVec.ofInt IntKind.i64.bits ((n * 256:Nat):Int)=BitVec.ofNat 64 (n * 256):=by apply BitVec.eq_of_toNat_eq;show(BitVec.ofInt 64 ((n * 256:Nat):Int)).toNat=(BitVec.ofNat 64 (n * 256)).toNat;rw[BitVec.toNat_ofInt,BitVec.toNat_ofNat];omega
 have e2:BitVec.ofInt IntKind.i64.bits ((m:Nat):Int)=BitVec.ofNat 64 m:=by apply BitVec.eq_of_toNat_eq;show(BitVec.ofInt 64 ((m:Nat):Int)).toNat=(BitVec.ofNat 64 m).toNat;rw[BitVec.toNat_ofInt,BitVec.toNat_ofNat];omega
 have e3:(BitVec.ofNat 64 (n * 256)|||BitVec.ofNat 64 m).toNat=n * 256+m:=by
  rw[BitVec.toNat_or,BitVec.toNat_ofNat,BitVec.toNat_ofNat,oo (ag:n * 256<2^64),oo (ag:m<2^64)];have h1:n<<<8=n * 256:=by rw[BH]
  rw[<-h1,<-NJ (ag:m<2^8)]
 have e4:(BitVec.ofInt IntKind.i64.bits ((n * 256:Nat):Int)|||BitVec.ofInt IntKind.i64.bits ((m:Nat):Int)).toNat=n * 256+m:=by rw[e1,e2];exact e3
 rw[e4,fN ag ag]
def aeG{t}{x y}(c):cY ao .and t x y (bZ c) (.v (.int .u8 127))=aa (bZ (c&&&127)):=by
 unfold bZ;rw[tR];congr 3;have hc:=vz c;have e1:BitVec.ofInt IntKind.u8.bits ((c.toNat:Nat):Int)=BitVec.ofNat 8 c.toNat:=by apply BitVec.eq_of_toNat_eq;show(BitVec.ofInt 8 ((c.toNat:Nat):Int)).toNat=(BitVec.ofNat 8 c.toNat).toNat;rw[BitVec.toNat_ofInt,BitVec.toNat_ofNat];omega
 have e3:(BitVec.ofInt IntKind.u8.bits ((c.toNat:Nat):Int)&&&BitVec.ofInt IntKind.u8.bits 127).toNat=c.toNat%128:=by rw[e1];show(BitVec.ofNat 8 c.toNat&&&127#8).toNat=_;rw[BitVec.toNat_and,BitVec.toNat_ofNat,oo (ag:c.toNat<2^8)];exact adt c.toNat 7
 rw[e3,OF ag ag,NY]
def amH(l):(bV l).set 0 (bZ (dy l 0&&&127))=bV (mask l):=by unfold mask bV;rw[List.map_set]
def ajr(bp b:List UInt8)(x:AV)(h:aq)(s:dT 1 h x (a8 b))(hb:b.length<=1099511620000)(ht:bp.length<=1099511620000):
 ∃h',W.call 78 [.v (.string (bs bp)),x] h=aa (.ret (im (mU (gx bp b):Nat)),h')/\Ext h h':=by
 obtain⟨H1,c1,x1⟩:=auK bp b x h s hb ht;have hl:(gx bp b).length=32:=uB _;have de:(bV (gx bp b)).length=32:=by rw[mq,hl]
 have he:=hash_eq (b:=gx bp b) ag;generalize gx bp b=d at *
 have bB:0<d.length:=by omega
 have z177:=FX;have st1:b7 ao (H1.push (a9 32 (bZ 0))) 177 (.ptr (.box H1.boxes.length) 0) (.agg (bV d))=aa (H1.push (bV d)):=jx (zK _) ru de rfl;have ix0:dH ao 177 (.ptr (.box H1.boxes.length) 0) (.v (.int .i64 0))=aa (.ptr (.box H1.boxes.length) 0):=Ik (n:=0) aV;have l0:aH ao Gt (H1.push (bV d)) 5 (.ptr (.box H1.boxes.length) 0)=aa (bZ (dy d 0)):=Lf (aZ _ _) bB;have st2:b7 ao (H1.push (bV d)) 5 (.ptr (.box H1.boxes.length) 0) (bZ (dy d 0&&&127))=aa (H1.push (bV (mask d))):=by rw[MC (aZ _ _) (by rw[de];decide),amH,pc]
 have nx:(mask d).length=32:=by unfold mask;rw[mr,hl]
 have hX:=al.mk (x1.trans (Ext.push H1 (bV (mask d))));have hB:=aZ H1 (bV (mask d));have aA:=λi hi=>Zq bB (i:=i) hi;have kB:=al.mk hB;have klt:=al.mk aA;have ke:=al.mk he;have kml:=al.mk nx;clear s de hl hB aA he nx x1 bB;unfold im;refine hY rfl Tryz.func78 rfl ?_;refine bK @Sm @aeG ?_;refine cz (λm e H=>∃i:Nat,i<=8/\m=8 - i/\e.get 5=.ptr (.box H1.boxes.length) 0/\e.get 14=.v (.int .i64 i)/\e.get 4=.v (.int .i64 (jA (mask d) i:Nat))/\e.defers=[]/\H=H1.push (bV (mask d))) ?_ 8 _ _ ?_;rotate_left 1
 ·refine⟨0,by decide,rfl,?_,?_,?_,?_,rfl⟩<;>(first|assumption|(exact gR))
 clear z177 st1 ix0 l0 st2 c1;rintro m e H ⟨i,hi,rfl,g5,g14,g4,hd,rfl⟩;by_cases h8:i=8
 ·subst h8;have e1:(((jA (mask d) 8:Nat):Int)).tmod 1073741789=((mU d:Nat):Int):=by rw[<-ke.out];exact ph _ _
  generalize jA (mask d) 8=A at *
  refine br @Sm ?_;exact⟨_,rfl,hX.out⟩
 ·have aA:i<8:=by omega
  have a1:=klt.out i aA;have u1:=vz (dy (mask d) i);have ix:=Ik (b:=H1.boxes.length) (n:=i) (k:=.i64) ag;have ld:aH ao Gt (H1.push (bV (mask d))) 5 (.ptr (.box H1.boxes.length) i)=aa (.v (.int .u8 ((dy (mask d) i).toNat:Nat))):=Lf kB.out (by have:=kml.out;omega);have ew:IntKind.i64.wrap (((dy (mask d) i).toNat:Nat):Int)=(((dy (mask d) i).toNat:Nat):Int):=fN ag ag;have s1:=λt x y=>as6 (t:=t) (x:=x) (y:=y) a1;have s2:=λt x y=>ori (t:=t) (x:=x) (y:=y) a1 u1;have kstep:=al.mk (show jA (mask d) (i+1)=jA (mask d) i * 256+(dy (mask d) i).toNat from rfl);generalize jA (mask d) i=A at *
  generalize (dy (mask d) i).toNat=r at *
  refine bK @Sm @Oq ?_;exact⟨8 - (i+1),by omega,i+1,by omega,rfl,by trivial,rfl,by rw[kstep.out],by trivial,by trivial⟩
end Go.Proofs.YtnfciiiohoafaaaGreatDoor
end
section
namespace Go.AE
structure Grown(n0:Nat)(h h':aq)(t:Tok):Prop where
 box:∀(b:Nat) (cs:List AV),h.boxes[b]?=aa cs->h'.boxes[b]?=aa cs
 loop:∀(l:Nat) (r:iI),h.loops[l]?=aa r->h'.loops[l]?=aa r
 can:dm n0 h' t
 ok:cG h'=ah
 tn:h.tn<=h'.tn
 dead:∀n,n<n0->n∈h'.dead->n∈h.dead
section
variable {n0:Nat} {h0 h h' h2:aq} {t k:Tok}
def Grown.refl(hk:dm n0 h k)(ho:cG h=ah):Grown n0 h h k:=⟨λ_ _ q=>q,λ_ _ q=>q,hk,ho,aJ _,λ_ _ q=>q⟩
def Grown.trans(g:Grown n0 h h' t)(g2:Grown n0 h' h2 k):Grown n0 h h2 k:=
 ⟨λb cs q=>g2.box b cs (g.box b cs q),λb cs q=>g2.loop b cs (g.loop b cs q),g2.can,g2.ok,fw g.tn g2.tn,λn hn q=>g.dead n hn (g2.dead n hn q)⟩
def Grown.ext(g:Grown n0 h h' t)(x:Ext h0 h)(hn:h0.tn<=n0):Ext h0 h':=
 ⟨λb cs hb=>g.box b cs (x.box b cs hb),λl r hl=>g.loop l r (x.loop l r hl),fw x.tn g.tn,λn q hd=>x.dead n q (g.dead n (ni q hn) hd),λ_=>g.ok⟩
def D8(ho:cG h=ah)(hk:dm n0 h k):cG (h.app k)=ah:=by
 unfold cG at *
 rw[ey] at *
 intro n hn;rcases hk with rfl|rfl|⟨m,rfl,-,ha⟩
 ·exact bQ (wT (of_decide_eq_true (ho n hn)))
 ·exact bQ (wT (of_decide_eq_true (ho n hn)))
 ·rcases iu.1 hn with rfl|q
  ·exact bQ (wT (uM ha))
  ·exact bQ (wT (of_decide_eq_true (ho n q)))
def Grown.one(hk:dm n0 h k)(ho:cG h=ah)(hn:n0<=h.tn):Grown n0 h (h.app k) (.free h.tn):=by
 refine⟨λb cs q=>by rw[ec];exact q,λb cs q=>by rw[w9];exact q,hk.next ho hn,D8 ho hk,by rw[D9];omega,λn q hd=>?_⟩;rcases hk with rfl|rfl|⟨m,rfl,hm,ha⟩
 ·exact hd
 ·exact hd
 ·rcases iu.1 hd with rfl|hd
  ·omega
  ·exact hd
def Grown.push(g:Grown n0 h h' t)(cs:List AV):Grown n0 h (h'.push cs) t:=⟨λb cs q=>aY (g.box b cs q),g.loop,g.can,g.ok,g.tn,g.dead⟩
def Grown.app(g:Grown n0 h h' t)(hn:n0<=h.tn):Grown n0 h (h'.app t) (.free h'.tn):=g.trans (Grown.one g.can g.ok (fw hn g.tn))
variable {P:Program} {t0 t1 elem:TypeId} {i:TypeInfo} {sz:Nat} {es new:List (List AV)} {x:AV}
def GO(h0:P.underlying t0=aa (.slice elem))(h1:(∃e,P.underlying t1=aa (.slice e))∨P.underlying t1=aa .string)(hi:P.info? elem=aa i)(dL:0<i.size)(hz:(i.zero.map λz=>z.cells.size)=aa i.size)
 (hx:mX h i.size x=aa new) (mg:new≠[]) (hb:(es.length+new.length) * i.bytes<=140737488355328) (hl:es.length+new.length<=9223372036854775807) (hs:sz=i.size∨(es=[]/\k=.nil)) (hk:dm n0 h k):
 gN P h #[t0,t1] (.list k sz es) x=aa (.list (.free h.tn) i.size (es++new),h.app k):=by
 unfold gN;rcases h1 with⟨e,h1⟩|h1
 all_goals
  simp only[jy,jV,p8,oq,h0,h1,hi,hx];rw[aG ⟨dL,hz⟩,aG (hs.imp_right λq=>q.1),aI mg,aG ⟨hb,hl⟩];rcases hk with rfl|rfl|⟨m,rfl,-,ha⟩
  ·rfl
  ·rfl
  ·have hs:sz=i.size:=by
    rcases hs with hs|⟨-,hs⟩
    ·exact hs
    ·cases hs
   simp only[ha,hs,decide_true,Bool.and_self,if_true];rfl
def UB(h0:P.underlying t0=aa (.slice elem))(h1:(∃e,P.underlying t1=aa (.slice e))∨P.underlying t1=aa .string)(hi:P.info? elem=aa i)(dL:0<i.size)(hz:(i.zero.map λz=>z.cells.size)=aa i.size)
 (hx:mX h i.size x=aa []) (hs:sz=i.size∨es=[]):gN P h #[t0,t1] (.list k sz es) x=aa (.list k sz es,h):=by
 unfold gN;rcases h1 with⟨e,h1⟩|h1
 ·simp only[jy,jV,p8,oq,h0,h1,hi,hx];rw[aG ⟨dL,hz⟩,aG hs,aG trivial]
 ·simp only[jy,jV,p8,oq,h0,h1,hi,hx];rw[aG ⟨dL,hz⟩,aG hs,aG trivial]
end
end Go.AE
end
section
namespace Go.AE
open Go.RowKit (Below)
mutual
def gH(h:aq):AV->AV
 | .list k sz es=>.list (bO k) sz es
 | .arr b off len _=>match h.boxes[b]? with
  |some cs=>if off+len<=cs.length then .list .held 1 (((cs.drop off).take len).map λc=>[c]) else .bad
  |none=>.bad
 | .tuple cs=>.tuple (ur h cs)
 | .agg cs=>.agg (ur h cs)
 |x=>x
def ur(h:aq):List AV->List AV
 | []=>[]
 |x::r=>gH h x::ur h r
end
def Fj(R:Rec)(g:FuncId)(args:List AV):Option AV:=
 if aP 0 0 0 (bN args)=ah then
  match R.call g (bN args) ⟨[],[],0,[]⟩ with
  |some (.ret y,h2)=>if aK 0 0 0 (gH h2 y)=ah then aa (gH h2 y) else au
  |_=>au
 else au
def Ef(R:Rec)(g:FuncId)(args:List AV)(h:aq):Option (AV × aq):=(Fj R g args).map (·,h)
def FP:∀l:List AV,(l.map λc=>[c]).flatten=l
 | []=>rfl
 |x::l=>by rw[eC,pC,FP l];rfl
section
variable {P:Program} {G:Nat->Option (List AV)} {ok:FuncId->Nat->Code->Bool} {w0 w w':World} {K K1 K2:aW} {h h2:aq}
mutual
def aX.mR(jK:∀g j c,K1.ic g j=aa c->K2.ic g j=aa c):∀{x:AV} {c:Value},aX K1 x c->aK 0 0 0 x=ah->aX K2 x c
 |_,_,.bad c,_=>.bad c
 |_,_,.v x hx,_=>.v x hx
 |_,_,.nil sz,_=>.nil sz
 |_,_,.jv sz a,_=>.jv sz a
 |_,_,.list k sz es g off m aD cells hn hr hv hc ht ha,h=>by
  rw[aK,bC] at h;refine .list k sz es g off m aD cells hn hr (aQ.mR jK hv (by rw[tW];exact h.2)) (λj c hj=>jK _ _ _ (hc j c hj)) ⟨ht.1,?_⟩ ha;have h1:=h.1;have h2:=ht.2;cases k with|free i=>simp[sD] at h1|_=>exact h2
 |_,_,.arr _ _ _ _ _ _ _ _ _ _ _ _,h=>by simp[aK] at h
 |_,_,.agg cs vs hv,h=>.agg cs vs (aQ.mR jK hv (by rw[aK] at h;exact h))
 |_,_,.tuple cs vs hv,h=>.tuple cs vs (aQ.mR jK hv (by rw[aK] at h;exact h))
 |_,_,.box _ _ _ _,h=>by simp[aK] at h
 |_,_,.eV g off,_=>.eV g off
 |_,_,.elem sz es i off g o p cells hr hv hc hi hp ha,h=>.elem sz es i off g o p cells hr (aQ.mR jK hv (by rw[tW];rw[aK] at h;exact h)) (λj c hj=>jK _ _ _ (hc j c hj)) hi hp ha
 |_,_,.func fn first aD fs cs h1 h2,h=>.func fn first aD fs cs (aQ.mR jK h1 (by rw[aK,bC] at h;exact h.1)) (aQ.mR jK h2 (by rw[aK,bC] at h;exact h.2))
 |_,_,.yield _ _ _,h=>by simp[aK] at h
 |_,_,.iface t x c hx,h=>.iface t x c (aX.mR jK hx (by rw[aK] at h;exact h))
def aQ.mR(jK:∀g j c,K1.ic g j=aa c->K2.ic g j=aa c):∀{xs:List AV} {cs:List Value},aQ K1 xs cs->aP 0 0 0 xs=ah->aQ K2 xs cs
 |_,_,.nil,_=>.nil
 |_,_,.cons x c xs cs hx hs,h=>.cons x c xs cs (aX.mR jK hx (by rw[aP,bC] at h;exact h.1)) (aQ.mR jK hs (by rw[aP,bC] at h;exact h.2))
end
mutual
def aX.o7(s1:bR K1 G ok w h2 w')(jK:∀g j c,K1.ic g j=aa c->K2.ic g j=aa c)(mg:∀g j c,K1.base<=g->w'.cell? ⟨g,j,au⟩=aa c->K2.ic g j=aa c):
 ∀{x:AV} {c:Value},aX K1 x c->aK 0 0 0 (gH h2 x)=ah->aX K2 (gH h2 x) c
 |_,_,.bad c,_=>.bad c
 |_,_,.v x hx,_=>.v x hx
 |_,_,.nil sz,_=>.nil sz
 |_,_,.jv sz a,_=>.jv sz a
 |_,_,.list k sz es g off m aD cells hn hr hv hc ht ha,h=>by
  have hf:gQ 0 0 0 es=ah:=by simp only[gH,aK,bC] at h;exact h.2
  have nW:aQ K2 es.flatten cells:=aQ.mR jK hv (by rw[tW];exact hf);cases k with|nil=>exact ht.2.elim|tight=>exact .list .tight sz es g off m aD cells hn hr nW (λj c hj=>jK _ _ _ (hc j c hj)) ⟨ht.1,ht.2⟩ ha|free i=>exact .list .held sz es g off m aD cells hn hr nW (λj c hj=>jK _ _ _ (hc j c hj)) ⟨ht.1,aU⟩ ha|held=>exact .list .held sz es g off m aD cells hn hr nW (λj c hj=>jK _ _ _ (hc j c hj)) ⟨ht.1,aU⟩ ha
 |_,_,.arr b g off len aD fH iJ hb hl pP ho hr,h=>by
  simp only[gH] at h ⊢;cases cq:h2.boxes[b]? with
  |none=>exact .bad _|some cs=>
   rw[cq] at h;simp only at h ⊢;split at h
   ·rename_i eO;rw[aG eO];have hf:gQ 0 0 0 (((cs.drop off).take len).map λc=>[c])=ah:=(by simp only[aK,bC] at h;exact h.2);obtain⟨q1,q2,q3,cells,e,q4,q5⟩:=s1.box b g cs hb cq;have akF:=q5.le;by_cases h0:aD=0
    ·have:len=0:=(by omega);subst this;exact .list .held 1 [] g fH 0 iJ [] rfl (λ_ h=>by cases h) .nil (λ_ _ h=>by simp at h) ⟨cA _,aU⟩ rfl
    ·have AX:fH=off:=by rcases ho with p|p<;>omega
     subst AX;have hv:aQ K1 ((cs.drop fH).take len) (((cells.toList.take cs.length).drop fH).take len):=(q5.1.drop fH).take len;have hlen:((cs.drop fH).take len).length=len:=(by rw[eS,hJ];omega);refine .list .held 1 _ g fH len iJ (((cells.toList.take cs.length).drop fH).take len) (by rw[bu,hlen]) (λr hr=>?_) ?_ (λj c hj=>?_) ⟨ag,aU⟩ ?_
     ·obtain⟨c,-,rfl⟩:=jP.1 hr;rfl
     ·rw[FP];rw[<-tW,FP] at hf;exact aQ.mR jK hv hf
     ·refine mg _ _ _ q1 ?_;have pS:j<len:=(by have:=(aS.1 hj).1;rw[eS] at this;omega);rw[oJ,aG pS,pD,oJ,aG ag] at hj;rw[sT q4];simpa using hj
     ·rw[FP];rw[ey] at q3 ⊢;exactλx hx=>q3 x (List.mem_of_mem_drop (pE hx))
   ·rename_i eO;rw[aI eO];exact .bad _
 |_,_,.agg cs vs hv,h=>.agg _ vs (aQ.o7 s1 jK mg hv (by simpa only[gH,aK] using h))
 |_,_,.tuple cs vs hv,h=>.tuple _ vs (aQ.o7 s1 jK mg hv (by simpa only[gH,aK] using h))
 |_,_,.box b g off hb,h=>by simp[gH,aK] at h
 |_,_,.eV g off,_=>.eV g off
 |_,_,.elem sz es i off g o p cells hr hv hc hi hp ha,h=>.elem sz es i off g o p cells hr (aQ.mR jK hv (by rw[tW];simpa only[gH,aK] using h)) (λj c hj=>jK _ _ _ (hc j c hj)) hi hp ha
 |_,_,.func fn first aD fs cs h1 h2,h=>by simp only[gH,aK,bC] at h;exact .func fn first aD fs cs (aQ.mR jK h1 h.1) (aQ.mR jK h2 h.2)
 |_,_,.yield l g hl,h=>by simp[gH,aK] at h
 |_,_,.iface t x c hx,h=>by simp only[gH,aK] at h;exact .iface t x c (aX.mR jK hx h)
def aQ.o7(s1:bR K1 G ok w h2 w')(jK:∀g j c,K1.ic g j=aa c->K2.ic g j=aa c)(mg:∀g j c,K1.base<=g->w'.cell? ⟨g,j,au⟩=aa c->K2.ic g j=aa c):
 ∀{xs:List AV} {cs:List Value},aQ K1 xs cs->aP 0 0 0 (ur h2 xs)=ah->aQ K2 (ur h2 xs) cs
 |_,_,.nil,_=>.nil
 |_,_,.cons x c xs cs hx hs,h=>by simp only[ur,aP,bC] at h;exact .cons _ c _ cs (aX.o7 s1 jK mg hx h.1) (aQ.o7 s1 jK mg hs h.2)
end
def aW.sees(K:aW)(n:Nat)(w:World):aW:={K with ic:=λg j=>if g<n then K.ic g j else w.cell? ⟨g,j,au⟩}
def aW.QT(s:bR K G ok w0 h w):K.Le (K.sees w.heap.size w'):=by
 refine⟨rfl,λg j c hc=>?_,λ_ _ h=>h,λ_ _ h=>h,aJ _,λ_ _=>rfl,λ_ h=>h,λ_ _=>rfl,λg j c hc=>?_⟩
 ·simp only[aW.sees,aG (s.A7 hc),hc]
 ·simp only[aW.sees] at hc;split at hc
  ·exact .inl hc
  ·exact .inr (by have:=s.size;omega)
def bR.sees(s:bR K G ok w0 h w)(b:Below w.heap.size w w'):bR (K.sees w.heap.size w') G ok w0 h w':=by
 have g:=s.grown b;have le:K.Le (K.sees w.heap.size w'):=aW.QT s;refine⟨g.dh,g.size,λg1 j c hc=>?_,λg1 cs hg=>?_,g.ma,g.qD,λb1 g1 cs hb hc=>?_,g.oH,g.rv,λl g1 r hl hr=>?_,g.tn,λt ht=>?_,g.qA,g.md,g.all⟩
 ·simp only[aW.sees] at hc;split at hc
  ·exact g.ic g1 j c hc
  ·exact hc
 ·obtain⟨cells,q1,q2⟩:=g.eV g1 cs hg;exact⟨cells,q1.mono le,λj c hj=>le.ic _ _ _ (q2 j c hj)⟩
 ·obtain⟨q1,q2,q3,cells,e,q4,q5⟩:=g.box b1 g1 cs hb hc;obtain⟨-,-,-,cells0,e0,p4,-⟩:=s.box b1 g1 cs hb hc;refine⟨q1,λj=>?_,q3,cells,e,q4,q5.mono le (aS.1 hb).1⟩;simp only[aW.sees,aG (o9 p4)];exact q2 j
 ·obtain⟨q1,fn,tmps,d,q2,q3,q4⟩:=g.loop l g1 r hl hr;exact⟨q1,fn,tmps,d,q2,q3.mono le,q4⟩
 ·obtain⟨q1,q2,q3,q4⟩:=g.tok t ht;obtain⟨-,-,-,cells0,e0,z0,p4,-⟩:=s.tok t ht;refine⟨q1,q2,λj hj=>?_,q4⟩;simp only[aW.sees,aG (o9 p4)];exact q3 j hj
def aW.alone(K:aW)(n:Nat):aW:={K with base:=n,β:=[],γ:=[],tn:=0,md:=[]}
def bR.alone(s:bR K G ok w0 h w)(hG:∀g cs,G g=aa cs->aP 0 0 0 cs=ah):bR (K.alone w.heap.size) G ok w ⟨[],[],0,[]⟩ w:=by
 refine⟨Below.refl _ _,aJ _,s.ic,λg cs hg=>?_,rfl,λb b' g hb=>by simp[aW.alone] at hb,λb g cs hb=>by simp[aW.alone] at hb,rfl,λb b' g hb=>by simp[aW.alone] at hb,λl g r hl=>by simp[aW.alone] at hl,rfl,λt ht=>?_,λt t' ht=>?_,λr hr=>by simp[aW.alone] at hr,rfl⟩
 ·obtain⟨cells,q1,q2⟩:=s.eV g cs hg;exact⟨cells,aQ.mR (K1:=K) (K2:=K.alone w.heap.size) (λ_ _ _ h=>h) q1 (hG g cs hg),q2⟩
 ·simp[alive] at ht
 ·simp[alive] at ht
def Vc{prims:FuncId->Option (List AV->aq->Option (AV × aq))}(hp:Prog P)(hG:∀g cs,G g=aa cs->aP 0 0 0 cs=ah)(o6:∀V g p,prims g=aa p->tO P G V g p){g:FuncId}(ig:∃fn,P.funcs[g]?=aa fn/\fn.body.isSome=ah)(V:World):
 tO P G V g (Ef (whole P G prims) g):=by
 refine⟨ig,λargs h x h' hx K w fB hv hs cs=>?_⟩;unfold Ef Fj at hx;split at hx
 ·rename_i hf;split at hx
  ·rename_i y h2 hc;split at hx
   ·rename_i AM;simp only[ff,dP,dn] at hx;obtain⟨rfl,rfl⟩:=hx;obtain⟨-,Ia⟩:=(Ta hp (o6 w)).call g _ _ _ _ hc;have s0:=bR.alone hs hG;obtain⟨K1,w',fr,le,s1,bT,xF,v,qW,eO⟩:=Ia (K.alone w.heap.size) w fB (aQ.mR (K1:=K) (K2:=K.alone w.heap.size) (λ_ _ _ h=>h) hv.hold hf) s0 cs;have hb:Below w.heap.size w w':=(by have:=s1.dh;rwa [le.base] at this);refine⟨.returned v,w',fr,⟨v,_,rfl,aW.QT hs,aX.o7 (K2:=K.sees w.heap.size w') s1 (λg j c hc=>?_) (λg j c hg hc=>?_) qW AM,bR.sees hs hb⟩,bT,xF,eO⟩
    ·rcases le.new g j c hc with q|q
     ·have:g<w.heap.size:=hs.A7 q;simp only[aW.sees,aG this];exact q
     ·have q:w.heap.size<=g:=q;simp only[aW.sees,aI (ag:¬g<w.heap.size)];exact s1.ic g j c hc
    ·have q:w.heap.size<=g:=(by rw[le.base] at hg;exact hg);simp only[aW.sees,aI (ag:¬g<w.heap.size)];exact hc
   ·cases hx
  ·cases hx
 ·cases hx
def qJ(R:Rec)(L:List FuncId)(g:FuncId):Option (List AV->aq->Option (AV × aq)):=if L.contains g=ah then aa (Ef R g) else au
def yK{prims:FuncId->Option (List AV->aq->Option (AV × aq))}(hp:Prog P)(hG:∀g cs,G g=aa cs->aP 0 0 0 cs=ah)(o6:∀V g p,prims g=aa p->tO P G V g p){L:List FuncId}(hL:∀g∈L,∃fn,P.funcs[g]?=aa fn/\fn.body.isSome=ah):
 ∀V g p,qJ (whole P G prims) L g=some p->tO P G V g p:=by
 intro V g p he;unfold qJ at he;split at he
 ·rename_i hg;injection he with he;subst he;exact Vc hp hG o6 (hL g (by simpa using hg)) V
 ·cases he
def bm{R:Rec}{L:List FuncId}{g:FuncId}{args b9:List AV}{x y:AV}{h1:aq}(hg:L.contains g=ah)(ha:bN args=b9)(hf:aP 0 0 0 b9=ah)(hc:R.call g b9 ⟨[],[],0,[]⟩=aa (.ret y,h1))(hy:gH h1 y=x)(hx:aK 0 0 0 x=ah):
 ∀h,(whole P G (qJ R L)).call g args h=aa (.ret x,h):=by
 intro h;subst ha;subst hy;rw[Jq];unfold rL qJ;rw[aG hg];simp only[Ef,Fj,aG hf,hc,aG hx,ff]
end
end Go.AE
end
section
namespace Go.AE
def Rc(P:Program)(s d:TypeId):Bool:=
 match P.underlying s,P.underlying d with
 |some (.int _),aa (.int _)=>ah
 |_,_=>az
def Oi(P:Program)(ops:Array Oper)(L:List FuncId)(k:Nat):Bool:=
 match ops[k]? with
 |some o=>o.guard.isNone&&match o.op with
  | .call {callee:=.value (.func f),.. }=>L.contains f
  | .call {callee:=.builtin .max,.. }=>ah
  | .call {callee:=.builtin .min,.. }=>ah
  | .convert s d _=>Rc P s d
  |_=>az
 |none=>az
def Oj(P:Program)(ops:Array Oper)(L:List FuncId):List Nat:=(bM ops.size).filter (Oi P ops L)
section
variable {P:Program} {G:Nat->Option (List AV)} {prims:FuncId->Option (List AV->aq->Option (AV × aq))} {Q:Xt->Env->aq->Prop} {e:Env} {h:aq} {L:List FuncId}
def qE(prims:FuncId->Option (List AV->aq->Option (AV × aq)))(L:List FuncId):Prop:=∀g∈L,∃q:List AV->Option AV,prims g=aa λargs h=>(q args).map (·,h)
def yM{R:Rec}:qE (qJ R L) L:=λg hg=>⟨Fj R g,by unfold qJ;rw[aG (by simpa using hg)];rfl⟩
def am2{s d:TypeId}{x:AV}(hn:Rc P s d=ah):∃q:Option AV,∀hm,nL P hm s d x=q.map (·,hm):=by
 unfold Rc at hn;split at hn
 ·rename_i k1 k2 h1 h2;unfold nL;simp only[h1,h2];cases x<;>first|exact⟨au,λhm=>rfl⟩|exact⟨_,λhm=>rfl⟩
 ·cases hn
def ae3{hm:aq}{ts:Array TypeId}{ty:TypeId}{xs:List AV}:jH P hm .max ts ty xs=(match flatAll xs with|some l=>(fg P (Builtin.max_ ts ty l.toArray)).bind ob|none=>au).map (·,hm):=by rcases xs with _|⟨x,_|⟨y,xs⟩⟩<;>(unfold jH;simp only[];cases flatAll _<;>rfl)
def ae4{hm:aq}{ts:Array TypeId}{ty:TypeId}{xs:List AV}:jH P hm .min ts ty xs=(match flatAll xs with|some l=>(fg P (Builtin.min_ ts ty l.toArray)).bind ob|none=>au).map (·,hm):=by rcases xs with _|⟨x,_|⟨y,xs⟩⟩<;>(unfold jH;simp only[];cases flatAll _<;>rfl)
def J6{o:Oper}(hg:o.guard=au)(hq:Al o.op=ah)(bL:∀er:Env,∃q:Option AV,∀hm,eo P G (whole P G prims) er hm o=q.map λx=>(.ret x,er,hm)){ops:Array Oper}{en:Env}{hn:aq}
 (eM:di P G (whole P G prims) ops (bM ops.size) e h=aa (.normal,en,hn)) {k:Nat} (ho:ops[k]?=aa o):Am P G (whole P G prims) ops e h k:=by
 have XK:k<ops.size:=(Array.getElem?_eq_some_iff.1 ho).1;obtain⟨-,tr,st⟩:=trace eM;obtain⟨s1,-⟩:=st k XK;obtain⟨q,tv⟩:=bL (df P G (whole P G prims) ops e h k).1;unfold kC at s1;simp only[ho,fD,hg,tv] at s1;cases hx:q with|none=>rw[hx] at s1;simp at s1|some x=>exact⟨o,x,_,_,ho,hq,tr k (Nat.le_of_lt XK),λm hm=>⟨_,_,tr m hm,by rw[tv,hx];rfl⟩⟩
def Vd{ops:Array Oper}(hL:qE prims L){en:Env}{hn:aq}(eM:di P G (whole P G prims) ops (bM ops.size) e h=aa (.normal,en,hn)){k:Nat}(hk:Oi P ops L k=ah):Am P G (whole P G prims) ops e h k:=by
 unfold Oi at hk;split at hk
 ·rename_i o ho;simp only[bC,Option.isNone_iff_eq_none] at hk;obtain⟨hg,hk⟩:=hk;split at hk
  ·rename_i f args ts bL;obtain⟨q,hq⟩:=hL f (by simpa using hk);refine J6 hg (by rw[bL];rfl) (λer=>⟨q (args.toList.map er.eval),λhm=>?_⟩) eM ho;have:eo P G (whole P G prims) er hm o=(mA P (whole P G prims) er hm {callee:=.value (.func f),args,argTypes:=ts}).map λ(r,h1)=>(r,er,h1):=(by unfold eo;rw[bL]);rw[this,U5,Jq];unfold rL;rw[hq];simp only[NL];rfl
  ·rename_i args ts bL;refine J6 hg (by rw[bL];rfl) (λer=>⟨match flatAll (args.toList.map er.eval) with|some l=>(fg P (Builtin.max_ ts o.type l.toArray)).bind ob|none=>au,λhm=>?_⟩) eM ho
   ·unfold eo;simp only[bL];show(jH P hm .max ts o.type (args.toList.map er.eval)).map _=_;rw[ae3,NL];rfl
  ·rename_i args ts bL;refine J6 hg (by rw[bL];rfl) (λer=>⟨match flatAll (args.toList.map er.eval) with|some l=>(fg P (Builtin.min_ ts o.type l.toArray)).bind ob|none=>au,λhm=>?_⟩) eM ho
   ·unfold eo;simp only[bL];show(jH P hm .min ts o.type (args.toList.map er.eval)).map _=_;rw[ae4,NL];rfl
  ·rename_i s d x bL;refine J6 hg (by rw[bL];rfl) (λer=>?_) eM ho;obtain⟨q,hq⟩:=am2 (P:=P) (x:=er.eval x) hk;refine⟨q,λhm=>?_⟩;unfold eo;simp only[bL,dS,hq,NL];rfl
  ·cases hk
 ·cases hk
def ng{id:Nat}{ops:Array Oper}(ps:List (Nat × Nat))(hL:qE prims L)(hd:El ops (Oj P ops L) ps=ah)(hs:∀p∈ps,mo P G (whole P G prims) ops e h p.1 p.2=ah)
 (hr:cO P G (whole P G prims) ops ops.toList e h (yL Q)):bH (whole P G prims) (.region id ops ah) e h Q:=by
 have gj:=hr;obtain⟨o,en,hn,h1,h2⟩:=gj;cases o with
 |normal=>
  have eM:di P G (whole P G prims) ops (bM ops.size) e h=aa (.normal,en,hn):=by rw[tD (aJ _),<-Array.length_toList,fC];exact h1
  exact Sv (OD hd (λk hk=>Vd hL eM (vG.1 hk).2) hs) hr
 |_=>exact h2.elim
def ev{id:Nat}{ops:Array Oper}(hL:qE prims L)(hd:El ops (Oj P ops L) []=ah)
 (hr:cO P G (whole P G prims) ops ops.toList e h (yL Q)):bH (whole P G prims) (.region id ops ah) e h Q:=ng [] hL hd (λp hp=>nomatch hp) hr
end
end Go.AE
end
section
namespace Go.AE
structure gy(S:List Nat)(n0:Nat)(h h':aq):Prop where
 box:∀(c:Nat) (cs:List AV),c∉S->h.boxes[c]?=aa cs->h'.boxes[c]?=aa cs
 len:h.boxes.length<=h'.boxes.length
 loop:∀(l:Nat) (r:iI),h.loops[l]?=aa r->h'.loops[l]?=aa r
 tn:h.tn<=h'.tn
 dead:∀n,n<n0->n∈h'.dead->n∈h.dead
 ok:cG h=ah->cG h'=ah
section
variable {S S':List Nat} {n0:Nat} {h0 h h' h2:aq}
def gy.refl:gy S n0 h h:=⟨λ_ _ _ q=>q,aJ _,λ_ _ q=>q,aJ _,λ_ _ q=>q,λq=>q⟩
def gy.trans(m:gy S n0 h h')(k:gy S n0 h' h2):gy S n0 h h2:=
 ⟨λc cs hc hb=>k.box c cs hc (m.box c cs hc hb),fw m.len k.len,λl r q=>k.loop l r (m.loop l r q),fw m.tn k.tn,λn hn q=>m.dead n hn (k.dead n hn q),λq=>k.ok (m.ok q)⟩
def gy.mono(m:gy S n0 h h')(hs:∀b∈S,b∈S'):gy S' n0 h h':=⟨λc cs hc=>m.box c cs λq=>hc (hs c q),m.len,m.loop,m.tn,m.dead,m.ok⟩
def gy.put{b:Nat}(hb:b∈S)(cs:List AV):gy S n0 h (h.put b cs):=
 ⟨λc ds hc q=>by rw[cX (λ(e:c=b)=>hc (by rw[e];exact hb))];exact q,by rw[mj];exact aJ _,λ_ _ q=>q,aJ _,λ_ _ q=>q,λq=>q⟩
def gy.fK(m:gy S n0 h h'){b:Nat}(hb:h.boxes.length<=b)(cs:List AV):gy S n0 h (h'.put b cs):=
 ⟨λc ds hc q=>by have:=(aS.1 q).1;rw[cX ag];exact m.box c ds hc q,by rw[mj];exact m.len,m.loop,m.tn,m.dead,m.ok⟩
def gy.push(m:gy S n0 h h')(cs:List AV):gy S n0 h (h'.push cs):=
 ⟨λc ds hc q=>aY (m.box c ds hc q),by rw[cH];exact Nat.le_succ_of_le m.len,m.loop,m.tn,m.dead,m.ok⟩
def gy.A6(m:gy S n0 h h')(r:iI):gy S n0 h (h'.loop r):=⟨m.box,m.len,λl q hq=>Zm (m.loop l q hq),m.tn,m.dead,m.ok⟩
def gy.eW(m:gy S n0 h h'){l:Nat}(hl:h.loops.length<=l)(r:iI):gy S n0 h (h'.eW l r):=
 ⟨m.box,m.len,λk q hq=>by have:=(aS.1 hq).1;rw[abf ag];exact m.loop k q hq,m.tn,m.dead,m.ok⟩
def gy.Db(x:Ext h h')(hn:n0<=h.tn):gy S n0 h h':=⟨λc cs _ hb=>x.box c cs hb,x.len,x.loop,x.tn,λn hl hd=>x.dead n (ni hl hn) hd,x.ok⟩
def gy.uE{n1:Nat}(m:gy S n1 h h')(hn:n0<=n1):gy S n0 h h':=⟨m.box,m.len,m.loop,m.tn,λn hl hd=>m.dead n (ni hl hn) hd,m.ok⟩
def Ext.Q7(x:Ext h0 h)(m:gy S h0.tn h h')(hb:∀b∈S,h0.boxes.length<=b):Ext h0 h':=
 ⟨λc cs q=>m.box c cs (λhc=>by have:=hb c hc;have:=(aS.1 q).1;omega) (x.box c cs q),λl r q=>m.loop l r (x.loop l r q),fw x.tn m.tn,λn hn hd=>x.dead n hn (m.dead n hn hd),λq=>m.ok (x.ok q)⟩
def Grown.Q7{t:Tok}(g:Grown n0 h h' t):gy S n0 h h':=⟨λc cs _ q=>g.box c cs q,by
 rcases dW h'.boxes.length h.boxes.length with aA|eg
 ·have h1:=g.box h'.boxes.length _ (aR aA);have:=(aS.1 h1).1;omega
 ·exact eg,g.loop,g.tn,g.dead,λ_=>g.ok⟩
end
section
variable {P:Program} {G:Nat->Option (List AV)} {prims:FuncId->Option (List AV->aq->Option (AV × aq))} {H:aq} {l:Nat} {rec:iI} {args:List AV}
def aq6{Post:aq->Prop}(hr:H.loops[l]?=aa rec)(hs:rec.params.size=args.length)(bT:rec.state=.ready)(hp:rec.pending=au)
 (ha:bH (whole P G prims) rec.assign (nH l rec args) H (λo e1 h1=>o=.normal/\h1=H/\bH (whole P G prims) rec.body e1 (H.busy l rec) (λo _ h2=>o=.normal/\h2.loops=(H.busy l rec).loops/\Post {h2 with loops:=H.loops}))):
 ∃H',(whole P G prims).round l args H=aa (.ret (.v (.bool ah)),H')/\H'.loops=H.loops/\Post H':=by
 obtain⟨o,e1,h1,q1,rfl,rfl,o2,e2,h2,q2,rfl,q3,q4⟩:=ha;have dG:=(aS.1 hr).1;have hb:(h1.busy l rec).loops[l]?=aa {rec with state:=.busy}:=by show(h1.loops.set l _)[l]?=_;simp[dG]
 refine⟨{h2 with loops:=h1.loops},LM hr hs ⟨_,e1,h1,q1,rfl,rec,hr,bT,.normal,e2,h2,q2,{rec with state:=.busy},by rw[q3];exact hb,rfl,?_⟩,rfl,q4⟩;have A0:{rec with state:=LoopState.ready,pending:=au}=rec:=by cases rec;cases bT;cases hp;rfl
 have zf:h2.loops.set l rec=h1.loops:=by
  rw[q3];show(h1.loops.set l _).set l rec=_;rw[DW];apply rB;intro k;rw[mL];split
  ·rename_i e;subst e;exact hr.symm
  ·rfl
 show _=({h2 with loops:=h2.loops.set l {rec with state:=LoopState.ready,pending:=au}}:aq);rw[A0,zf]
def II{Post:aq->Prop}(hr:H.loops[l]?=aa rec)(hs:rec.params.size=args.length)(bT:rec.state=.ready)(hp:rec.pending=au)
 (ha:bH (whole P G prims) rec.assign (nH l rec args) H (λo e1 h1=>o=.normal/\h1=H/\bH (whole P G prims) rec.body e1 (H.busy l rec) (λo _ h2=>o=.normal/\h2.loops=(H.busy l rec).loops/\Post {h2 with loops:=H.loops}))):
 ∃H',(whole P G prims).round l args H=aa (.ret (.v (.bool ah)),H')/\Post H':=by
 obtain⟨H',q1,_,q3⟩:=aq6 hr hs bT hp ha;exact⟨H',q1,q3⟩
end
end Go.AE
end
section
namespace Go.NT
def auv{α:Type}{f}:∀{l:List α},(∀i∈l,f i=0)->cK (l.map f)=0:=by
 intro l
 induction l with
 |nil=>intro _;rfl|cons x l ih=>intro h;simp only[eC,cK];rw[h x fW,ih λi hi=>h i (fE _ hi)];rfl
def SS{α:Type}{f g}:∀{l:List α},(∀i∈l,f i=g i)->cK (l.map f)=cK (l.map g):=by
 intro l
 induction l with
 |nil=>intro _;rfl|cons x l ih=>intro h;simp only[eC,cK];rw[h x fW,ih λi hi=>h i (fE _ hi)]
def auu{α:Type}{f}{p}:∀{l:List α},(∀i∈l,p i=az->f i=0)->cK ((l.filter p).map f)=cK (l.map f):=by
 intro l
 induction l with
 |nil=>intro _;rfl|cons x l ih=>
  intro h;have ih:=ih λi hi=>h i (fE _ hi);cases hp:p x
  ·rw[ac0 (by simp[hp]),ih];simp only[eC,cK];rw[h x fW hp];omega
  ·rw[ac1 hp];simp only[eC,cK,ih]
def abR{α:Type}{f g}:∀{l:List α},cK (l.map λi=>f i+g i)=cK (l.map f)+cK (l.map g):=by
 intro l
 induction l with
 |nil=>rfl|cons x l ih=>simp only[eC,cK,ih];omega
def ME{α:Type}{f}{c}:∀{l:List α},cK (l.map λi=>c * f i)=c * cK (l.map f):=by
 intro l
 induction l with
 |nil=>simp[cK]|cons x l ih=>simp only[eC,cK,ih,Int.mul_add]
def abS{α β:Type}{f:α->β->Int}:∀{l:List α} {m:List β},cK (l.map λi=>cK (m.map λj=>f i j))=cK (m.map λj=>cK (l.map λi=>f i j)):=by
 intro l m
 induction l with
 |nil=>simp only[vE,cK];exact(auv λ_ _=>rfl).symm|cons x l ih=>simp only[eC,cK,ih];rw[<-abR]
def Jh{α:Type}{f g}{q}:∀{l:List α},(∀i∈l,q∣f i - g i)->q∣cK (l.map f) - cK (l.map g):=by
 intro l
 induction l with
 |nil=>intro _;simp[cK]|cons x l ih=>
  intro h;simp only[eC,cK];have e:f x+cK (l.map f) - (g x+cK (l.map g))=(f x - g x)+(cK (l.map f) - cK (l.map g)):=by omega
  rw[e];exact yp (h x fW) (ih λi hi=>h i (fE _ hi))
def amG{α β:Type}{l:List α}{f}{g:Nat->β}(h:∀i x,l[i]?=aa x->f x=g i):l.map f=(bM l.length).map g:=by
 apply JE
 ·simp
 ·intro i h1 h2;rw[p9,p9,Bv];exact h i _ (aR (by simpa using h1))
def S0(ae)(target):(fV ae target).length=target.length:=by unfold fV;simp
def ab2{ae}{target a}(h:a∈fV ae target):∃k,k<target.length/\a=ae.map (λr=>ai r k)++[ai target k]:=by unfold fV at h;obtain⟨k,hk,rfl⟩:=jP.1 h;exact⟨k,fQ.1 hk,rfl⟩
def aeZ{ae:List (List Int)}{k i}{t}(hi:i<ae.length):ai (ae.map (λr=>ai r k)++t) i=ai (ae.getD i []) k:=by unfold ai;rw[ez,List.getElem?_append_left (by simpa using hi),ej,aR hi,lO hi];rfl
def ae0{ae:List (List Int)}{k}{x}:ai (ae.map (λr=>ai r k)++[x]) ae.length=x:=by unfold ai;rw[ez,Ab bE];simp
section
variable {ae:List (List Int)} {target l:List Int}
def S1(hr:∀r∈ae,∀x∈r,okF x)(ht:∀x∈target,okF x):(∀a∈fV ae target,a.length=ae.length+1)/\∀a∈fV ae target,∀x∈a,okF x:=by
 refine⟨λa ha=>?_,λa ha x hx=>?_⟩
 ·obtain⟨k,-,rfl⟩:=ab2 ha;simp
 ·obtain⟨k,hk,rfl⟩:=ab2 ha;rcases List.mem_append.1 hx with q|q
  ·obtain⟨r,h1,rfl⟩:=jP.1 q;exact qI (hr r h1) k
  ·rw[my] at q;subst q;exact qI ht k
def combine_sat(hr:∀r∈ae,∀x∈r,okF x)(ht:∀x∈target,okF x)(h:qk ae target=aa l):
 l.length=ae.length/\(∀x∈l,okF x)/\∀k,k<target.length->Qi∣cK ((bM ae.length).map λi=>ai l i * ai (ae.getD i []) k) - ai target k:=by
 obtain⟨t1,t2⟩:=S1 hr ht;unfold qk at h;dsimp only at h;split at h
 ·rename_i eM;simp only[dP] at h;subst h;have PI:∀i a,(jg (fV ae target) ae.length).2.length<=i->(jg (fV ae target) ae.length).1[i]?=aa a->ai a ae.length=0:=λi a hi ha=>by rw[ey] at eM;have:a∈(jg (fV ae target) ae.length).1.drop (jg (fV ae target) ae.length).2.length:=(by refine dj (i:=i - (jg (fV ae target) ae.length).2.length) ?_;rw[pD];rw[show(jg (fV ae target) ae.length).2.length+(i - (jg (fV ae target) ae.length).2.length)=i by omega];exact ha);simpa using eM a this
  have hs:=atu t1 t2 PI;have R:=(IC t1 t2 (ag:ae.length<=ae.length+1)).1;refine⟨Mu _ _,?_,λk hk=>?_⟩
  ·have bq:∀(ps:List (Nat × Nat)) (y:List Int),(∀x∈y,okF x)->∀x∈ps.foldl (λy p=>y.set p.1 (ai ((jg (fV ae target) ae.length).1.getD p.2 []) ae.length)) y,okF x:=by
    intro ps
    induction ps with
    |nil=>intro y hy;exact hy|cons p ps ih=>
     intro y hy;refine ih _ λx hx=>?_;rcases wS hx with q|q
     ·exact hy x q
     ·rw[q];refine qI (λz hz=>?_) _;rcases dW p.2 (jg (fV ae target) ae.length).1.length with q2|q2
      ·rw[lO q2] at hz;exact R.ok _ (iW q2) z hz
      ·rw[ez,List.getElem?_eq_none q2] at hz;simp at hz
   unfold p7;exact bq _ _ λx hx=>by rw[JD hx];exact Bd
  ·have hm:ae.map (λr=>ai r k)++[ai target k]∈fV ae target:=(by unfold fV;exact jP.2 ⟨k,fQ.2 hk,rfl⟩);have:=hs _ hm;unfold Sat res dot at this;rw[Mu,ae0] at this;have e:((bM ae.length).map λi=>ai (p7 (jg (fV ae target) ae.length) ae.length) i * ai (ae.map (λr=>ai r k)++[ai target k]) i)=(bM ae.length).map λi=>ai (p7 (jg (fV ae target) ae.length) ae.length) i * ai (ae.getD i []) k:=
    List.map_congr_left λi hi=>by rw[aeZ (fQ.1 hi)]
   rw[e] at this;exact this
 ·cases h
end
def atz{n}{at_}{l}:(su n at_ l).length=n:=by unfold su;rw[G9 (λp=>ai l p.2)];simp
def atB{n i}{at_}{l}(h:i∉at_):ai (su n at_ l) i=0:=by unfold su;rw[Kt (λp=>ai l p.2) _ _ λp hp e=>h (by subst e;obtain⟨p1,p2⟩:=p;have:=List.mem_zipIdx hp;simp only at this ⊢;rw[this.2.2];exact iW _)];unfold ai;rw[ez,Ni];split<;>rfl
def aty{l}:∀(ps:List (Nat × Nat)) (y:List Int),(ps.map GG).Nodup->(∀p∈ps,p.1<y.length)->∀p∈ps,ai (ps.foldl (λy p=>y.set p.1 (ai l p.2)) y) p.1=ai l p.2:=by
 intro ps
 induction ps with
 |nil=>intro y _ _ p hp;cases hp
 |cons q ps ih=>
  intro y hn hy p hp;rw[eC,Gq] at hn;rcases iu.1 hp with rfl|hp
  ·rw[yw,Kt (λp=>ai l p.2) _ _ λp' hp' e=>hn.1 (jP.2 ⟨p',hp',e⟩),JW (hy p fW),aG rfl]
  ·exact ih _ hn.2 (λp hp=>by rw[mr];exact hy p (fE _ hp)) p hp
def zip_fst(at_:List Nat):at_.zipIdx.map GG=at_:=by apply JE<;>simp
def SF{n j i}{at_}{l}(hn:at_.Nodup)(hb:∀i∈at_,i<n)(hj:at_[j]?=aa i):ai (su n at_ l) i=ai l j:=by
 unfold su;have hm:(i,j)∈at_.zipIdx:=by rw[List.mem_zipIdx_iff_getElem?];exact hj
 exact aty at_.zipIdx (a9 n 0) (by rw[zip_fst];exact hn) (λp hp=>by
  rw[mM];refine hb _ ?_;have:p.1∈at_.zipIdx.map GG:=jP.2 ⟨p,hp,rfl⟩
  rwa [zip_fst] at this) (i,j) hm
def atA{n}{at_}{l}(hl:∀x∈l,okF x):∀x∈su n at_ l,okF x:=by
 have bq:∀(ps:List (Nat × Nat)) (y:List Int),(∀x∈y,okF x)->∀x∈ps.foldl (λy p=>y.set p.1 (ai l p.2)) y,okF x:=by
  intro ps
  induction ps with
  |nil=>intro y hy;exact hy|cons p ps ih=>
   intro y hy;refine ih _ λx hx=>?_;rcases wS hx with q|q
   ·exact hy x q
   ·rw[q];exact qI hl _
 exact bq _ _ λx hx=>by rw[JD hx];exact Bd
def Rl{owners ar}{i}:i∈eI owners ar↔i<owners.length/\ai owners i∈ar:=by unfold eI;rw[vG,fQ,acU]
def anz(owners ar):(eI owners ar).Nodup:=List.nodup_range.filter _
def rk{ae}{owners}(h:cW ae owners=0):ae.length=owners.length/\ae.length<=64/\(∀r∈ae,r.length=bJ ae/\0<r.length/\r.length<=64/\∀x∈r,okF x)/\∀x∈owners,0<=x/\x<=63:=by
 unfold cW at h;split at h
 ·cases h
 ·rename_i h1;simp only[Bool.or_eq_true,decide_eq_true_eq,List.any_eq_true,not_or,not_exists,not_and,Nat.not_lt] at h1;split at h
  ·cases h
  ·rename_i h2;have h2:ae.length=owners.length:=(by simpa using h2);split at h
   ·rename_i h3;rw[ey] at h3;have key:∀i (hi:i<ae.length),ae[i].length=(ae.getD 0 []).length/\0<ae[i].length/\(∀x∈ae[i],okF x)/\0<=ai owners i/\ai owners i<=63:=λi hi=>by
     have:=h3 i (fQ.2 hi);simp only[lO hi,bC,decide_eq_true_eq,ey] at this;obtain⟨⟨⟨a,b⟩,c,d⟩,f⟩:=this;refine⟨b,?_,λx hx=>?_,c,d⟩
     ·rcases Gy ae[i].length with q|q
      ·rw[List.length_eq_zero_iff] at q;rw[q] at a;cases a
      ·exact q
     ·have:=f x hx;unfold bX at this;simpa [okF] using this
    refine⟨h2,h1.1,λr hr=>?_,λx hx=>?_⟩
    ·obtain⟨i,hi,rfl⟩:=By.1 hr;obtain⟨a,b,c,-⟩:=key i hi;refine⟨?_,b,h1.2 _ hr,c⟩;unfold bJ;rw[aI ag];exact a
    ·obtain⟨i,hi,rfl⟩:=By.1 hx;have:=(key i ag).2.2.2
     rwa [fm hi] at this
   ·cases h
def sU{ae}{owners}(h:cW ae owners=0):0<bJ ae/\bJ ae<=64:=by
 obtain⟨-,-,h3,-⟩:=rk h;unfold bJ;split
 ·omega
 ·rename_i q;have:=h3 (ae.getD 0 []) (by rw[lO ag];exact iW _);exact⟨this.2.1,this.2.2.1⟩
def SX{n}(h:0<n):(fU n).length=n:=by unfold fU;simp;omega
def auO{n k}:ai (fU n) k=if k=0 then 1 else 0:=by
 unfold fU ai;cases k with|zero=>rfl|succ k=>rw[List.getD_cons_succ,ez,Ni];split<;>rfl
def auP{n}:∀x∈fU n,okF x:=by
 intro x hx;unfold fU at hx;rcases iu.1 hx with rfl|q
 ·unfold okF;decide
 ·rw[JD q];exact Bd
def yE{ae}{owners ar y}(h:fL ae owners ar=(y,ah,0)):
 cW ae owners=0/\fJ (-1) ar=ah/\y.length=ae.length/\(∀x∈y,okF x)/\(∀i,ai owners i∉ar->ai y i=0)/\
  ∀k,k<bJ ae->Qi∣cK ((bM ae.length).map λi=>ai y i * ai (ae.getD i []) k) - (if k=0 then 1 else 0):=by
 unfold fL at h;split at h
 ·simp at h
 ·rename_i hp;have hp:cW ae owners=0:=by simpa using hp
  obtain⟨p1,p2,p3,p4⟩:=rk hp;split at h
  ·simp at h
  ·rename_i hw;split at h
   ·simp at h
   ·rename_i l hl;simp only[dn,and_true] at h;subst h;have hb:∀i∈eI owners ar,i<ae.length:=λi hi=>(by rw[p1];exact(Rl.1 hi).1);have hr:∀r∈(eI owners ar).map (λi=>ae.getD i []),∀x∈r,okF x:=λr hr=>(by obtain⟨i,hi,rfl⟩:=jP.1 hr;rw[lO (hb i hi)];exact(p3 _ (iW _)).2.2.2);obtain⟨c1,c2,c3⟩:=combine_sat hr auP hl;rw[bu] at c1 c3;have AY:∀i,i∉eI owners ar->ai (su ae.length (eI owners ar) l) i=0:=λi hi=>atB hi;refine⟨hp,by simpa using hw,atz,atA c2,λi hi=>AY i λq=>hi (Rl.1 q).2,λk hk=>?_⟩;have:=c3 k (by rw[SX (sU hp).1];exact hk);rw[auO] at this;have e:cK ((bM ae.length).map λi=>ai (su ae.length (eI owners ar) l) i * ai (ae.getD i []) k)=cK ((bM (eI owners ar).length).map λi=>ai l i * ai (((eI owners ar).map λi=>ae.getD i []).getD i []) k):=(by have e1:eI owners ar=(bM ae.length).filter λi=>ar.contains (ai owners i):=(by unfold eI;rw[p1]);have e2:=auu (f:=λi=>ai (su ae.length (eI owners ar) l) i * ai (ae.getD i []) k) (p:=λi=>ar.contains (ai owners i)) (l:=bM ae.length) λi hi hq=>(by rw[AY i λq=>?_,JC];rw[acU.2 (Rl.1 q).2] at hq;cases hq);rw[<-e1] at e2;rw[<-e2];congr 1;refine amG λj i hj=>?_;have pS:=(aS.1 hj).1;rw[SF (anz owners ar) hb hj,lO (t:=(eI owners ar).map λi=>ae.getD i []) (by simpa using pS),p9];rw[(aS.1 hj).2]);rw[e];exact this
end Go.NT
end
section
namespace Go.NT
def Gn:Nat:=4
def rA:elem Gn=ah:=by decide+kernel
def VC{a b}(h:Qi∣a - b):a%Qi=b%Qi:=acI.2 (Int.emod_eq_zero_of_dvd h)
def Ke{a b}(h:a%Qi=b%Qi):Qi∣a - b:=Int.dvd_of_emod_eq_zero (acI.1 h)
def Rw{a b}(h:Qi∣a - b):bF Gn a=bF Gn b:=Ix (VC h)
def aoy{a}(h:bF Gn a=1):Qi∣a:=by
 have hf:=Er a;have ha:Qi∣a - fmod a:=Ke (by unfold fmod;rw[DP _ (DO _)]);by_cases h0:fmod a=0
 ·rw[h0,DR] at ha;exact ha
 ·exfalso;have h1:bF Gn (fmod a * eK (fmod a))=1:=by rw[Iy rA,aor,h,zD,Nat.one_pow];rfl
  have h2:cR (fmod a) (eK (fmod a))=1:=OM hf h0;rw[tY] at h2;have h3:bF Gn (fmod a * eK (fmod a))=bF Gn 1:=Ix (by rw[h2];rfl);rw[h1,aou rA] at h3;cases h3
def aov{a b}(h:bF Gn a=bF Gn b):Qi∣a - b:=by refine aoy ?_;rw[Int.sub_eq_add_neg,Fw rA,h];exact aot rA b
def aow{a b}(ha:okF a)(hb:okF b)(h:bF Gn a=bF Gn b):a=b:=by
 have:=VC (aov h)
 rwa [M8 ha.1 ha.2,M8 hb.1 hb.2] at this
def ai9{α:Type}{f:α->Nat}{a}:∀{l:List α} (_:∀p∈l,f p=bF Gn (a p)) (k:Int),l.foldl (λx p=>x * f p%P) (bF Gn k)=bF Gn (k+cK (l.map a)):=by
 intro l
 induction l with
 |nil=>intro _ k;simp[cK]|cons p l ih=>intro h k;rw[yw,h p fW,<-Fw rA,ih (λq hq=>h q (fE _ hq))];simp only[eC,cK];congr 1;omega
def RG{α:Type}{f:α->Nat}{a}{l:List α}(h:∀p∈l,f p=bF Gn (a p)):l.foldl (λx p=>x * f p%P) 1=bF Gn (cK (l.map a)):=by have:=ai9 h 0;rw[aae,Gf] at this;exact this
def oQ(a b:List Int):Int:=(bM a.length).foldl (λx j=>cd x (cR (ai a j) (ai b j))) 0
def ON{α:Type}{f}:∀{l:List α} (x:Int),Qi∣l.foldl (λx j=>cd x (f j)) x - (x+cK (l.map f)):=by
 intro l
 induction l with
 |nil=>intro x;simp[cK]|cons j l ih=>intro x;have h1:=ih (cd x (f j));simp only[yw,eC,cK];have h2:Qi∣cd x (f j) - (x+f j):=Ke (by rw[B8,DP _ (DO _)]);have:=yp h1 h2;rw[show l.foldl (λx j=>cd x (f j)) (cd x (f j)) - (cd x (f j)+cK (l.map f))+(cd x (f j) - (x+f j))=l.foldl (λx j=>cd x (f j)) (cd x (f j)) - (x+(f j+cK (l.map f))) by omega] at this;exact this
def Wh{α:Type}{f:α->Int}{l:List α}{x}(hx:okF x):okF (l.foldl (λx j=>cd x (f j)) x):=by
 rcases List.eq_nil_or_concat l with rfl|⟨l',a,rfl⟩
 ·exact hx
 ·rw[List.concat_eq_append,oj];exact Km _ _
def aib(a b):okF (oQ a b):=Wh Bd
def Ks(a b):Qi∣cR a b - a * b:=Ke (by rw[tY,DP _ (DO _)])
def VZ(a b):Qi∣cd a b - (a+b):=Ke (by rw[B8,DP _ (DO _)])
def Em{a b c}(h:Qi∣a - b)(k:Qi∣b - c):Qi∣a - c:=by
 have:=yp h k
 rwa [(ag:a - b+(b - c)=a - c)] at this
def VN(a b):Qi∣oQ a b - cK ((bM a.length).map λj=>ai a j * ai b j):=by have h1:=ON (f:=λj=>cR (ai a j) (ai b j)) (l:=bM a.length) 0;rw[Gf] at h1;exact Em h1 (Jh λj _=>Ks _ _)
def nG(aj row:List Int):Nat:=(bM aj.length).foldl (λx j=>x * bF (ai aj j).toNat (ai row j)%P) 1
def jG(ae:List (List Int))(s:List Int):List Int:=ae.map λr=>oQ r s
def cI(s:List Int):List Int:=s.map λn=>((bF Gn n:Nat):Int)
def UI{s}{j}(hj:j<s.length):ai (cI s) j=((bF Gn (ai s j):Nat):Int):=by
 unfold cI;have:j<(s.map λn=>((bF Gn n:Nat):Int)).length:=by simpa using hj
 rw[fm this,fm hj,p9]
def aai{s row}(hl:row.length=s.length):nG (cI s) row=bF Gn (oQ row s):=by
 unfold nG;have hc:(cI s).length=s.length:=by unfold cI;simp
 rw[hc,RG (a:=λj=>ai row j * ai s j) λj hj=>by rw[UI (fQ.1 hj),dV,<-Iy rA,zW]];refine(Rw ?_).symm;have:=VN row s
 rwa [hl] at this
def ahw{s}:(cI s).all bI=ah:=by rw[ey];intro x hx;obtain⟨n,-,rfl⟩:=jP.1 hx;have:=Bg rA n;unfold bI;rw[dV,this,FZ];have h:=(elem_iff.1 this).1;exact bQ ag
def avx{ae}{owners ar y s}(h:fL ae owners ar=(y,ah,0))(hs:s.length=bJ ae):
 Qi∣cK ((bM ae.length).map λi=>ai y i * ai (jG ae s) i) - ai s 0:=by
 obtain⟨hp,-,h1,h2,h3,h4⟩:=yE h;obtain⟨p1,p2,p3,p4⟩:=rk hp;have hc:=sU hp;have e1:Qi∣cK ((bM ae.length).map λi=>ai y i * ai (jG ae s) i) - cK ((bM ae.length).map λi=>cK ((bM (bJ ae)).map λk=>ai s k * (ai y i * ai (ae.getD i []) k))):=by
  refine Jh λi hi=>?_;have hi:=fQ.1 hi;have hd:=VN ae[i] s;rw[(p3 _ (iW hi)).1] at hd;have e:ai (jG ae s) i=oQ ae[i] s:=by unfold jG;rw[fm (by simpa using hi),p9]
  rw[e,lO hi];have:cK ((bM (bJ ae)).map λk=>ai s k * (ai y i * ai ae[i] k))=ai y i * cK ((bM (bJ ae)).map λk=>ai ae[i] k * ai s k):=by rw[<-ME];exact SS λk _=>by rw[Int.mul_left_comm,zW (ai s k)]
  rw[this,<-zX];exact Gb hd
 refine Em e1 ?_;rw[abS];have e2:Qi∣cK ((bM (bJ ae)).map λk=>cK ((bM ae.length).map λi=>ai s k * (ai y i * ai (ae.getD i []) k))) - cK ((bM (bJ ae)).map λk=>if k=0 then ai s 0 else 0):=by
  refine Jh λk hk=>?_;have:=h4 k (fQ.1 hk);rw[ME];have e:(if k=0 then ai s 0 else 0)=ai s k * (if k=0 then 1 else 0):=by
   split
   ·rename_i q;subst q;rw[Int.mul_one]
   ·rw[Int.mul_zero]
  rw[e,<-zX];exact Gb this
 refine Em e2 ?_;rw[abW (p:=0) _ hc.1 λi _ bG=>aI bG,aG rfl,Int.sub_self];exact Int.dvd_zero _
def jw(owners:List Int)(aB:Int):List Nat:=(bM owners.length).filter λi=>decide (ai owners i=aB)
def fi(ae:List (List Int))(owners:List Int)(l:List Pr):List Int:=(fL ae owners (l.map Pr.aB)).1
def l9(y:List Int)(s:List (Int × Int)):Int:=s.foldl (λa p=>cd a (cR (ai y p.1.toNat) p.2)) 0
def Dm(ae:List (List Int))(aj:List Int)(p:Int × Int):Bool:=bX p.2&&decide (bF Gn p.2=nG aj (ae.getD p.1.toNat []))
def mZ(ae:List (List Int))(owners aj:List Int)(aB:Int)(s:List (Int × Int)):Bool:=decide (s.map GG=(jw owners aB).map λ(i:Nat)=>(i:Int))&&s.all (Dm ae aj)
def qu(l:List Pr)(aB:Int):Option Pr:=l.find? λp=>decide (p.aB=aB)
def dF(c0:Int)(text:List UInt8)(l:List Pr):Nat:=rn (gM c0 text l) c0 text
def A8(ae:List (List Int))(owners:List Int)(aj:List Int)(text:List UInt8)(l:List Pr)(aB:Int)(s:List (Int × Int))(d f:Int):Int × Int:=
 match qu l aB with
 |none=>(0,1)
 |some x=>
  if !(bX d&&bX f) then (0,1)
  else if !mZ ae owners aj aB s then (0,340)
  else if ¬((bF Gn d:Nat):Int)=x.d∨¬((bF Gn f:Nat):Int)=x.e then (0,420)
  else (cd (cd d (cR f (eU (ai aj 0) text l aB))) (cR (dF (ai aj 0) text l) (l9 (fi ae owners l) s)),0)
def yj(ae:List (List Int))(owners:List Int)(aj:List Int)(text:List UInt8)(l:List Pr)(x:Pr):Nat:=
 kj (ai aj 0) text l x * ((jw owners x.aB).foldl (λa i=>a * bF (nG aj (ae.getD i [])) (ai (fi ae owners l) i * dF (ai aj 0) text l)%P) 1)%P
def Az(ae:List (List Int))(owners:List Int)(aj:List Int)(text:List UInt8)(l:List Pr)(aB z:Int):Bool × Int:=
 match qu l aB with
 |none=>(az,1)
 |some x=>if !bX z then (az,1) else (decide (bF Gn z=yj ae owners aj text l x),0)
def nI(key:Int)(text:List UInt8)(e s:Int):Bool:=bI key&&bX e&&bX s&&decide (e=((rn ((bF Gn s * bF key.toNat (-e)%P:Nat):Int) key text:Nat):Int))
def aj4(b):mU b<Q:=nj _ aV
def rW{x}:bX x=ah↔okF x:=by unfold bX okF;simp
def Xb(bp)(v):bX ((ua bp v:Nat):Int)=ah:=by rw[rW];have:=aj4 (gx bp (dK v));unfold ua okF;rw[BK];omega
def avs{x n s}{text}{e}(he:e=rn ((bF Gn n:Nat):Int) ((bF Gn x:Nat):Int) text)(hs:okF s)(h:Qi∣s - (n+e * x)):nI ((bF Gn x:Nat):Int) text e s=ah:=by
 unfold nI;have hx:=Bg rA x;have e1:bI ((bF Gn x:Nat):Int)=ah:=by unfold bI;rw[dV,hx,FZ];have h:=(elem_iff.1 hx).1;exact bQ ag
 have e2:bX ((e:Nat):Int)=ah:=by rw[he];exact Xb _ _
 have e3:bF Gn s * bF (bF Gn x) (-(e:Int))%P=bF Gn n:=by
  rw[<-Iy rA,<-Fw rA];refine Rw ?_;have:s+x * -(e:Int) - n=s - (n+e * x):=by rw[Int.mul_neg,zW x];omega
  rw[this];exact h
 rw[e1,e2,rW.2 hs,dV,e3,<-he];simp
end Go.NT
end
section
namespace Go.NT
def lN(f:Nat->Int)(a:List Int)(c k:Nat):List Int:=(bM a.length).map λj=>if c<=j/\j<k then f j else ai a j
section
variable {f:Nat->Int} {a own:List Int} {c k j r w:Nat} {t:List (List Int)}
def sV:(lN f a c k).length=a.length:=by unfold lN;simp
def Ei(hj:j<a.length):ai (lN f a c k) j=if c<=j/\j<k then f j else ai a j:=by rw[fm (by rw[sV];exact hj)];unfold lN;rw[p9,Bv]
def VF:lN f a c c=a:=by refine xX sV λj hj=>?_;rw[sV] at hj;rw[Ei hj,aI ag]
def VE(hc:c<=k)(hk:k<a.length):(lN f a c k).set k (f k)=lN f a c (k+1):=by
 refine xX (by rw[mr,sV,sV]) λj hj=>?_;rw[mr,sV] at hj;rw[JW (by rw[sV];exact hk),Ei hj,Ei hj];by_cases AP:j=k
 ·subst AP;rw[aG rfl,aG ag]
 ·rw[aI AP];by_cases q:c<=j/\j<k
  ·rw[aG q,aG ag]
  ·rw[aI q,aI ag]
def ahS{n:Int}(hc:c<=a.length):lN (λj=>cR (ai a j) n) a c a.length=iF c a n:=by
 unfold iF;refine xX (by rw[sV,dw,bu,eS,hJ];omega) λj hj=>?_;rw[sV] at hj;rw[Ei hj,Eb hc];by_cases q:j<c
 ·rw[aI ag,aG q]
 ·rw[aG ag,aI q];have hm:j - c<((a.drop c).map (cR · n)).length:=by rw[bu,hJ];omega
  rw[fm hm,p9,List.getElem_drop,fm hj];congr 2;omega
def qK(c:Nat)(own:List Int)(r j:Nat)(t:List (List Int)):List (List Int):=t.mapIdx λi a=>if i<j/\i≠r then vN c a own else a
def Vv:(qK c own r j t).length=t.length:=by unfold qK;simp
def xk(i:Nat):(qK c own r j t)[i]?=t[i]?.map λa=>if i<j/\i≠r then vN c a own else a:=by unfold qK;rw[ac4]
def ahf:qK c own r 0 t=t:=by apply rB;intro i;rw[xk];cases t[i]?<;>simp
def ahd:qK c own r (r+1) t=qK c own r r t:=by
 apply rB;intro i;rw[xk,xk];congr 1;funext a;by_cases h:i<r/\i≠r
 ·rw[aG h,aG ag]
 ·rw[aI h,aI ag]
def ahc:(qK c own r j t)[j]?=t[j]?:=by rw[xk];cases t[j]?<;>simp
def ahb:(qK c own r j t)[r]?=t[r]?:=by rw[xk];cases t[r]?<;>simp
def ahe{a:List Int}(hj:t[j]?=aa a)(hr:j≠r):(qK c own r j t).set j (vN c a own)=qK c own r (j+1) t:=by
 apply rB;intro i;rw[mL,Vv];have hl:=(aS.1 hj).1;split
 ·rename_i e;subst e
  try rw[aG hl]
  rw[xk,hj,ff,aG ⟨Nat.lt_succ_self _,hr⟩]
 ·rename_i e;rw[xk,xk];congr 1;funext a;by_cases h:i<j/\i≠r
  ·rw[aG h,aG ag]
  ·rw[aI h,aI ag]
def Kp{j:Nat}(hr:r<=j)(hj:j<=t.length)(hz:∀k,r<=k->k<j->ai (t.getD k []) c=0)(he:j<t.length->ai (t.getD j []) c≠0):oS t r c=if j=t.length then au else aa j:=by
 cases hf:oS t r c with
 |none=>
  by_cases e:j=t.length
  ·rw[aG e]
  ·exact absurd (V4 hf ag hr) (he ag)
 |some k=>
  obtain⟨k1,k2,k3⟩:=Cb hf;have hkj:j<=k:=by
   rcases dW k j with h|h
   ·exact absurd (hz k k2 h) k3
   ·exact h
  rw[aI ag];unfold oS at hf;rw[List.find?_eq_some_iff_getElem] at hf;obtain⟨-,i,hi,y7,eM⟩:=hf;rw[Bv] at y7;subst y7;rcases dW j i with h|h
  ·have:=eM j h;rw[Bv] at this;simp only[zR,Bool.and_eq_false_imp,decide_eq_true_eq,Bool.not_eq_false',decide_eq_true_eq] at this;exact absurd (this hr) (he ag)
  ·rw[Nat.le_antisymm h hkj]
def atY{pv:List Nat}{k:Nat}{b o:List Int}(hf:oS t pv.length c=aa k)(hb:t[k]?=aa b)(ho:t[pv.length]?=aa o):
 yh (t,pv) c=(qK c (iF c b (eK (ai b c))) pv.length t.length (((t.set pv.length b).set k o).set pv.length (iF c b (eK (ai b c)))),pv++[c]):=by
 have hk:=(aS.1 hb).1;have hr:=(aS.1 ho).1;have gb:t.getD k []=b:=by rw[ez,hb];rfl
 have go:t.getD pv.length []=o:=by rw[ez,ho];rfl
 unfold yh;simp only[hf,gb,go];congr 1;generalize iF c b (eK (ai b c))=s;have e1:((t.set pv.length b).set k o).set pv.length s=(t.set k o).set pv.length s:=by
  by_cases e:k=pv.length
  ·subst e;simp
  ·rw[List.set_comm _ _ (λq=>e q.symm),DW]
 rw[e1];apply rB;intro i;rw[ac4,xk];by_cases e:i=pv.length
 ·subst e;rw[List.getElem?_set_self (by rw[mr];exact hr)];simp
 ·cases hi:((t.set k o).set pv.length s)[i]? with|none=>rfl|some x=>have:=(aS.1 hi).1;rw[mr,mr] at this;simp[e,this]
end
end Go.NT
end
section
namespace Go.NT
def Ny(l:List Pr)(ld le:Int->Int):Prop:=∀p∈l,p.d=((bF Gn (ld p.aB):Nat):Int)/\p.e=((bF Gn (le p.aB):Nat):Int)
def Xc(bp)(v):okF ((ua bp v:Nat):Int):=rW.1 (Xb bp v)
def LB(x)(bp)(v):tG x (ua bp v)=bF x ((ua bp v:Nat):Int):=by unfold bF;rw[Cf (Xc bp v),dV]
def ZE{text}{l}{p}{d e}(hd:p.d=((bF Gn d:Nat):Int))(he:p.e=((bF Gn e:Nat):Int))(c0):
 kj c0 text l p=bF Gn (d+e * ((eU c0 text l p.aB:Nat):Int)):=by
 unfold kj;rw[hd,he,dV,dV];unfold eU;rw[LB,<-Iy rA,<-Fw rA]
def aob{text}{l}{ld le}(h:Ny l ld le)(c0):
 gM c0 text l=bF Gn (cK (l.map λp=>ld p.aB+le p.aB * ((eU c0 text l p.aB:Nat):Int))):=by
 unfold gM;exact RG λp hp=>ZE (h p hp).1 (h p hp).2 c0
def mY(owners sh:List Int)(k:Int):List (Int × Int):=(jw owners k).map λi=>((i:Nat),ai sh i)
def zL(y sh:List Int)(L:List Nat):Int:=cK (L.map λi=>ai y i * ai sh i)
def avL(y owners sh)(k):Qi∣l9 y (mY owners sh k) - zL y sh (jw owners k):=by
 unfold l9 mY zL;rw[List.foldl_map];have h1:=ON (f:=λi:Nat=>cR (ai y i) (ai sh i)) (l:=jw owners k) 0;rw[Gf] at h1;have e:(λ(a:Int) (i:Nat)=>cd a (cR (ai y (((i:Nat):Int)).toNat) (ai sh i)))=λa i=>cd a (cR (ai y i) (ai sh i)):=by funext a i;rw[dV]
 simp only[e];exact Em h1 (Jh λi _=>Ks _ _)
def aut{α:Type}{f}{p}:∀{l:List α},cK ((l.filter p).map f)=cK (l.map λi=>if p i=ah then f i else 0):=by
 intro l
 induction l with
 |nil=>rfl|cons x l ih=>
  cases hp:p x
  ·rw[ac0 (by simp[hp]),ih];simp only[eC,cK,hp];simp
  ·rw[ac1 hp];simp only[eC,cK,hp,ih];simp
def auw{n v}:∀{ar:List Int},ar.Nodup->cK (ar.map λk=>if decide (n=k)=ah then v else 0)=if n∈ar then v else 0:=by
 intro ar
 induction ar with
 |nil=>intro _;rfl|cons k l ih=>
  intro h;obtain⟨h1,h2⟩:=Gq.1 h;simp only[eC,cK,ih h2];by_cases hk:n=k
  ·subst hk;simp[h1]
  ·simp[hk]
def arh{owners y sh}{ar:List Int}(hn:ar.Nodup)(h0:∀i,ai owners i∉ar->ai y i=0):
 cK (ar.map λk=>zL y sh (jw owners k))=cK ((bM owners.length).map λi=>ai y i * ai sh i):=by
 have e1:(λk=>zL y sh (jw owners k))=λk=>cK ((bM owners.length).map λi=>if decide (ai owners i=k)=ah then ai y i * ai sh i else 0):=by funext k;exact aut
 rw[e1,abS];refine SS λi _=>?_;rw[auw hn];split
 ·rfl
 ·rename_i h;rw[h0 i h,JC]
def Rs:∀{cZ:Int} {ar:List Int},fJ cZ ar=true->(∀n∈ar,cZ<n/\n<=63)/\ar.Nodup:=by
 intro cZ ar
 induction ar generalizing cZ with
 |nil=>intro _;exact⟨λn hn=>by simp at hn,.nil⟩|cons n l ih=>
  intro h;rw[fJ] at h;simp only[bC,decide_eq_true_eq] at h;obtain⟨h1,h2⟩:=ih h.2;refine⟨λm hm=>?_,Gq.2 ⟨λhm=>?_,h2⟩⟩
  ·rcases iu.1 hm with rfl|hm
   ·exact h.1
   ·have:=h1 m hm;exact⟨ag,this.2⟩
  ·have:=h1 n hm;omega
def qw(ae:List (List Int))(owners aj:List Int)(text:List UInt8)(l:List Pr)(k d f:Int)(s:List (Int × Int)):Int:=
 cd (cd d (cR f (eU (ai aj 0) text l k))) (cR (dF (ai aj 0) text l) (l9 (fi ae owners l) s))
def ZX{ae}{owners aj}{text}{l}{k d f}{s}:okF (qw ae owners aj text l k d f s):=Km _ _
def ZW(ae)(owners aj)(text)(l)(k d f)(sh):
 Qi∣qw ae owners aj text l k d f (mY owners sh k) - (d+f * ((eU (ai aj 0) text l k:Nat):Int)+((dF (ai aj 0) text l:Nat):Int) * zL (fi ae owners l) sh (jw owners k)):=by
 unfold qw;generalize ((eU (ai aj 0) text l k:Nat):Int)=b;generalize ((dF (ai aj 0) text l:Nat):Int)=c;have h1:=avL (fi ae owners l) owners sh k;generalize l9 (fi ae owners l) (mY owners sh k)=w at *
 generalize zL (fi ae owners l) sh (jw owners k)=v at *
 have h2:=VZ (cd d (cR f b)) (cR c w);have h3:=VZ d (cR f b);have h4:=Ks f b;have h5:=Ks c w;have h6:Qi∣c * (w - v):=Gb h1;rw[zX] at h6;have:=yp (yp (yp h2 h3) (yp h4 h5)) h6;refine(congrArg (Qi∣·) ?_).mp this;generalize f * b=x1;generalize c * w=x2;generalize c * v=x3;omega
def anU{ae}{owners y s}{text}{l}{ld le:Int->Int}(ha:fL ae owners (l.map Pr.aB)=(y,ah,0))(hs:s.length=bJ ae):
 Qi∣cK ((l.map Pr.aB).map λk=>qw ae owners (cI s) text l k (ld k) (le k) (mY owners (jG ae s) k)) -
  (cK ((l.map Pr.aB).map λk=>ld k+le k * ((eU (ai (cI s) 0) text l k:Nat):Int))+((dF (ai (cI s) 0) text l:Nat):Int) * ai s 0):=by
 obtain⟨hp,hw,h1,h2,h3,h4⟩:=yE ha;obtain⟨p1,-,-,-⟩:=rk hp;have hn:=(Rs hw).2;have e1:=Jh (q:=Qi) (l:=l.map Pr.aB) (f:=λk=>qw ae owners (cI s) text l k (ld k) (le k) (mY owners (jG ae s) k))
  (g:=λk=>ld k+le k * ((eU (ai (cI s) 0) text l k:Nat):Int)+((dF (ai (cI s) 0) text l:Nat):Int) * zL (fi ae owners l) (jG ae s) (jw owners k))
  λk _=>ZW ae owners (cI s) text l k (ld k) (le k) (jG ae s)
 refine Em e1 ?_;rw[abR,ME];have hy:fi ae owners l=y:=by unfold fi;rw[ha]
 rw[hy,arh hn h3,<-p1];have h5:=avx ha hs;have h6:Qi∣((dF (ai (cI s) 0) text l:Nat):Int) * (cK ((bM ae.length).map λi=>ai y i * ai (jG ae s) i) - ai s 0):=Gb h5;rw[zX] at h6;refine(congrArg (Qi∣·) ?_).mp h6;omega
def ahu{s}(h:0<s.length):ai (cI s) 0=((bF Gn (ai s 0):Nat):Int):=UI h
def aeo(z):Qi∣z.foldl cd 0 - cK z:=by have:=ON (f:=λx:Int=>x) (l:=z) 0;rw[Gf,List.map_id'] at this;exact this
def aep(z:List Int):okF (z.foldl cd 0):=Wh (f:=λx:Int=>x) Bd
def Mt{ae}{owners y s}{text}{l}{ld le}(ha:fL ae owners (l.map Pr.aB)=(y,ah,0))(hs:s.length=bJ ae)(hl:Ny l ld le):
 nI (ai (cI s) 0) text ((dF (ai (cI s) 0) text l:Nat):Int) (((l.map Pr.aB).map λk=>qw ae owners (cI s) text l k (ld k) (le k) (mY owners (jG ae s) k)).foldl cd 0)=ah:=by
 obtain⟨hp,-⟩:=yE ha;have jb:0<s.length:=by have:=(sU hp).1;omega
 have h1:=anU (text:=text) (ld:=ld) (le:=le) ha hs;have h2:=aeo ((l.map Pr.aB).map λk=>qw ae owners (cI s) text l k (ld k) (le k) (mY owners (jG ae s) k));have h3:=Em h2 h1;have Qe:=aob (text:=text) hl (ai (cI s) 0);have e:(l.map Pr.aB).map (λk=>ld k+le k * ((eU (ai (cI s) 0) text l k:Nat):Int))=l.map λp=>ld p.aB+le p.aB * ((eU (ai (cI s) 0) text l p.aB:Nat):Int):=by rw[Bx];rfl
 rw[e] at h3;have hc:dF (ai (cI s) 0) text l=rn ((gM (ai (cI s) 0) text l:Nat):Int) (ai (cI s) 0) text:=rfl;rw[Qe] at hc;generalize dF (ai (cI s) 0) text l=c at *
 generalize cK (l.map λp=>ld p.aB+le p.aB * ((eU (ai (cI s) 0) text l p.aB:Nat):Int))=n at *
 rw[ahu jb] at *
 exact avs hc (aep _) h3
def SB{ae}{s}{i}(h:i<ae.length):ai (jG ae s) i=oQ (ae.getD i []) s:=by unfold jG;rw[fm (by simpa using h),p9,lO h]
def avu{ae}{owners s}{text}{l}{x}{d f}(hp:cW ae owners=0)(hs:s.length=bJ ae)(hd:x.d=((bF Gn d:Nat):Int))(he:x.e=((bF Gn f:Nat):Int)):
 yj ae owners (cI s) text l x=bF Gn (qw ae owners (cI s) text l x.aB d f (mY owners (jG ae s) x.aB)):=by
 obtain⟨p1,p2,p3,p4⟩:=rk hp;unfold yj;rw[ZE hd he,RG (a:=λi=>ai (fi ae owners l) i * ai (jG ae s) i * ((dF (ai (cI s) 0) text l:Nat):Int)) λi hi=>?_];rotate_left 1
 ·have hi:i<ae.length:=by rw[p1];unfold jw at hi;exact fQ.1 (vG.1 hi).1
  rw[aai (by rw[hs,lO hi];exact(p3 _ (iW _)).1),<-Iy rA,SB hi];congr 1;rw[zW (ai (fi ae owners l) i) (oQ _ _),Int.mul_assoc]
 rw[<-Fw rA];refine(Rw ?_).symm;have h1:=ZW ae owners (cI s) text l x.aB d f (jG ae s);have e:cK ((jw owners x.aB).map λi=>ai (fi ae owners l) i * ai (jG ae s) i * ((dF (ai (cI s) 0) text l:Nat):Int))=((dF (ai (cI s) 0) text l:Nat):Int) * zL (fi ae owners l) (jG ae s) (jw owners x.aB):=by unfold zL;rw[<-ME];exact SS λi _=>zW _ _
 rw[e];exact h1
def aiX{ae}{owners s}{text}{l}{x}{d f z}(hp:cW ae owners=0)(hs:s.length=bJ ae)(hd:x.d=((bF Gn d:Nat):Int))(he:x.e=((bF Gn f:Nat):Int))(hz:okF z):
 decide (bF Gn z=yj ae owners (cI s) text l x)=decide (z=qw ae owners (cI s) text l x.aB d f (mY owners (jG ae s) x.aB)):=by
 rw[avu hp hs hd he,decide_eq_decide];exact⟨λh=>aow hz ZX h,λh=>by rw[h]⟩
def anC{ae}{owners s}(hp:cW ae owners=0)(hs:s.length=bJ ae)(k):mZ ae owners (cI s) k (mY owners (jG ae s) k)=ah:=by
 obtain⟨p1,p2,p3,p4⟩:=rk hp;unfold mZ mY;rw[bC];refine⟨by simp[Bx,Function.comp_def],?_⟩;rw[ey];intro q hq;obtain⟨i,hi,rfl⟩:=jP.1 hq;have hi:i<ae.length:=by rw[p1];unfold jw at hi;exact fQ.1 (vG.1 hi).1
 unfold Dm;simp only[dV];have CM:nG (cI s) (ae.getD i [])=bF Gn (oQ (ae.getD i []) s):=aai (by rw[hs,lO hi];exact(p3 _ (iW _)).1);rw[SB hi,rW.2 (aib _ _),Bool.true_and];exact bQ CM.symm
def ZT{l}{cZ}(h:gd cZ l=true){p}(hp:p∈l):qu l p.aB=some p:=by
 induction l generalizing cZ with
 |nil=>simp at hp|cons q l ih=>
  rw[gd] at h;simp only[bC,decide_eq_true_eq] at h;unfold qu;rw[List.find?_cons];rcases iu.1 hp with rfl|hp
  ·simp
  ·have HA:∀{l:List Pr} {cZ:Int},gd cZ l=ah->∀p∈l,cZ<p.aB:=by
    intro l
    induction l with
    |nil=>intro _ _ p hp;simp at hp|cons q l ih=>
     intro cZ h p hp;rw[gd] at h;simp only[bC,decide_eq_true_eq] at h;rcases iu.1 hp with rfl|hp
     ·exact h.1.1.1.1.1.1
     ·have:=ih h.2 p hp;have:=h.1.1.1.1.1.1;omega
   have:=HA h.2 p hp;have bG:decide (q.aB=p.aB)=az:=cE ag;rw[bG];exact ih h.2 hp
def amC{ae}{owners s}{text}{l}{cZ}(hp:cW ae owners=0)(hs:s.length=bJ ae)(hl:gd cZ l=ah){x}(hx:x∈l){d f}(hd:x.d=((bF Gn d:Nat):Int))(he:x.e=((bF Gn f:Nat):Int))(od:okF d)(of_:okF f):
 A8 ae owners (cI s) text l x.aB (mY owners (jG ae s) x.aB) d f=(qw ae owners (cI s) text l x.aB d f (mY owners (jG ae s) x.aB),0):=by
 unfold A8;rw[ZT hl hx];simp only[rW.2 od,rW.2 of_,anC hp hs,hd,he];simp[qw]
end Go.NT
end
section
namespace Go.Proofs.YtnfciiiohoafaaaGreatDoor
open Go.AE Go.NT
def U7:qE prims []:=λg h=>nomatch h
def apL(a n:Int)(h:aq):W.call 132 [im a,im n] h=aa (.ret (.tuple [im (eR a n),im (mS a)]),h):=by
 have ca:=Mp a;unfold eR mS;by_cases ha:bI a=ah
 ·rw[aG ha,aG ha];rw[ha] at ca;obtain⟨x,rfl,hx,x1,x2⟩:=BZ ha;have ce:=aiI n;have aA:=OL n;have hm:=Cg n;have cp:=aaH (bF x n) x (fmod n).toNat (by have:Q=1073741789:=rfl;omega) (ot.start x2 (by have:Q=1073741789:=rfl;omega));rw[hm] at cp;simp only[dV];clear ha hx x1 x2 aA hm;unfold im at *
  refine cJ rfl adN rfl ?_;exact jm @aaK
 ·have nu:bI a=az:=by simpa using ha
  rw[aI ha,aI ha];rw[nu] at ca;unfold im at *
  refine cJ rfl adN rfl ?_;exact jm @aaK
def apF(a b:Int)(h:aq):W.call 140 [im a,im b] h=aa (.ret (.tuple [im (jk a b),im (nP a b)]),h):=by
 have ca:=Mp a;have cb:=Mp b;unfold jk nP;by_cases ha:bI a=ah
 ·by_cases hb:bI b=ah
  ·rw[aG ⟨ha,hb⟩,aG ⟨ha,hb⟩];rw[ha] at ca;rw[hb] at cb;obtain⟨x,rfl,-,-,x2⟩:=BZ ha;obtain⟨y,rfl,-,-,y2⟩:=BZ hb;obtain⟨m1,m2,-⟩:=mul_tmod x2 y2;simp only[dV];have e1:((x:Nat):Int) * (y:Nat)=((x * y:Nat):Int):=(Int.natCast_mul _ _).symm;have e3:((x * y:Nat):Int).tmod 2147483579=((x * y%P:Nat):Int):=ph (x * y) 2147483579;rw[e1] at m1 m2;clear ha hb;unfold im at *
   refine cJ rfl Ua rfl ?_;exact jm @R1
  ·have iB:bI b=az:=(by simpa using hb);rw[aI (λq=>hb q.2),aI (λq=>hb q.2)];rw[ha] at ca;rw[iB] at cb;unfold im at *
   refine cJ rfl Ua rfl ?_;exact jm @R1
 ·have nu:bI a=az:=by simpa using ha
  rw[aI (λq=>ha q.1),aI (λq=>ha q.1)];rw[nu] at ca;unfold im at *
  refine cJ rfl Ua rfl ?_;exact jm @R1
def arQ:Tryz.f223.results.toList=[.tmp 2]:=av
def arR:Tryz.f224.results.toList=[.tmp 4]:=av
def aa1:Tryz.f225.results.toList=[.cell 0 242]:=av
def IV:Tryz.f190.results.toList=[.cell 2 177]:=av
def aqP(v:BitVec 32)(n:Nat)(h0:0<n)(hn:n<32)(h:aq):W.call 224 [aT v,im (n:Nat)] h=aa (.ret (aT (NT.dO v n)),h):=by
 have e1:IntKind.i64.wrap (32 - ((n:Nat):Int))=((32 - n:Nat):Int):=by rw[fN ag ag];omega
 have s1:∀t x y,cY ao .shr t x y (aT v) (.v (.int .i64 (n:Nat)))=aa (aT (v>>>n)):=λt x y=>tH hn;have s2:∀t x y,cY ao .shl t x y (aT v) (.v (.int .i64 ((32 - n:Nat):Int)))=aa (aT (v<<<(32 - n))):=λt x y=>ss ag;have e3:NT.dO v n=(v>>>n)|||(v<<<(32 - n)):=rfl
 rw[e3];unfold im;refine cJ rfl Tryz.func224 rfl ?_
 repeat' (first|simp(maxSteps:=999999)(disch:=first|exact dZ|fail)only[gW,reduceIte,aO,aM,arR,pY, *]|(refine dX ?_ ?_<;>(intro _;try omega))|refine ev U7 av ?_)
def avD{a0 a1 a2 a3}(h0:a0<256)(h1:a1<256)(h2:a2<256)(h3:a3<256):(((a0<<<24)|||(a1<<<16))|||(a2<<<8))|||a3=(a0 * 256+a1) * 256 * 256+a2 * 256+a3:=by
 have e0:a0<<<24=(a0<<<8)<<<16:=by rw[<-TL]
 have e1:a1<<<16=(a1<<<8)<<<8:=by rw[<-TL]
 have e2:(a0<<<8)<<<16=((a0<<<8)<<<8)<<<8:=by rw[<-TL (a0<<<8) 8 8]
 rw[e0,e1,e2,<-TM,<-TM,<-TM,<-NJ (show a1<2^8 from h1),<-NJ (show a2<2^8 from h2),<-NJ (show a3<2^8 from h3),BH,BH,BH];omega
def avE{b}:(BitVec.ofNat 32 (dy b 0).toNat<<<24|||BitVec.ofNat 32 (dy b 1).toNat<<<16)|||BitVec.ofNat 32 (dy b 2).toNat<<<8|||BitVec.ofNat 32 (dy b 3).toNat=qC b 0:=by
 have h0:=vz (dy b 0);have h1:=vz (dy b 1);have h2:=vz (dy b 2);have h3:=vz (dy b 3);unfold qC;rw[<-avD h0 h1 h2 h3];generalize (dy b 0).toNat=a0 at *
 generalize (dy b 1).toNat=a1 at *
 generalize (dy b 2).toNat=a2 at *
 generalize (dy b 3).toNat=a3 at *
 rw[BitVec.ofNat_or,BitVec.ofNat_or,BitVec.ofNat_or];have sh:∀a k:Nat,BitVec.ofNat 32 (a<<<k)=BitVec.ofNat 32 a<<<k:=λa k=>by apply BitVec.eq_of_toNat_eq;rw[BitVec.toNat_shiftLeft,BitVec.toNat_ofNat,BitVec.toNat_ofNat,BH,BH,Nat.mod_mul_mod]
 rw[sh,sh,sh]
def cvw(c)(h):nL ao h 5 42 (bZ c)=aa (aT (BitVec.ofNat 32 c.toNat),h):=by unfold bZ;rw[VH];unfold aT;have:=vz c;rw[wrap32,BitVec.toNat_ofNat];congr 3
def Lh{h}{b}{i}(hi:i<b.length):aH ao Gt h 5 (.elem 1 (a8 b) i 0)=aa (bZ (dy b i)):=by rw[r8 JS (row:=lh (dy b i)) (by rw[ej,aR hi];unfold dy;rw[ez,aR hi];rfl)];rfl
def as7{t}{x y}{u}:cY ao .shl t x y (aT u) (.v (.int .u64 24))=aa (aT (u<<<24))/\cY ao .shl t x y (aT u) (.v (.int .u64 16))=aa (aT (u<<<16))/\cY ao .shl t x y (aT u) (.v (.int .u64 8))=aa (aT (u<<<8)):=⟨ss (n:=24) aV,ss (n:=16) aV,ss (n:=8) aV⟩
def asI(b:List UInt8)(hb:4<=b.length)(k:Tok)(h:aq):W.call 223 [.list k 1 (a8 b)] h=aa (.ret (aT (qC b 0)),h):=by
 have ix:∀n:Nat,n<b.length->dH ao 28 (.list k 1 (a8 b)) (.v (.int .i64 (n:Nat)))=aa (.elem 1 (a8 b) n 0):=λn hn=>by rw[bh jz tI ag (by rw[bu];omega),dV]
 have i0:=ix 0 ag;have i1:=ix 1 ag;have i2:=ix 2 ag;have i3:=ix 3 ag;have l0:=Lh (h:=h) (ag:0<b.length);have l1:=Lh (h:=h) (ag:1<b.length);have l2:=Lh (h:=h) (ag:2<b.length);have l3:=Lh (h:=h) (ag:3<b.length);rw[<-avE];simp only[tK,Int.natCast_one] at i0 i1;have i2:dH ao 28 (.list k 1 (a8 b)) (.v (.int .i64 2))=aa (.elem 1 (a8 b) 2 0):=i2;have i3:dH ao 28 (.list k 1 (a8 b)) (.v (.int .i64 3))=aa (.elem 1 (a8 b) 3 0):=i3;clear ix;refine cJ rfl Tryz.func223 rfl ?_
 repeat' (first|simp(maxSteps:=999999)(disch:=first|exact dZ|fail)only[gW,reduceIte,aO,aM,arQ,cvw,as7,pY, *]|(refine dX ?_ ?_<;>(intro _;try omega))|refine ev U7 av ?_)
def arN:Tryz.f210.results.toList=[.tmp 2]:=av
def as4{t}{x y}{n}(hn:n<=4611686018427387903):cY ao .shl t x y (.v (.int .u64 (n:Nat))) (.v (.int .u64 1))=aa (.v (.int .u64 ((2 * n:Nat):Int))):=by rw[N9 aV];congr 3;show IntKind.u64.wrap (((n:Nat):Int) * 2)=_;unfold IntKind.wrap;simp[IntKind.signed,IntKind.bits];omega
def as8{t}{x y}{n}(hn:n<=4611686018427387903):cY ao .shr t x y (.v (.int .i64 (n:Nat))) (.v (.int .u64 63))=aa (.v (.int .i64 0)):=by rw[BP aV];congr 3;show((n:Nat):Int).fdiv (2^63)=_;rw[Gc _ aV];omega
def avN{t}{x y}{n}(hn:n<=4611686018427387903):cY ao .xor t x y (.v (.int .u64 ((2 * n:Nat):Int))) (.v (.int .u64 0))=aa (.v (.int .u64 ((2 * n:Nat):Int))):=by
 rw[UO];congr 3;have e1:(BitVec.ofInt IntKind.u64.bits ((2 * n:Nat):Int)^^^BitVec.ofInt IntKind.u64.bits 0).toNat=2 * n:=by show(BitVec.ofInt 64 ((2 * n:Nat):Int)^^^0#64).toNat=2 * n;rw[BitVec.xor_zero,BitVec.toNat_ofInt];omega
 rw[e1];unfold IntKind.wrap;simp[IntKind.signed,IntKind.bits];omega
def wO{n}(hn:n<18446744073709551616):IntKind.u64.wrap ((n:Nat):Int)=((n:Nat):Int):=by unfold IntKind.wrap;simp[IntKind.signed,IntKind.bits];omega
def ava(n)(hn:n<=4611686018427387903)(h):W.call 210 [.v (.int .i64 (n:Nat))] h=aa (.ret (.v (.int .u64 (lY n:Nat))),h):=by
 have e:lY (n:Int)=2 * n:=by unfold lY;rw[aG ag,dV]
 rw[e];have e1:=wO (n:=n) ag;have e2:IntKind.u64.wrap 0=0:=rfl;have s1:=λt x y=>as4 (t:=t) (x:=x) (y:=y) hn;have s2:=λt x y=>as8 (t:=t) (x:=x) (y:=y) hn;have s3:=λt x y=>avN (t:=t) (x:=x) (y:=y) hn;refine cJ rfl Tryz.func210 rfl ?_;exact jl @arN @rH
def L1:List FuncId:=[28,29,30,46,65,66,69,78,82,94,132,138,140,194,201,210,223,224]
noncomputable def Ry:FuncId->Option (List AV->aq->Option (AV × aq)):=qJ W L1
noncomputable abbrev W1:=whole ao Gt Ry
def vM:qE Ry L1:=yM
def fh{t}(k):sD t (bO k)=ah:=by cases k<;>rfl
def qo:∀b:List UInt8,fa (a8 b)=a8 b
 | []=>rfl
 |c::b=>by show bN (lh c)::fa (a8 b)=_;rw[qo b];rfl
def jS{n l t}:∀b:List UInt8,gQ n l t (a8 b)=ah
 | []=>rfl
 |c::b=>by show(aP n l t (lh c)&&gQ n l t (a8 b))=ah;rw[jS b];rfl
def KW:∀l:List Int,fa (ints l)=ints l
 | []=>rfl
 |c::b=>by show bN (xN c)::fa (ints b)=_;rw[KW b];rfl
def nq{n l t}:∀b:List Int,gQ n l t (ints b)=ah
 | []=>rfl
 |c::b=>by show(aP n l t (xN c)&&gQ n l t (ints b))=ah;rw[nq b];rfl
section
variable (a b n x:Int)
def aef:∀h,W1.call 28 [im a,im b] h=aa (.ret (im (cd a b)),h):=bm (L:=L1) rfl rfl rfl (aen a b _) rfl rfl
def amQ:∀h,W1.call 29 [im a,im b] h=aa (.ret (im (cR a b)),h):=bm (L:=L1) rfl rfl rfl (Q6 a b _) rfl rfl
def alu:∀h,W1.call 201 [im n] h=aa (.ret (.tuple [im (if fmod n=0 then 0 else eK n),im (if fmod n=0 then 90 else 0)]),h):=bm (L:=L1) rfl rfl rfl (alw n _) rfl rfl
def avi:∀h,W1.call 46 [im x] h=aa (.ret (.v (.bool (bI x))),h):=bm (L:=L1) rfl rfl rfl (MN x _) rfl rfl
def ajs:∀h,W1.call 69 [im a,im b] h=aa (.ret (.tuple [im (jk a b),im (nP a b)]),h):=bm (L:=L1) rfl rfl rfl (ajw a b _) rfl rfl
def ajx:∀h,W1.call 30 [im a,im n] h=aa (.ret (.tuple [im (eR a n),im (mS a)]),h):=by obtain⟨h',hc,-⟩:=ajA a n ⟨[],[],0,[]⟩;exact bm (L:=L1) rfl rfl rfl hc rfl rfl
def aoZ:∀h,W1.call 65 [im a,im b] h=aa (.ret (im (cd a b)),h):=bm (L:=L1) rfl rfl rfl (ao4 a b _) rfl rfl
def aqK:∀h,W1.call 66 [im a,im b] h=aa (.ret (im (cR a b)),h):=bm (L:=L1) rfl rfl rfl (RS a b _) rfl rfl
def ap0:∀h,W1.call 194 [im n] h=aa (.ret (.tuple [im (if fmod n=0 then 0 else eK n),im (if fmod n=0 then 90 else 0)]),h):=bm (L:=L1) rfl rfl rfl (ap8 n _) rfl rfl
def asA:∀h,W1.call 94 [im x] h=aa (.ret (.v (.bool (bI x))),h):=bm (L:=L1) rfl rfl rfl (Mp x _) rfl rfl
def apA:∀h,W1.call 140 [im a,im b] h=aa (.ret (.tuple [im (jk a b),im (nP a b)]),h):=bm (L:=L1) rfl rfl rfl (apF a b _) rfl rfl
def apG:∀h,W1.call 132 [im a,im n] h=aa (.ret (.tuple [im (eR a n),im (mS a)]),h):=bm (L:=L1) rfl rfl rfl (apL a n _) rfl rfl
end
def au9(n)(hn:n<=4611686018427387903):∀h,W1.call 210 [.v (.int .i64 (n:Nat))] h=aa (.ret (.v (.int .u64 (lY n:Nat))),h):=bm (L:=L1) rfl rfl rfl (ava n hn _) rfl rfl
def xV(v)(n)(h0:0<n)(hn:n<32):∀h,W1.call 224 [aT v,im (n:Nat)] h=aa (.ret (aT (NT.dO v n)),h):=bm (L:=L1) rfl rfl rfl (aqP v n h0 hn _) rfl rfl
def asH(b)(hb:4<=b.length)(k):∀h,W1.call 223 [.list k 1 (a8 b)] h=aa (.ret (aT (qC b 0)),h):=
 bm (L:=L1) (b9:=[.list (bO k) 1 (a8 b)]) rfl (by rw[bN,aC,qo];rfl) (by simp[aP,aK,fh,jS]) (asI b hb _ _) rfl rfl
def ajn(bp b)(k)(hb:b.length<=1099511620000)(ht:bp.length<=1099511620000):∀h,W1.call 78 [.v (.string (bs bp)),.list k 1 (a8 b)] h=aa (.ret (im (mU (gx bp b):Nat)),h):=by obtain⟨h',hc,-⟩:=ajr bp b (.list (bO k) 1 (a8 b)) ⟨[],[],0,[]⟩ (dT.list (Ai _) λ_=>rfl) hb ht;exact bm (L:=L1) (b9:=[.v (.string (bs bp)),.list (bO k) 1 (a8 b)]) rfl (by rw[bN,bN,aC.eq_1,qo];rfl) (by simp[aP,aK,fh,jS]) hc rfl rfl
def sv(s:List UInt8):AV:=.v (.string (bs s))
def aL(k n:Int)(s:List UInt8)(t:Tok)(sz:Nat)(ae:List (List AV)):List AV:=[im k,im n,sv s,.list t sz ae]
inductive da:Vl->List AV->Prop
 |int (n:Int) (hn:0<=n/\n<=4611686018427387903):da (.int n) (aL 1 n [] .nil 0 [])
 |text (s:List UInt8) (hs:s.length<=1099511620000):da (.text s) (aL 2 0 s .nil 0 [])
 |list (l:List Vl) (k:Tok) (sz:Nat) (ae:List (List AV)) (hl:ae.length=l.length) (hs:ae≠[]->sz=4) (hm:ae.length<=1000000) (h:∀(i:Nat) v r,l[i]?=aa v->ae[i]?=aa r->da v r):da (.list l) (aL 3 0 [] k sz ae)
def da.len{v}{r}(h:da v r):r.length=4:=by cases h<;>rfl
def kK{k n}{s}{t}{sz}{ae}:(AV.agg (aL k n s t sz ae)).bP=aa (aL k n s t sz ae):=rfl
def da.cells{v}{r}(h:da v r):(AV.agg r).bP=aa r:=by cases h<;>rfl
def IZ:Tryz.f207.results.toList=[.tmp 2,.tmp 3]:=av
def NX:gI ao 96=aa ah:=av
def qy:dt ao 96=aa 4:=av
def Uv:gI ao 94=aa az:=av
def ag9:gI ao 9=aa az:=av
def ag4:gI ao 4=aa az:=av
def auG:dt ao 246=aa 4:=av
section
variable {H:aq} {b:Nat} {k n:Int} {s:List UInt8} {t:Tok} {sz:Nat} {ae:List (List AV)}
def tB(hb:H.boxes[b]?=aa (aL k n s t sz ae)):aH ao Gt H 3 (.ptr (.box b) 0)=aa (.v (.int .i64 k)):=by rw[mJ eD hb];rfl
def wc(hb:H.boxes[b]?=aa (aL k n s t sz ae)):aH ao Gt H 3 (.ptr (.box b) 1)=aa (.v (.int .i64 n)):=by rw[mJ eD hb];rfl
def ux(hb:H.boxes[b]?=aa (aL k n s t sz ae)):aH ao Gt H 9 (.ptr (.box b) 2)=aa (.v (.string (bs s))):=by rw[mJ ag9 hb];rfl
def oD(hb:H.boxes[b]?=aa (aL k n s t sz ae)):aH ao Gt H 94 (.ptr (.box b) 3)=aa (.list t sz ae):=by rw[mJ Uv hb];rfl
def qt{r:List AV}(hr:r.length=4)(hb:H.boxes[b]?=aa r):aH ao Gt H 96 (.ptr (.box b) 0)=aa (.agg r):=by rw[iL NX qy hb ag,iO,<-hr,fC]
end
def fS:(∀b,gg ao 96 (.ptr (.box b) 0) 0=aa (.ptr (.box b) 0))/\(∀b,gg ao 96 (.ptr (.box b) 0) 1=aa (.ptr (.box b) 1))/\(∀b,gg ao 96 (.ptr (.box b) 0) 2=aa (.ptr (.box b) 2))/\∀b,gg ao 96 (.ptr (.box b) 0) 3=aa (.ptr (.box b) 3):=⟨λ_=>av,λ_=>av,λ_=>av,λ_=>av⟩
def b4(a b c:Bool):List AV:=[.v (.bool az),.v (.bool a),.v (.bool b),.v (.bool c)]
def N3(a b c):mz ao 246 [(1,.v (.bool a)),(2,.v (.bool b)),(3,.v (.bool c))]=aa (.agg (b4 a b c)):=av
def avU:(gZ ao 246).bind AV.bP=aa (b4 az az az):=av
def yk:(gZ ao 96).bind AV.bP=aa (aL 0 0 [] .nil 0 []):=av
def SG(H:aq)(a b c):b7 ao (H.push (b4 az az az)) 246 (.ptr (.box H.boxes.length) 0) (.agg (b4 a b c))=aa (H.push (b4 a b c)):=jx rfl auG rfl rfl
def QI{b n}{k}(hn:n<4):dH ao 246 (.ptr (.box b) 0) (.v (.int k (n:Nat)))=aa (.ptr (.box b) n):=by have h1:ao.underlying 246=aa (.array 4 4):=Tryz.underlying246;have sz4:dt ao 4=aa 1:=av;unfold dH;simp only[h1,sz4];rw[aG ⟨ag,by omega⟩];simp
def QJ{b}:dH ao 246 (.ptr (.box b) 0) (.v (.int .i64 1))=aa (.ptr (.box b) 1)/\dH ao 246 (.ptr (.box b) 0) (.v (.int .i64 2))=aa (.ptr (.box b) 2)/\dH ao 246 (.ptr (.box b) 0) (.v (.int .i64 3))=aa (.ptr (.box b) 3):=⟨QI (n:=1) aV,QI (n:=2) aV,QI (n:=3) aV⟩
def ldb{H}{b}{x y z}(hb:H.boxes[b]?=aa (b4 x y z)):aH ao Gt H 4 (.ptr (.box b) 1)=aa (.v (.bool x))/\aH ao Gt H 4 (.ptr (.box b) 2)=aa (.v (.bool y))/\aH ao Gt H 4 (.ptr (.box b) 3)=aa (.v (.bool z)):=by refine⟨?_,?_,?_⟩<;>(rw[mJ ag4 hb];rfl)
def QK{H:aq}{x}{p q r}:aH ao Gt ((H.push x).push (b4 p q r)) 4 (.ptr (.box (H.push x).boxes.length) 1)=aa (.v (.bool p))/\aH ao Gt ((H.push x).push (b4 p q r)) 4 (.ptr (.box (H.push x).boxes.length) 2)=aa (.v (.bool q))/\aH ao Gt ((H.push x).push (b4 p q r)) 4 (.ptr (.box (H.push x).boxes.length) 3)=aa (.v (.bool r)):=ldb (aZ _ _)
def SR{H:aq}{v}{r}(hv:da v r):b7 ao (H.push (aL 0 0 [] .nil 0 [])) 96 (.ptr (.box H.boxes.length) 0) (.agg r)=aa (H.push r):=jx hv.cells qy hv.len rfl
def Im{H}{ae}{i}{r}(hl:r.length=4)(hr:ae[i]?=aa r):aH ao Gt H 96 (.elem 4 ae i 0)=aa (.agg r):=by rw[Lj NX qy hr ag,iO,<-hl,fC]
def Ou:∀l m:List Vl,ia (l++m)=max (ia l) (ia m)
 | [],m=>by simp[ia]
 |v::l,m=>by rw[kL,ia,ia,Ou l m,Nat.max_assoc]
def Ov{l:List Vl}{i}{v}(h:l[i]?=aa v):ia (l.take (i+1))=max (ia (l.take i)) (gE v):=by rw[ft h,Ou];simp[ia]
def Ow(l)(i):ia (l.take i)<=ia l:=by have:=Ou (l.take i) (l.drop i);rw[yz] at this;omega
def VL{l}{i:Nat}{v}(h:l[i]?=aa v):gE v<=ia l:=by have h1:=Ov h;have h2:=Ow l (i+1);omega
def ajb{v:Vl}{r:List AV}(hv:da v r):gE v<=100->∀h,∃h',W1.call 207 [.agg r] h=aa (.ret (.tuple [.v (.int .i64 (gE v:Nat)),.v (.bool ah)]),h')/\Ext h h':=by
 have u9:=D5;have u94:=qg;have z:=avU
 induction hv with
 |int n hn=>
  intro _ h;refine hY rfl Ue rfl ?_;show bH _ _ _ _ (Au _ _ _ _ (.ret (.tuple [.v (.int .i64 0),.v (.bool ah)])) _)
  repeat' (first|simp(maxSteps:=999999)(disch:=first|exact dZ|fail)only[gW,reduceIte,aO,aM,IZ,N3,SG,kK,tB,wc,ux,oD,QJ,fS,QK,kQ,tK,decide_true, *]|refine dX ?_ ?_<;>(intro _;try omega))
  all_goals exact⟨_,rfl,(Ext.push _ _).trans (Ext.push _ _)⟩
 |text s hs=>
  intro _ h;refine hY rfl Ue rfl ?_;show bH _ _ _ _ (Au _ _ _ _ (.ret (.tuple [.v (.int .i64 0),.v (.bool ah)])) _)
  repeat' (first|simp(maxSteps:=999999)(disch:=first|exact dZ|fail)only[gW,reduceIte,aO,aM,IZ,N3,SG,kK,tB,wc,ux,oD,QJ,fS,QK,kQ,tK,decide_true, *]|refine dX ?_ ?_<;>(intro _;try omega))
  all_goals exact⟨_,rfl,(Ext.push _ _).trans (Ext.push _ _)⟩
 |list l k sz ae hl hs hm hr ih=>
  intro hd h;have kd:=al.mk hd;have kr:=al.mk hr;have kih:=al.mk ih;have kh:=al.mk hs;have kl:=al.mk hl;refine hY rfl Ue rfl ?_;clear hr ih hs hd hl;by_cases h0:(ae.length:Int)=0
  all_goals
   repeat' (first|simp(maxSteps:=999999)(disch:=first|exact dZ|fail)only[gW,reduceIte,aO,aM,IZ,N3,SG,kK,tB,wc,ux,oD,QJ,fS,QK,tK,decide_true, *]|refine dX ?_ ?_<;>(intro _;try omega))
   refine cz (λm e H=>∃i:Nat,i<=ae.length/\m=ae.length - i/\e.get 55=.list k sz ae/\e.get 56=.v (.int .i64 (ae.length:Nat))/\e.get 57=.v (.int .i64 i)/\e.get 2=.v (.int .i64 (ia (l.take i):Nat))/\e.defers=[]/\Ext h H) ?_ ae.length _ _ ?_;rotate_left 1
   ·refine⟨0,cA _,rfl,?_,?_,?_,?_,?_,(Ext.push _ _).trans (Ext.push _ _)⟩<;>(first|assumption|(simp only[gW,reduceIte,aO,aM]<;>first|rfl|(rw[h0])))
   rintro m e H ⟨i,hi,rfl,g55,g56,g57,g2,hd,hX⟩;have kX:=al.mk hX;clear hX;by_cases aA:i<ae.length
   ·obtain⟨r,hr⟩:∃r,ae[i]?=aa r:=⟨_,aR aA⟩;obtain⟨v,hv⟩:∃v,l[i]?=aa v:=⟨_,aR (by have:=kl.out;omega)⟩;have dU:=kr.out i v r hv hr;have h4:sz=4:=kh.out (by rintro rfl;simp at aA);subst h4;have xC:gE (.list l)=ia l+1:=rfl;have hdv:=VL hv;have Cr:=Ow l i;have Hv:=kd.out;obtain⟨H2,c1,x1⟩:=kih.out i v r hv hr ag (H.push r);have ld:=Im (H:=H) dU.len hr;have st:=SR (H:=H) dU;have l2:aH ao Gt (H.push r) 96 (.ptr (.box H.boxes.length) 0)=aa (.agg r):=qt dU.len (aZ _ _);have zz:=yk;have s96:=qy;have kX2:=al.mk (kX.out.trans ((Ext.push H r).trans x1));have kst:=al.mk (Ov hv);have HE:(i:Int)<(ae.length:Int):=(by omega);clear kX dU hv hr x1 xC Hv;have qT:(if ((ia (l.take i):Nat):Int)<((gE v:Nat):Int) then ((gE v:Nat):Int) else ((ia (l.take i):Nat):Int))=((max (ia (l.take i)) (gE v):Nat):Int):=by split<;>omega
    repeat' (first|simp(maxSteps:=999999)(disch:=first|exact dZ|fail)only[gW,reduceIte,aO,aM,IZ,bh,C9, *]|refine dX ?_ ?_<;>(intro _;try omega))
    all_goals exact⟨ae.length - (i+1),by omega,i+1,by omega,rfl,by trivial,by trivial,by simp,by rw[kst.out],by trivial,kX2.out⟩
   ·have:i=ae.length:=(by omega);subst this;have Hv:=kd.out;have e1:l.take ae.length=l:=(by rw[kl.out];exact fC);rw[e1] at g2;have xC:gE (.list l)=ia l+1:=rfl;rw[xC] at Hv ⊢;have e2:((ia l+1:Nat):Int)=((ia l:Nat):Int)+1:=by omega
    repeat' (first|simp(maxSteps:=999999)(disch:=first|exact dZ|fail)only[gW,reduceIte,aO,aM,IZ, *]|refine dX ?_ ?_<;>(intro _;try omega))
    all_goals exact⟨_,rfl,kX.out⟩
def Sb:Tryz.f209.results.toList=[.tmp 4]:=av
def JT{H}{k}{n0 sz}{es new}{x}{t1}(h1:(∃e,ao.underlying t1=aa (.slice e))∨ao.underlying t1=aa .string)(hx:mX H 1 x=aa (a8 new))(bG:new≠[])(hl:es.length+new.length<=8796093022208)(hs:sz=1∨(es=[]/\k=.nil))(hk:dm n0 H k):
 gN ao H #[28,t1] (.list k sz (a8 es)) x=aa (.list (.free H.tn) 1 (a8 (es++new)),H.app k):=by
 obtain⟨i,q1,q2,q3,q4⟩:=CY;have hb:=qG hl q3;have:=GO (t0:=28) (n0:=n0) (i:=i) (sz:=sz) (es:=a8 es) (new:=a8 new) jz h1 q1 ag (by rw[q2];exact q4) (by rw[q2];exact hx) (by simpa using bG)
  (by rw[bu,bu];omega) (by rw[bu,bu];omega) (hs.imp (λq=>q.trans q2.symm) λq=>⟨by rw[q.1];rfl,q.2⟩) hk
 rw[this,q2];simp[a8]
def Af{H}{k k'}{n0 sz}{es}{c}(hl:es.length<8796093022208)(hs:sz=1∨(es=[]/\k=.nil))(hk:dm n0 H k):
 gN ao H #[28,28] (.list k sz (a8 es)) (.list k' 1 [[bZ c]])=aa (.list (.free H.tn) 1 (a8 (es++[c])),H.app k):=
 JT (new:=[c]) (.inl ⟨_,jz⟩) rfl bE (by simp;omega) hs hk
def Ah(c):gf ao 28 1 [(0,bZ c)]=aa (.list .tight 1 [[bZ c]]):=av
def ans(c):c%256|||128=c%128+128:=by
 have h:∀d:Fin 256,(d.val|||128)=d.val%128+128:=by decide+kernel
 have:=h ⟨c%256,nj _ aV⟩;simp only at this;rw[this];omega
def ant{t}{x y}(c):cY ao .or t x y (.v (.int .u8 (IntKind.u8.wrap (c:Nat)))) (.v (.int .u8 128))=aa (bZ (UInt8.ofNat (c%128+128))):=by
 have hw:IntKind.u8.wrap ((c:Nat):Int)=((c%256:Nat):Int):=by unfold IntKind.wrap;simp[IntKind.signed,IntKind.bits]
 have ht:(UInt8.ofNat (c%128+128)).toNat=c%128+128:=by have:(UInt8.ofNat (c%128+128)).toNat=(c%128+128)%256:=UInt8.toNat_ofNat';omega
 unfold bZ;rw[hw,N8,ht];congr 3;have e1:BitVec.ofInt IntKind.u8.bits ((c%256:Nat):Int)=BitVec.ofNat 8 (c%256):=by apply BitVec.eq_of_toNat_eq;show(BitVec.ofInt 8 ((c%256:Nat):Int)).toNat=(BitVec.ofNat 8 (c%256)).toNat;rw[BitVec.toNat_ofInt,BitVec.toNat_ofNat];omega
 have e3:(BitVec.ofInt IntKind.u8.bits ((c%256:Nat):Int)|||BitVec.ofInt IntKind.u8.bits 128).toNat=c%128+128:=by rw[e1];show(BitVec.ofNat 8 (c%256)|||128#8).toNat=_;rw[BitVec.toNat_or,BitVec.toNat_ofNat,oo (ag:c%256<2^8)];exact ans c
 rw[e3,OF ag ag]
def as9{t}{x y}{n}:cY ao .shr t x y (.v (.int .u64 (n:Nat))) (.v (.int .u64 7))=aa (.v (.int .u64 ((n/128:Nat):Int))):=by rw[BP aV];congr 3;show((n:Nat):Int).fdiv (2^7)=_;rw[Gc _ aV];simp
def oE:∀(k u:Nat),(fO k u).length<=k+1
 |0,u=>by simp[fO]
 |k+1,u=>by
  rw[fO];split
  ·simp
  ·have:=oE k (u/128);simp;omega
def Rd(u:Nat)(hu:u<18446744073709551616)(es:List UInt8)(k:Tok)(sz n0:Nat)(h:aq)(ho:cG h=ah)(hk:dm n0 h k)(hn:n0<=h.tn)(hs:sz=1∨(es=[]/\k=.nil))(hl:es.length<=1099511627776):
 ∃r h',W1.call 209 [.list k sz (a8 es),.v (.int .u64 (u:Nat))] h=aa (r,h')/\∃t,r=.ret (.list t 1 (a8 (es++fO 9 u)))/\Grown n0 h h' t:=by
 have kG:=al.mk (Grown.refl hk ho);clear hk ho;refine db rfl Tryz.func209 rfl ?_;refine br @Sb ?_;refine cz (λm e H=>∃(j:Nat) (t:Tok) (cur:List UInt8) (s:Nat),j<=9/\m<2 * 128^j/\cur++fO j m=es++fO 9 u/\cur.length+j=es.length+9/\(s=1∨(cur=[]/\t=.nil))/\e.get 0=.list t s (a8 cur)/\e.get 1=.v (.int .u64 (m:Nat))/\e.defers=[]/\Grown n0 h H t) ?_ u _ _ ?_;rotate_left 1
 ·exact⟨9,k,es,sz,aJ _,by simpa using hu,rfl,rfl,hs,by exact gR,by exact gR,by exact gR,kG.out⟩
 clear kG hu;rintro m e H ⟨j,t,cur,s,hj,hm,hq,de,hs,g0,g1,hd,hG⟩;have kG:=al.mk hG;have can:=al.mk hG.can;clear hG;by_cases Hd:m<128
 ·have HP:=ZG (k:=j) Hd;rw[HP] at hq;have uv:bZ (UInt8.ofNat m)=.v (.int .u8 ((m:Nat):Int)):=by have:(UInt8.ofNat m).toNat=m%256:=UInt8.toNat_ofNat';unfold bZ;rw[this,oo ag]
  have eg:¬((128:Int)<=((m:Nat):Int)):=by omega
  have ap:=Af (k':=.tight) (c:=UInt8.ofNat m) (ag:cur.length<8796093022208) hs can.out;rw[hq] at ap;have bl:=Ah (UInt8.ofNat m);rw[uv] at ap bl;clear hm Hd HP hq uv;refine bK @Sb @Ej ?_;exact⟨_,_,rfl,_,rfl,kG.out.app hn⟩
 ·obtain⟨j',rfl⟩:∃j',j=j'+1:=⟨j - 1,by
   rcases j with _|j
   ·omega
   ·omega⟩
  have HP:=ZH (k:=j') (ag:128<=m);rw[HP] at hq;have eg:(128:Int)<=((m:Nat):Int):=by omega
  have bl:=Ah (UInt8.ofNat (m%128+128));have ap:=Af (k':=.tight) (c:=UInt8.ofNat (m%128+128)) (ag:cur.length<8796093022208) hs can.out;have kq:=al.mk hq;have km:=al.mk hm;clear HP hq hm;refine bA @Sb @Ej @ant @as9 ?_;refine⟨m/128,by omega,j',.free H.tn,cur++[UInt8.ofNat (m%128+128)],1,by omega,?_,?_,by simp;omega,.inl rfl,by trivial,by trivial,by trivial,kG.out.app hn⟩
  ·have:=km.out;rw[BG] at this;omega
  ·rw[tL];exact kq.out
def arI:Tryz.f184.results.toList=[.tmp 0]:=av
def Sa:Tryz.f208.results.toList=[.tmp 4]:=av
def Sc:Tryz.f211.results.toList=[.tmp 4]:=av
def FH:Tryz.f212.results.toList=[.tmp 5]:=av
def iA:AV:=.v .nilFunc
def wN(a:Nat):List AV:=[iA,.func (.func 208) [] [],.func (.func 211) [] [],.func (.func 212) [] [.ptr (.box a) 0]]
def auD:dt ao 207=aa 1:=av
def aev:gI ao 207=aa az:=av
def aew:gI ao 210=aa az:=av
def auE:dt ao 210=aa 1:=av
def ae9:mz ao 237 []=aa (.agg [iA,iA,iA,iA]):=av
def avQ:(gZ ao 210).bind AV.bP=aa [.v (.pointer au)]:=av
def Lb{b n}{k}(hn:n<4):dH ao 237 (.ptr (.box b) 0) (.v (.int k (n:Nat)))=aa (.ptr (.box b) n):=by have h1:ao.underlying 237=aa (.array 4 209):=Tryz.underlying237;have sz:dt ao 209=aa 1:=av;unfold dH;simp only[h1,sz];rw[aG ⟨ag,by omega⟩];simp
def YW{b}:dH ao 237 (.ptr (.box b) 0) (.v (.int .i64 1))=aa (.ptr (.box b) 1)/\dH ao 237 (.ptr (.box b) 0) (.v (.int .i64 2))=aa (.ptr (.box b) 2)/\dH ao 237 (.ptr (.box b) 0) (.v (.int .i64 3))=aa (.ptr (.box b) 3):=⟨Lb (n:=1) aV,Lb (n:=2) aV,Lb (n:=3) aV⟩
def B1{r}{o}:gg ao 209 (.ptr r o) 0=aa (.ptr r o):=av
def stw{h:aq}{c q}{k}{f}{a b}(hc:c.length=4)(hk:k<4):b7 ao ((h.push c).push q) 207 (.ptr (.box h.boxes.length) k) (.func f a b)=aa ((h.push (c.set k (.func f a b))).push q):=by rw[fA (xs:=[.func f a b]) rfl auD (aY (aZ _ _)) rfl ag];congr 1;rw[aoR (by rw[cH];omega),pc];congr 2;unfold eX;rw[List.set_eq_take_append_cons_drop,aG ag];simp
def Y1{H}{a b}(hb:H.boxes[a]?=aa [.ptr (.box b) 0]):aH ao Gt H 210 (.ptr (.box a) 0)=aa (.ptr (.box b) 0):=by rw[mJ aew hb];rfl
def alN{h:aq}{c}:aH ao Gt ((h.push c).push [.ptr (.box h.boxes.length) 0]) 210 (.ptr (.box (h.push [iA,iA,iA,iA]).boxes.length) 0)=aa (.ptr (.box h.boxes.length) 0):=by refine Y1 ?_;rw[cH,<-cH h c];exact aZ _ _
def atE{H:aq}{b}:b7 ao (H.push [.v (.pointer au)]) 210 (.ptr (.box H.boxes.length) 0) (.ptr (.box b) 0)=aa (H.push [.ptr (.box b) 0]):=jx rfl auE rfl rfl
def avJ(h:aq):W1.call 184 [] h=aa (.ret (.ptr (.box h.boxes.length) 0),(h.push (wN (h.boxes.length+1))).push [.ptr (.box h.boxes.length) 0]):=by
 have z:=avQ;have cs:(AV.agg [iA,iA,iA,iA]).bP=aa [iA,iA,iA,iA]:=rfl;have e:wN (h.boxes.length+1)=(([iA,iA,iA,iA].set 1 (.func (.func 208) [] [])).set 2 (.func (.func 211) [] [])).set 3 (.func (.func 212) [] [.ptr (.box (h.push [iA,iA,iA,iA]).boxes.length) 0]):=by rw[cH];rfl
 rw[e];have l0:[iA,iA,iA,iA].length=4:=rfl;have l1:([iA,iA,iA,iA].set 1 (.func (.func 208) [] [])).length=4:=rfl;have l2:(([iA,iA,iA,iA].set 1 (.func (.func 208) [] [])).set 2 (.func (.func 211) [] [])).length=4:=rfl;refine cJ rfl Tryz.func184 rfl ?_;exact mT @arI @ae9 @atE (aw @alN (aw @YW (aw @B1 @stw)))
def Jp:Vl->FuncId
 | .int _=>208
 | .text _=>211
 | .list _=>212
def Jo(a:Nat):Vl->List AV
 | .list _=>[.ptr (.box a) 0]
 |_=>[]
def sN:gf ao 28 1 [(0,.v (.int .u8 1))]=aa (.list .tight 1 [[bZ 1]])/\gf ao 28 1 [(0,.v (.int .u8 2))]=aa (.list .tight 1 [[bZ 2]])/\gf ao 28 1 [(0,.v (.int .u8 3))]=aa (.list .tight 1 [[bZ 3]]):=⟨Ah 1,Ah 2,Ah 3⟩
def avH(n:Nat)(hn:n<=4611686018427387903)(es:List UInt8)(k:Tok)(sz n0:Nat)(H:aq)(ho:cG H=ah)(hk:dm n0 H k)(h0:n0<=H.tn)(hs:sz=1∨(es=[]/\k=.nil))(hl:es.length<=1099511627000):
 ∃r' H',W1.call 208 [.list k sz (a8 es),.agg (aL 1 (n:Nat) [] .nil 0 [])] H=aa (r',H')/\∃t,r'=.ret (.list t 1 (a8 (es++dK (.int (n:Nat)))))/\Grown n0 H H' t:=by
 have g1:Grown n0 H (H.push (aL 1 (n:Nat) [] .nil 0 [])) k:=(Grown.refl hk ho).push _;have ap:=Af (H:=H.push (aL 1 (n:Nat) [] .nil 0 [])) (k':=.tight) (c:=1) (ag:es.length<8796093022208) hs g1.can;have g2:=g1.app h0;have hu:lY ((n:Nat):Int)<18446744073709551616:=by unfold lY;rw[aG ag];omega
 obtain⟨r3,H3,c3,t3,rfl,g3⟩:=Rd (lY ((n:Nat):Int)) hu (es++[1]) _ 1 n0 _ g2.ok g2.can (fw h0 g2.tn) (.inl rfl) (by simp;omega);have kG:=al.mk (g2.trans g3);have ee:es++[1]++fO 9 (lY ((n:Nat):Int))=es++dK (.int (n:Nat)):=by rw[dK];simp
 rw[ee] at c3;clear g1 g2 g3 ho hk hs ee hu;refine db rfl Tryz.func208 rfl ?_;have cu:=au9 n hn;refine bA @Sa @sN @kK (aw @wc (aw @fS @ec)) ?_;refine ng [(2,4)] vM av (λp hp=>?_) ?_
 ·simp only[my] at hp;subst hp;refine sw (x:=.ptr (.box H.boxes.length) 1) (v:=.v (.int .i64 (n:Nat))) av rfl rfl rfl av (by simp[fc,lX]) ?_ ?_<;>(simp only[hU,fR];exact mT @Sa @sN @kK (aw @wc (aw @fS (aw @ec @and_self))))
 refine bA @Sa @sN @kK (aw @wc (aw @fS @ec)) ?_;exact⟨_,_,rfl,_,rfl,kG.out⟩
def ZF(H)(s):mX H 1 (.v (.string (bs s)))=aa (a8 s):=by unfold mX;simp[bs]
def Uz{H}{k}{n0}{es s}(hl:es.length+s.length<=8796093022208)(hk:dm n0 H k)(ho:cG H=ah)(hn:n0<=H.tn):
 ∃t H',gN ao H #[28,9] (.list k 1 (a8 es)) (.v (.string (bs s)))=aa (.list t 1 (a8 (es++s)),H')/\Grown n0 H H' t:=by
 by_cases hs:s=[]
 ·subst hs;obtain⟨i,q1,q2,q3,q4⟩:=CY;refine⟨k,H,?_,Grown.refl hk ho⟩;rw[UB jz (.inr D5) q1 ag (by rw[q2];exact q4) (by rw[q2];exact ZF H []) (.inl q2.symm),jr]
 ·exact⟨_,_,JT (.inr D5) (ZF H s) hs hl (.inl rfl) hk,Grown.one hk ho hn⟩
def abN(s):dM ao 9 (.v (.string (bs s)))=aa (.v (.int .i64 (s.length:Nat))):=by rw[Zh D5,BR]
def avI(s:List UInt8)(nC:s.length<=1099511620000)(es:List UInt8)(k:Tok)(sz n0:Nat)(H:aq)(ho:cG H=ah)(hk:dm n0 H k)(h0:n0<=H.tn)(hs:sz=1∨(es=[]/\k=.nil))(hl:es.length<=1099511627000):
 ∃r' H',W1.call 211 [.list k sz (a8 es),.agg (aL 2 0 s .nil 0 [])] H=aa (r',H')/\∃t,r'=.ret (.list t 1 (a8 (es++dK (.text s))))/\Grown n0 H H' t:=by
 have g1:Grown n0 H (H.push (aL 2 0 s .nil 0 [])) k:=(Grown.refl hk ho).push _;have ap:=Af (H:=H.push (aL 2 0 s .nil 0 [])) (k':=.tight) (c:=2) (ag:es.length<8796093022208) hs g1.can;have g2:=g1.app h0;obtain⟨r3,H3,c3,t3,rfl,g3⟩:=Rd s.length ag (es++[2]) _ 1 n0 _ g2.ok g2.can (fw h0 g2.tn) (.inl rfl) (by simp;omega);have g4:=g2.trans g3;have nl:=oE 9 s.length;obtain⟨t4,H4,ap4,g5⟩:=Uz (es:=es++[2]++fO 9 s.length) (s:=s) (by simp;omega) g3.can g3.ok (fw h0 (fw g2.tn g3.tn));have kG:=al.mk (g4.trans g5);have ee:es++[2]++fO 9 s.length++s=es++dK (.text s):=by rw[dK];simp
 rw[ee] at ap4;have b0:(H.push (aL 2 0 s .nil 0 [])).boxes[H.boxes.length]?=aa (aL 2 0 s .nil 0 []):=aZ _ _;have b1:((H.push (aL 2 0 s .nil 0 [])).app k).boxes[H.boxes.length]?=aa (aL 2 0 s .nil 0 []):=by rw[ec];exact b0
 have b3:H3.boxes[H.boxes.length]?=aa (aL 2 0 s .nil 0 []):=g3.box _ _ b1;have l1:=ux b1;have l3:=ux b3;have l0:=ux b0;have sl:=abN s;have hw:=wO (n:=s.length) ag;clear g1 g2 g3 g4 g5 ho hk hs ee b0 b1 b3 nl;refine db rfl Tryz.func211 rfl ?_;refine bA @Sc @sN @kK (aw @fS @rH) ?_;refine ng [(2,4),(2,9),(7,9)] vM av (λp hp=>?_) ?_
 ·simp only[iu,vH,or_false] at hp;rcases hp with rfl|rfl|rfl
  all_goals
   refine sw (x:=.ptr (.box H.boxes.length) 2) (v:=.v (.string (bs s))) av rfl rfl rfl av (by simp[fc,lX]) ?_ ?_<;>(simp only[hU,fR];exact mT @Sc @sN @kK (aw @fS (aw @rH @and_self)))
 refine bA @Sc @sN @kK (aw @fS @rH) ?_;exact⟨_,_,rfl,_,rfl,kG.out⟩
def C4:Vl->Nat
 | .int _=>1
 | .text _=>2
 | .list _=>3
def QL{H}{x}{v}{r}(hv:da v r)(hb:H.boxes[x]?=aa r):aH ao Gt H 3 (.ptr (.box x) 0)=aa (.v (.int .i64 (C4 v:Nat))):=by cases hv<;>exact tB hb
def Fb{b}{v}:dH ao 237 (.ptr (.box b) 0) (.v (.int .i64 (C4 v:Nat)))=aa (.ptr (.box b) (C4 v)):=by exact Lb (by cases v<;>simp[C4])
def Za{H}{a b}{v}(hb:H.boxes[b]?=aa (wN a)):aH ao Gt H 207 (.ptr (.box b) (C4 v))=aa (.func (.func (Jp v)) [] (Jo a v)):=by rw[mJ aev hb];cases v<;>rfl
def VT{l:List Vl}{i}{v}(h:l[i]?=aa v):iX (l.take (i+1))=iX (l.take i)++dK v:=by rw[ft h,VR];simp[iX]
def VS(l)(i):(iX (l.take i)).length<=(iX l).length:=by have:=VR (l.take i) (l.drop i);rw[yz] at this;rw[this,dw];omega
mutual
def abc(v:Vl):∀r,da v r->pg r r=ah:=by
 intro r h;cases h with|int n hn=>simp[aL,pg,fc,lX,im,sv,yd,rm]|text s hs=>simp[aL,pg,fc,lX,im,sv,yd,rm]|list l k sz ae hl hs hm hr=>have:=Sz l ae hl hr;simp[aL,pg,fc,lX,im,sv,this];cases k<;>simp[yd]
def Sz(l:List Vl):∀ae:List (List AV),ae.length=l.length->(∀(i:Nat) v r,l[i]?=aa v->ae[i]?=aa r->da v r)->rm ae ae=ah:=by
 intro ae hl h
 match l,ae,hl,h with
 | [],[],_,_=>rfl
 |v::l,r::ae,hl,h=>rw[rm,abc v r (h 0 v r rfl rfl),Sz l ae (by simpa using hl) λi v r hv hr=>h (i+1) v r (by simpa using hv) (by simpa using hr)];rfl
end
def avG{v:Vl}{r:List AV}(hv:da v r):∀(a b:Nat) (es:List UInt8) (k:Tok) (sz n0:Nat) (H:aq),H.boxes[a]?=aa [.ptr (.box b) 0]->H.boxes[b]?=aa (wN a)->cG H=ah->dm n0 H k->n0<=H.tn->(sz=1∨(es=[]/\k=.nil))->es.length+(dK v).length<=1099511627000->
 ∃r' H',W1.call (Jp v) (.list k sz (a8 es)::.agg r::Jo a v) H=aa (r',H')/\∃t,r'=.ret (.list t 1 (a8 (es++dK v)))/\Grown n0 H H' t:=by
 induction hv with
 |int n hn=>intro a b es k sz n0 H _ _ ho hk h0 hs hl;obtain⟨m,rfl⟩:∃m:Nat,n=m:=⟨n.toNat,by omega⟩;exact avH m ag es k sz n0 H ho hk h0 hs ag
 |text s nC=>intro a b es k sz n0 H _ _ ho hk h0 hs hl;exact avI s nC es k sz n0 H ho hk h0 hs ag|list l kl szl ae dG nC hm hr ih=>
  intro a b es k sz n0 H ha hb ho hk h0 hs hl;have sr:=Sz l ae dG hr;have kr:=al.mk hr;have kih:=al.mk ih;have ksl:=al.mk nC;have kll:=al.mk dG;have enc:dK (.list l)=3::(fO 9 l.length++iX l):=by rw[dK]
  rw[enc] at hl ⊢;have g1:Grown n0 H (H.push (aL 3 0 [] kl szl ae)) k:=(Grown.refl hk ho).push _;have ap:=Af (H:=H.push (aL 3 0 [] kl szl ae)) (k':=.tight) (c:=3) (ag:es.length<8796093022208) hs g1.can;have g2:=g1.app h0;simp only[iP,dw] at hl;obtain⟨r3,H3,c3,t3,rfl,g3⟩:=Rd l.length ag (es++[3]) _ 1 n0 _ g2.ok g2.can (fw h0 g2.tn) (.inl rfl) (by simp;omega);have g4:=g2.trans g3;have b0:(H.push (aL 3 0 [] kl szl ae)).boxes[H.boxes.length]?=aa (aL 3 0 [] kl szl ae):=aZ _ _;have b1:((H.push (aL 3 0 [] kl szl ae)).app k).boxes[H.boxes.length]?=aa (aL 3 0 [] kl szl ae):=by rw[ec];exact b0
  have b3:H3.boxes[H.boxes.length]?=aa (aL 3 0 [] kl szl ae):=g3.box _ _ b1;have l0:=oD b0;have l1:=oD b1;have l3:=oD b3;have u94:=qg;have hw:=wO (n:=l.length) ag;have HE:((ae.length:Nat):Int)=((l.length:Nat):Int):=by rw[dG]
  have kG:=al.mk g4;have kha:=al.mk ha;have khb:=al.mk hb;have kl2:=al.mk hl;have sv0:fc (.list kl szl ae) (.list kl szl ae)=ah:=by rw[fc,sr,FZ];cases kl<;>simp[yd]
  clear g1 g2 g3 g4 ho hk hs b0 b1 b3 hr ih nC dG sr ha hb hl;show ∃r' H',W1.call 212 [.list k sz (a8 es),.agg (aL 3 0 [] kl szl ae),.ptr (.box a) 0] H=aa (r',H')/\_;refine db rfl Tryz.func212 rfl ?_;refine bA @FH @sN @kK (aw @fS @rH) ?_;refine ng [(2,4)] vM av (λp hp=>?_) ?_
  ·simp only[my] at hp;subst hp;refine sw (x:=.ptr (.box H.boxes.length) 3) (v:=.list kl szl ae) av rfl rfl rfl av (sv0) ?_ ?_<;>(simp only[hU,fR];exact mT @FH @sN @kK (aw @fS (aw @rH @and_self)))
  refine bA @FH @sN @kK (aw @fS @rH) ?_;refine cz (λm e H1=>∃(i:Nat) (t:Tok),i<=l.length/\m=l.length - i/\e.get 0=.list t 1 (a8 (es++[3]++fO 9 l.length++iX (l.take i)))/\e.get 2=.ptr (.box a) 0/\e.get 17=.list kl szl ae/\e.get 18=.v (.int .i64 (l.length:Nat))/\e.get 19=.v (.int .i64 i)/\e.defers=[]/\Grown n0 H H1 t) ?_ l.length _ _ ?_;rotate_left 1
  ·refine⟨0,t3,cA _,rfl,?_,?_,?_,?_,?_,?_,kG.out⟩<;>(first|assumption|(simp only[gW,reduceIte,aO,aM,fR,iX,jr]<;>first|rfl|(rw[HE])))
  clear c3 ap l0 l1 l3 kG hw;rintro m e H1 ⟨i,t,hi,rfl,g0,g2,g17,g18,g19,hd,hG⟩;have kG:=al.mk hG;clear hG;by_cases aA:i<l.length
  ·obtain⟨v,hv⟩:∃v,l[i]?=aa v:=⟨_,aR aA⟩;obtain⟨r,hr⟩:∃r,ae[i]?=aa r:=⟨_,aR ag⟩;have dU:=kr.out i v r hv hr;have h4:szl=4:=ksl.out (by rintro rfl;simp at hr);subst h4;have gp:=kG.out.push r;have es1:=VT hv;have el:=VS l (i+1);rw[es1,dw] at el;have hl:=kl2.out;have nl:=oE 9 l.length;obtain⟨r2,H2,c2,t2,rfl,g3⟩:=kih.out i v r hv hr a b (es++[3]++fO 9 l.length++iX (l.take i)) t 1 n0 (H1.push r) (gp.box _ _ kha.out) (gp.box _ _ khb.out) gp.ok gp.can (fw h0 gp.tn) (.inl rfl) (by simp;omega);rw[show es++[3]++fO 9 l.length++iX (l.take i)++dK v=es++[3]++fO 9 l.length++iX (l.take (i+1)) by rw[es1];simp] at c2;have kG2:=al.mk (gp.trans g3);have ld:=Im (H:=H1) dU.len hr;have st:=SR (H:=H1) dU;have l2:aH ao Gt (H1.push r) 96 (.ptr (.box H1.boxes.length) 0)=aa (.agg r):=qt dU.len (aZ _ _);have l5:=QL dU (aZ H1 r);have l6:=Y1 (gp.box _ _ kha.out);have l7:=Za (v:=v) (gp.box _ _ khb.out);have ik:=Fb (b:=b) (v:=v);have zz:=yk;have s96:=qy;have awp:(i:Int)<(ae.length:Int):=(by omega);generalize Jp v=fv at *
   generalize Jo a v=cv at *
   generalize C4 v=kv at *
   clear gp g3 es1 el hl nl hv hr dU kG;refine bA @FH @bh @fS @B1 ?_;refine ev vM av ?_;refine bA @FH @bh @fS (aw @B1 (aw @lJ.{0} @kL.{0})) ?_;exact⟨l.length - (i+1),by omega,i+1,t2,by omega,rfl,by trivial,by trivial,by trivial,by trivial,by simp,by trivial,kG2.out⟩
  ·have:i=l.length:=(by omega);subst this;rw[fC] at g0;have ee:es++[3]++fO 9 l.length++iX l=es++3::(fO 9 l.length++iX l):=(by simp);rw[ee] at g0;refine br @FH ?_;exact⟨_,_,rfl,_,rfl,kG.out⟩
def arH:Tryz.f183.results.toList=[.tmp 2]:=av
def LY:Tryz.f146.results.toList=[.tmp 2,.tmp 3]:=av
def ag2{v:Vl}{r:List AV}(hv:da v r)(hd:gE v<=16)(h:aq):∃h',W1.call 183 [.agg r] h=aa (.ret (im 0),h')/\Ext h h':=by
 obtain⟨h1,c1,x1⟩:=ajb hv ag (h.push r);have cs:=hv.cells;have ld:=qt hv.len (aZ h r);have kx:=al.mk ((Ext.push h r).trans x1);have eO:¬((16:Int)<((gE v:Nat):Int)):=by omega
 clear hv x1 hd;unfold im;refine hY rfl Tryz.func183 rfl ?_;refine br @arH ?_;exact⟨_,rfl,kx.out⟩
def aip{v:Vl}{r:List AV}(hv:da v r)(hd:gE v<=16)(hl:(dK v).length<=1099511627000)(h:aq)(ho:cG h=ah):
 ∃r' h',W1.call 146 [.agg r] h=aa (r',h')/\∃t,r'=.ret (.tuple [.list t 1 (a8 (dK v)),.v (.int .i64 0)])/\Ext h h':=by
 obtain⟨h1,c1,x1⟩:=ag2 hv hd (h.push r);unfold im at c1;have x2:=(Ext.push h r).trans x1;have cs:=hv.cells;have b0:=aZ h r;have b1:=x1.box _ _ b0;have c2:=avJ h1;have b2:((h1.push (wN (h1.boxes.length+1))).push [.ptr (.box h1.boxes.length) 0]).boxes[h.boxes.length]?=aa r:=aY (aY b1);have bb:((h1.push (wN (h1.boxes.length+1))).push [.ptr (.box h1.boxes.length) 0]).boxes[h1.boxes.length]?=aa (wN (h1.boxes.length+1)):=aY (aZ _ _);have ba:((h1.push (wN (h1.boxes.length+1))).push [.ptr (.box h1.boxes.length) 0]).boxes[h1.boxes.length+1]?=aa [.ptr (.box h1.boxes.length) 0]:=nt (by rw[cH]);have x3:Ext h1 ((h1.push (wN (h1.boxes.length+1))).push [.ptr (.box h1.boxes.length) 0]):=(Ext.push _ _).trans (.push _ _);have ok3:=(x2.trans x3).ok ho;obtain⟨r4,h4,c4,t,rfl,g4⟩:=avG hv (h1.boxes.length+1) h1.boxes.length [] .nil 0 h.tn _ ba bb ok3 (.inl rfl) (x2.trans x3).tn (.inr ⟨rfl,rfl⟩) (by simpa using hl);rw[lJ] at c4;have kX:=al.mk (g4.ext (x2.trans x3) (aJ _));have ld0:=qt hv.len b0;have ld1:=qt hv.len b1;have ld2:=qt hv.len b2;have lk1:=QL hv b1;have lk2:=QL hv b2;have lf:=Za (v:=v) bb;have ik:=Fb (b:=h1.boxes.length) (v:=v);have K3:=abc v r hv;have c4:W1.call (Jp v) (.list .nil 0 []::.agg r::Jo (h1.boxes.length+1) v) ((h1.push (wN (h1.boxes.length+1))).push [.ptr (.box h1.boxes.length) 0])=aa (.ret (.list t 1 (a8 (dK v))),h4):=c4;generalize Jp v=fv at *
 generalize Jo (h1.boxes.length+1) v=cv at *
 generalize hkv:C4 v=kv at *
 generalize mC:(h1.push (wN (h1.boxes.length+1))).push [.ptr (.box h1.boxes.length) 0]=H3 at *
 have sv0:fc (.agg r) (.agg r)=ah:=by rw[fc,K3]
 clear hv x1 hd x2 b0 b1 b2 bb ba x3 ok3 g4 ho hl K3 mC;refine db rfl Tryz.func146 rfl ?_;refine bA @LY @fS @B1 (aw @lJ.{0} @kL.{0}) ?_;refine ng [(0,2),(0,7)] vM av (λp hp=>?_) ?_
 ·simp only[iu,vH,or_false] at hp;rcases hp with rfl|rfl
  ·refine sw (x:=.ptr (.box h.boxes.length) 0) (v:=.v (.int .i64 (kv:Nat))) av rfl rfl rfl av (by simp[fc,lX]) ?_ ?_<;>(simp only[hU,fR];exact mT @LY @fS @B1 @and_self)
  ·refine sw (x:=.ptr (.box h.boxes.length) 0) (v:=.agg r) av rfl rfl rfl av (sv0) ?_ ?_<;>(simp only[hU,fR];exact mT @LY @fS @B1 @and_self)
 refine bA @LY @fS @B1 (aw @lJ.{0} @kL.{0}) ?_;exact⟨_,_,rfl,_,rfl,kX.out⟩
mutual
def da.hold(v:Vl):∀r,da v r->da v (bN r)/\aP 0 0 0 (bN r)=ah:=by
 intro r h;cases h with|int n hn=>exact⟨.int n hn,rfl⟩|text s hs=>exact⟨.text s hs,rfl⟩|list l k sz ae hl hs hm hr=>obtain⟨h1,h2⟩:=da.holds l ae hl hr;have e:bN (aL 3 0 [] k sz ae)=aL 3 0 [] (bO k) sz (fa ae):=rfl;rw[e];refine⟨.list l _ sz _ (by rw[HR];exact hl) (λq=>hs λq2=>q (by rw[q2];rfl)) (by rw[HR];exact hm) h1,?_⟩;unfold aL;simp[aP,aK,im,sv,fh,h2]
def da.holds(l:List Vl):∀ae:List (List AV),ae.length=l.length->(∀(i:Nat) v r,l[i]?=aa v->ae[i]?=aa r->da v r)->(∀(i:Nat) v r,l[i]?=aa v->(fa ae)[i]?=aa r->da v r)/\gQ 0 0 0 (fa ae)=ah:=by
 intro ae hl h
 match l,ae,hl,h with
 | [],[],_,_=>exact⟨λi v r hv=>by simp at hv,rfl⟩
 |v::l,r::ae,hl,h=>
  obtain⟨h1,h2⟩:=da.hold v r (h 0 v r rfl rfl);obtain⟨h3,h4⟩:=da.holds l ae (by simpa using hl) λi v r hv hr=>h (i+1) v r (by simpa using hv) (by simpa using hr);refine⟨λi v' r' hv hr=>?_,by rw[fa,gQ,h2,h4];rfl⟩;cases i with
  |zero=>injection hv with hv;injection hr with hr;subst hv;subst hr;exact h1
  |succ i=>exact h3 i v' r' hv hr
end
def IT:Tryz.f186.results.toList=[.tmp 2]:=av
def IU:Tryz.f187.results.toList=[.tmp 2]:=av
def arC:Tryz.f163.results.toList=[.tmp 2]:=av
def apz{v:Vl}{r:List AV}(hv:da v r):∀h,∃h',W1.call 186 [.agg r] h=aa (.ret (.v (.bool ah)),h')/\Ext h h':=by
 have u9:=D5;have u94:=qg;have s96:=qy
 induction hv with
 |int n hn=>
  intro h;refine hY rfl Uc rfl ?_
  repeat' (first|simp(maxSteps:=999999)(disch:=first|exact dZ|fail)only[gW,reduceIte,aO,aM,IT,kK,tB,wc,ux,oD,fS,kQ,tK,decide_true, *]|refine dX ?_ ?_<;>(intro _;try omega))
  all_goals exact⟨_,rfl,Ext.push _ _⟩
 |text s hs=>
  intro h;refine hY rfl Uc rfl ?_
  repeat' (first|simp(maxSteps:=999999)(disch:=first|exact dZ|fail)only[gW,reduceIte,aO,aM,IT,kK,tB,wc,ux,oD,fS,kQ,tK,decide_true, *]|refine dX ?_ ?_<;>(intro _;try omega))
  all_goals exact⟨_,rfl,Ext.push _ _⟩
 |list l k sz ae hl hs hm hr ih=>
  intro h;have kr:=al.mk hr;have kih:=al.mk ih;have kh:=al.mk hs;have kl:=al.mk hl;refine hY rfl Uc rfl ?_;clear hr ih hs hl;refine bA @IT @kK @tB (aw @wc (aw @ux (aw @oD (aw @fS (aw @tK @decide_true))))) ?_;refine cz (λm e H=>∃i:Nat,i<=ae.length/\m=ae.length - i/\e.get 1=.ptr (.box h.boxes.length) 0/\e.get 3=.v (.int .i64 i)/\e.defers=[]/\H.boxes[h.boxes.length]?=aa (aL 3 0 [] k sz ae)/\Ext h H) ?_ ae.length _ _ ?_;rotate_left 1
  ·refine⟨0,cA _,rfl,?_,?_,?_,aZ _ _,Ext.push _ _⟩<;>(first|assumption|(exact gR))
  rintro m e H ⟨i,hi,rfl,g1,g3,hd,hb,hX⟩;have kX:=al.mk hX;have kb:=al.mk hb;have l0:=tB hb;have l1:=wc hb;have l2:=ux hb;have l3:=oD hb;clear hX hb;by_cases aA:i<ae.length
  ·obtain⟨r,hr⟩:∃r,ae[i]?=aa r:=⟨_,aR aA⟩;obtain⟨v,hv⟩:∃v,l[i]?=aa v:=⟨_,aR (by have:=kl.out;omega)⟩;have dU:=kr.out i v r hv hr;have h4:sz=4:=kh.out (by rintro rfl;simp at aA);subst h4;obtain⟨H2,c1,x1⟩:=kih.out i v r hv hr H;have ld:=Im (H:=H) dU.len hr;have kX2:=al.mk (kX.out.trans x1);have kb2:=al.mk (x1.box _ _ kb.out);have HE:(i:Int)<(ae.length:Int):=(by omega);clear kX dU hv hr x1;refine cQ @IT @bh @fS ?_;exact⟨ae.length - (i+1),by omega,i+1,by omega,rfl,by trivial,by simp,by trivial,kb2.out,kX2.out⟩
  ·have:i=ae.length:=(by omega);subst this;refine cQ @IT @fS @decide_true ?_;exact⟨_,rfl,kX.out⟩
def apb{v:Vl}{r:List AV}(hv:da v r):gE v<=100->∀h,∃h',W1.call 187 [.agg r] h=aa (.ret (.v (.int .i64 (gE v:Nat))),h')/\Ext h h':=by
 have u9:=D5;have u94:=qg;have s96:=qy
 induction hv with
 |int n hn=>intro _ h;refine hY rfl Ud rfl ?_;show bH _ _ _ _ (Au _ _ _ _ (.ret (.v (.int .i64 0))) _);refine bA @IU @kK @tB @fS ?_;exact⟨_,rfl,Ext.push _ _⟩|text s hs=>intro _ h;refine hY rfl Ud rfl ?_;show bH _ _ _ _ (Au _ _ _ _ (.ret (.v (.int .i64 0))) _);refine bA @IU @kK @tB @fS ?_;exact⟨_,rfl,Ext.push _ _⟩|list l k sz ae hl hs hm hr ih=>
  intro hd h;have kd:=al.mk hd;have kr:=al.mk hr;have kih:=al.mk ih;have kh:=al.mk hs;have kl:=al.mk hl;refine hY rfl Ud rfl ?_;clear hr ih hs hl hd;refine bA @IU @kK @tB @fS ?_;refine cz (λm e H=>∃i:Nat,i<=ae.length/\m=ae.length - i/\e.get 1=.ptr (.box h.boxes.length) 0/\e.get 3=.v (.int .i64 (ia (l.take i):Nat))/\e.get 4=.v (.int .i64 i)/\e.defers=[]/\H.boxes[h.boxes.length]?=aa (aL 3 0 [] k sz ae)/\Ext h H) ?_ ae.length _ _ ?_;rotate_left 1
  ·refine⟨0,cA _,rfl,?_,?_,?_,?_,aZ _ _,Ext.push _ _⟩<;>(first|assumption|(exact gR))
  rintro m e H ⟨i,hi,rfl,g1,g3,g4,hd,hb,hX⟩;have kX:=al.mk hX;have kb:=al.mk hb;have l3:=oD hb;have xC:gE (.list l)=ia l+1:=rfl;have Hv:=kd.out;rw[xC] at Hv;clear hX hb;by_cases aA:i<ae.length
  ·obtain⟨r,hr⟩:∃r,ae[i]?=aa r:=⟨_,aR aA⟩;obtain⟨v,hv⟩:∃v,l[i]?=aa v:=⟨_,aR (by have:=kl.out;omega)⟩;have dU:=kr.out i v r hv hr;have h4:sz=4:=kh.out (by rintro rfl;simp at aA);subst h4;have hdv:=VL hv;have Cr:=Ow l i;obtain⟨H2,c1,x1⟩:=kih.out i v r hv hr ag H;have ld:=Im (H:=H) dU.len hr;have kX2:=al.mk (kX.out.trans x1);have kb2:=al.mk (x1.box _ _ kb.out);have kst:=al.mk (Ov hv);have HE:(i:Int)<(ae.length:Int):=(by omega);have qT:(if ((ia (l.take i):Nat):Int)<((gE v:Nat):Int) then ((gE v:Nat):Int) else ((ia (l.take i):Nat):Int))=((max (ia (l.take i)) (gE v):Nat):Int):=(by split<;>omega);clear kX dU hv hr x1 xC;refine bA @IU @bh @fS @C9 ?_;exact⟨ae.length - (i+1),by omega,i+1,by omega,rfl,by trivial,by rw[kst.out],by simp,by trivial,kb2.out,kX2.out⟩
  ·have:i=ae.length:=(by omega);subst this;have e1:l.take ae.length=l:=(by rw[kl.out];exact fC);rw[e1] at g3;rw[xC];have e2:((ia l+1:Nat):Int)=((ia l:Nat):Int)+1:=(by omega);refine bK @IU @fS ?_;exact⟨_,rfl,kX.out⟩
def ao9{v:Vl}{r:List AV}(hv:da v r)(hd:gE v<=16)(h:aq):∃h',W1.call 163 [.agg r] h=aa (.ret (im 0),h')/\Ext h h':=by
 obtain⟨h1,c1,x1⟩:=apz hv (h.push r);obtain⟨h2,c2,x2⟩:=apb hv ag h1;have cs:=hv.cells;have ld:=qt hv.len (aZ h r);have ld2:=qt hv.len (x1.box _ _ (aZ h r));have kx:=al.mk (((Ext.push h r).trans x1).trans x2);have eO:¬((16:Int)<((gE v:Nat):Int)):=by omega
 clear hv x1 x2 hd;unfold im;refine hY rfl Tryz.func163 rfl ?_;refine br @arC ?_;exact⟨_,rfl,kx.out⟩
def aaV:Tryz.f188.results.toList=[.tmp 2]:=av
def arJ:Tryz.f189.results.toList=[.tmp 2]:=av
def Dh:Tryz.f164.results.toList=[.tmp 2]:=av
def aro:Tryz.f118.results.toList=[.tmp 2,.tmp 3]:=av
def MK(c:Nat)(hc:c<256):bZ (UInt8.ofNat c)=.v (.int .u8 (c:Nat)):=by have:(UInt8.ofNat c).toNat=c%256:=UInt8.toNat_ofNat';unfold bZ;rw[this,oo hc]
def Lr(k u):fO k u≠[]:=by
 cases k with|zero=>simp[fO]|succ k=>rw[fO];split<;>simp
def GN{H}{k t}{n0}{es new}(bG:new≠[])(hl:es.length+new.length<=8796093022208)(hk:dm n0 H k):
 gN ao H #[28,28] (.list k 1 (a8 es)) (.list t 1 (a8 new))=aa (.list (.free H.tn) 1 (a8 (es++new)),H.app k):=
 JT (.inl ⟨_,jz⟩) Ra bG hl (.inl rfl) hk
def RU:∀(k u:Nat),k<=9->u<2 * 128^k->∀h,cG h=ah->∃r h',W1.call 188 [.v (.int .u64 (u:Nat))] h=aa (r,h')/\∃t,r=.ret (.list t 1 (a8 (fO k u)))/\Grown h.tn h h' t:=by
 have cZ:∀(k u:Nat),u<128->∀h,cG h=ah->∃r h',W1.call 188 [.v (.int .u64 (u:Nat))] h=aa (r,h')/\∃t,r=.ret (.list t 1 (a8 (fO k u)))/\Grown h.tn h h' t:=by
  intro k u hu h ho;rw[ZG hu];have bl:=Ah (UInt8.ofNat u);rw[MK u ag] at bl;have e:a8 [UInt8.ofNat u]=[[.v (.int .u8 (u:Nat))]]:=by show[[bZ (UInt8.ofNat u)]]=_;rw[MK u ag]
  rw[e];have aA:((u:Nat):Int)<128:=by omega
  have kG:=al.mk (Grown.refl (n0:=h.tn) (k:=.tight) (.inr (.inl rfl)) ho);clear ho hu e;refine db rfl adS rfl ?_;refine bK @aaV @Ej ?_;exact⟨_,_,rfl,_,rfl,kG.out⟩
 intro k
 induction k with
 |zero=>intro u _ hu;exact cZ 0 u (by simpa using Nat.lt_trans hu aV)|succ k ih=>
  intro u hk hu h ho;by_cases Hd:u<128
  ·exact cZ _ u Hd h ho
  ·rw[ZH ag];obtain⟨r1,h1,c1,t,rfl,g1⟩:=ih (u/128) ag (by rw[BG] at hu;omega) h ho;have bl:=Ah (UInt8.ofNat (u%128+128));have nl:=oE k (u/128);have ap:=GN (H:=h1) (k:=.tight) (t:=t) (n0:=h.tn) (es:=[UInt8.ofNat (u%128+128)]) (Lr k (u/128)) (by simp;omega) (.inr (.inl rfl));have e:a8 [UInt8.ofNat (u%128+128)]=[[.v (.int .u8 ((u%128+128:Nat):Int))]]:=(by show[[bZ (UInt8.ofNat (u%128+128))]]=_;rw[MK _ ag]);rw[e] at ap;rw[MK (u%128+128) ag] at bl;have g2:Grown h.tn h h1 .tight:=⟨g1.box,g1.loop,.inr (.inl rfl),g1.ok,g1.tn,g1.dead⟩;have kG:=al.mk (g2.app (aJ _));have aA:¬((u:Nat):Int)<128:=(by omega);have m1:((u:Nat):Int).tmod 128=((u%128:Nat):Int):=ph u 128;have m2:((u:Nat):Int).tdiv 128=((u/128:Nat):Int):=Jl u 128;have w1:IntKind.u64.wrap (((u%128:Nat):Int)+128)=((u%128+128:Nat):Int):=(by rw[show((u%128:Nat):Int)+128=((u%128+128:Nat):Int) by omega,wO ag]);have w2:IntKind.u64.wrap ((u/128:Nat):Int)=((u/128:Nat):Int):=(by have:2 * 128^(k+1)<=2 * 128^9:=Nat.mul_le_mul_left _ (adG aV hk);exact wO ag);clear ho hu Hd ih g1 g2 e nl;refine db rfl adS rfl ?_;refine bK @aaV @Ej ?_;exact⟨_,_,rfl,_,rfl,kG.out⟩
def asz(n:Nat)(hn:n<=4611686018427387903)(h:aq):W1.call 189 [.v (.int .i64 (n:Nat))] h=aa (.ret (.v (.int .u64 (lY n:Nat))),h):=by
 have e:lY (n:Int)=2 * n:=by unfold lY;rw[aG ag,dV]
 rw[e];have e1:=wO (n:=n) ag;have e2:IntKind.u64.wrap (2 * ((n:Nat):Int))=((2 * n:Nat):Int):=by rw[show 2 * ((n:Nat):Int)=((2 * n:Nat):Int) by omega,wO ag]
 have e3:(0:Int)<=((n:Nat):Int):=by omega
 refine cJ rfl Tryz.func189 rfl ?_;exact jl @arJ @rH
def aim(v):dK v≠[]:=by cases v<;>simp[dK]
def _root_.Go.AE.Grown.re{n0:Nat}{h h':aq}{t k:Tok}(g:Grown n0 h h' t)(hk:dm n0 h' k):Grown n0 h h' k:=⟨g.box,g.loop,hk,g.ok,g.tn,g.dead⟩
def _root_.Go.AE.Grown.uE{n0 n1:Nat}{h h':aq}{t:Tok}(g:Grown n1 h h' t)(hn:n0<=n1):Grown n0 h h' t:=⟨g.box,g.loop,g.can.mono hn,g.ok,g.tn,λn hl hd=>g.dead n (ni hl hn) hd⟩
def _root_.Go.AE.Grown.beside{n0:Nat}{h h':aq}{t k:Tok}(g:Grown h.tn h h' t)(hk:dm n0 h k):dm n0 h' k:=by
 rcases hk with rfl|rfl|⟨m,rfl,hm,ha⟩
 ·exact .inl rfl
 ·exact .inr (.inl rfl)
 ·refine .inr (.inr ⟨m,rfl,hm,?_⟩);have aA:=uM ha;unfold alive at ha ⊢;simp only[bC,decide_eq_true_eq,zR,List.contains_eq_mem,decide_eq_false_iff_not] at ha ⊢;exact⟨ni aA g.tn,λhd=>ha.2 (g.dead m aA hd)⟩
def apn{v:Vl}{r:List AV}(hv:da v r):(dK v).length<=1099511627000->∀h,cG h=ah->∃r' h',W1.call 164 [.agg r] h=aa (r',h')/\∃t,r'=.ret (.list t 1 (a8 (dK v)))/\Grown h.tn h h' t:=by
 induction hv with
 |int n hn=>
  intro _ h ho;obtain⟨m,rfl⟩:∃m:Nat,n=m:=⟨n.toNat,by omega⟩;have hu:lY ((m:Nat):Int)<2 * 128^9:=by unfold lY;rw[aG ag];omega
  have g0:Grown h.tn h (h.push (aL 1 (m:Nat) [] .nil 0 [])) .tight:=(Grown.refl (.inr (.inl rfl)) ho).push _;obtain⟨r1,h1,c1,t,rfl,g1⟩:=RU 9 (lY ((m:Nat):Int)) (aJ _) hu _ g0.ok;have nl:=oE 9 (lY ((m:Nat):Int));have ap:=GN (H:=h1) (k:=.tight) (t:=t) (n0:=h.tn) (es:=[1]) (Lr 9 (lY ((m:Nat):Int))) (by simp;omega) (.inr (.inl rfl));have kG:=al.mk ((g0.trans (g1.re (.inr (.inl rfl)))).app (aJ _));have cu:=asz m ag;have ap:gN ao h1 #[28,28] (.list .tight 1 [[bZ 1]]) (.list t 1 (a8 (fO 9 (lY ((m:Nat):Int)))))=aa (.list (.free h1.tn) 1 (a8 (dK (.int (m:Nat)))),h1.app .tight):=by rw[dK];exact ap
  clear g0 g1 hu hn ho nl;refine db rfl Ub rfl ?_;refine bA @Dh @sN @kK (aw @tB (aw @wc @fS)) ?_;exact⟨_,_,rfl,_,rfl,kG.out⟩
 |text s hs=>
  intro hl h ho;have enc:dK (.text s)=2::(fO 9 s.length++s):=by rw[dK]
  rw[enc] at hl ⊢;simp only[iP,dw] at hl;have g0:Grown h.tn h (h.push (aL 2 0 s .nil 0 [])) .tight:=(Grown.refl (.inr (.inl rfl)) ho).push _;obtain⟨r1,h1,c1,t,rfl,g1⟩:=RU 9 s.length (aJ _) ag _ g0.ok;have ap:=GN (H:=h1) (k:=.tight) (t:=t) (n0:=h.tn) (es:=[2]) (Lr 9 s.length) (by simp;omega) (.inr (.inl rfl));have g2:=(g0.trans (g1.re (.inr (.inl rfl)))).app (aJ _);obtain⟨t4,h4,ap4,g5⟩:=Uz (es:=[2]++fO 9 s.length) (s:=s) (by simp;omega) g2.can g2.ok g2.tn;have kG:=al.mk (g2.trans g5);have ap:gN ao h1 #[28,28] (.list .tight 1 [[bZ 2]]) (.list t 1 (a8 (fO 9 s.length)))=aa (.list (.free h1.tn) 1 (a8 ([2]++fO 9 s.length)),h1.app .tight):=ap;have e4:[2]++fO 9 s.length++s=2::(fO 9 s.length++s):=by simp
  rw[e4] at ap4;have b0:=aZ h (aL 2 0 s .nil 0 []);have b1:=g1.box _ _ b0;have b2:(h1.app .tight).boxes[h.boxes.length]?=aa (aL 2 0 s .nil 0 []):=by rw[ec];exact b1
  have l0:=ux b0;have l1:=ux b1;have l2:=ux b2;have sl:=abN s;have hw:=wO (n:=s.length) ag;clear g0 g1 g2 g5 ho enc e4 b0 b1 b2 hl;refine db rfl Ub rfl ?_;refine bA @Dh @sN @kK (aw @tB (aw @fS @rH)) ?_;refine ng [(5,8),(6,8)] vM av (λp hp=>?_) ?_
  ·simp only[iu,vH,or_false] at hp;rcases hp with rfl|rfl
   all_goals
    refine sw (x:=.ptr (.box h.boxes.length) 2) (v:=.v (.string (bs s))) av rfl rfl rfl av (by simp[fc,lX]) ?_ ?_<;>(simp only[hU,fR];exact mT @Dh @sN @kK (aw @fS (aw @rH @and_self)))
  refine bA @Dh @sN @kK (aw @fS @rH) ?_;exact⟨_,_,rfl,_,rfl,kG.out⟩
 |list l kl sz ae hl hs hm hr ih=>
  intro hlen h ho;have kr:=al.mk hr;have kih:=al.mk ih;have kh:=al.mk hs;have kl2:=al.mk hl;have enc:dK (.list l)=3::(fO 9 l.length++iX l):=by rw[dK]
  rw[enc] at hlen ⊢;simp only[iP,dw] at hlen;have g0:Grown h.tn h (h.push (aL 3 0 [] kl sz ae)) .tight:=(Grown.refl (.inr (.inl rfl)) ho).push _;obtain⟨r1,h1,c1,t,rfl,g1⟩:=RU 9 l.length (aJ _) ag _ g0.ok;have nl:=oE 9 l.length;have ap:=GN (H:=h1) (k:=.tight) (t:=t) (n0:=h.tn) (es:=[3]) (Lr 9 l.length) (by simp;omega) (.inr (.inl rfl));have g2:=(g0.trans (g1.re (.inr (.inl rfl)))).app (aJ _);have ap:gN ao h1 #[28,28] (.list .tight 1 [[bZ 3]]) (.list t 1 (a8 (fO 9 l.length)))=aa (.list (.free h1.tn) 1 (a8 ([3]++fO 9 l.length)),h1.app .tight):=ap;have b0:=aZ h (aL 3 0 [] kl sz ae);have b1:=g1.box _ _ b0;have b2:(h1.app .tight).boxes[h.boxes.length]?=aa (aL 3 0 [] kl sz ae):=by rw[ec];exact b1
  have l0:=oD b0;have u94:=qg;have hw:=wO (n:=ae.length) ag;have c1:W1.call 188 [.v (.int .u64 ((ae.length:Nat):Int))] (h.push (aL 3 0 [] kl sz ae))=aa (.ret (.list t 1 (a8 (fO 9 l.length))),h1):=by rw[hl];exact c1
  have kG:=al.mk g2;have kb:=al.mk b2;have klen:=al.mk hlen;clear g0 g1 g2 ho enc hr ih hs hl hlen b0 b1 b2;refine db rfl Ub rfl ?_;refine bA @Dh @sN @kK (aw @tB (aw @fS @rH)) ?_;refine cz (λm e H1=>∃(i:Nat) (t:Tok),i<=ae.length/\m=ae.length - i/\e.get 1=.ptr (.box h.boxes.length) 0/\e.get 3=.list t 1 (a8 ([3]++fO 9 l.length++iX (l.take i)))/\e.get 4=.v (.int .i64 i)/\e.defers=[]/\H1.boxes[h.boxes.length]?=aa (aL 3 0 [] kl sz ae)/\Grown h.tn h H1 t) ?_ ae.length _ _ ?_;rotate_left 1
  ·refine⟨0,.free h1.tn,cA _,rfl,?_,?_,?_,?_,kb.out,kG.out⟩<;>(first|assumption|(simp only[gW,reduceIte,aO,aM,fR,iX,jr]<;>rfl))
  clear c1 ap l0 kG kb hw;rintro m e H1 ⟨i,t,hi,rfl,g1,g3,g4,hd,hb,hG⟩;have kG:=al.mk hG;have kb:=al.mk hb;have l3:=oD hb;clear hG hb;by_cases aA:i<ae.length
  ·obtain⟨r,hr⟩:∃r,ae[i]?=aa r:=⟨_,aR aA⟩;obtain⟨v,hv⟩:∃v,l[i]?=aa v:=⟨_,aR (by have:=kl2.out;omega)⟩;have dU:=kr.out i v r hv hr;have h4:sz=4:=kh.out (by rintro rfl;simp at aA);subst h4;have es1:=VT hv;have el:=VS l (i+1);rw[es1,dw] at el;have hl:=klen.out;obtain⟨r2,H2,c2,t2,rfl,g5⟩:=kih.out i v r hv hr ag H1 kG.out.ok;have can2:=g5.beside kG.out.can;have ap2:=GN (H:=H2) (k:=t) (t:=t2) (n0:=h.tn) (es:=[3]++fO 9 l.length++iX (l.take i)) (aim v) (by simp;omega) can2;rw[show[3]++fO 9 l.length++iX (l.take i)++dK v=[3]++fO 9 l.length++iX (l.take (i+1)) by rw[es1];simp] at ap2;have kG2:=al.mk ((kG.out.trans ((g5.uE kG.out.tn).re can2)).app (aJ _));have kb2:al ((H2.app t).boxes[h.boxes.length]?=aa (aL 3 0 [] kl 4 ae)):=⟨by rw[ec];exact g5.box _ _ kb.out⟩;have ld:=Im (H:=H1) dU.len hr;have s96:=qy;have HE:(i:Int)<(ae.length:Int):=(by omega);clear kG dU hv hr g5 can2 es1 el hl nl;refine cQ @Dh @bh @fS ?_;exact⟨ae.length - (i+1),by omega,i+1,.free H2.tn,by omega,rfl,by trivial,by trivial,by simp,by trivial,kb2.out,kG2.out⟩
  ·have:i=ae.length:=(by omega);subst this;rw[show l.take ae.length=l by rw[kl2.out];exact fC] at g3;have ee:[3]++fO 9 l.length++iX l=3::(fO 9 l.length++iX l):=(by simp);rw[ee] at g3;refine bK @Dh @fS ?_;exact⟨_,_,rfl,_,rfl,kG.out⟩
def aoX{v:Vl}{r:List AV}(hv:da v r)(hd:gE v<=16)(hl:(dK v).length<=1099511627000)(h:aq)(ho:cG h=ah):
 ∃r' h',W1.call 118 [.agg r] h=aa (r',h')/\∃t,r'=.ret (.tuple [.list t 1 (a8 (dK v)),.v (.int .i64 0)])/\Ext h h':=by
 obtain⟨h1,c1,x1⟩:=ao9 hv hd (h.push r);unfold im at c1;have x2:=(Ext.push h r).trans x1;obtain⟨r2,h2,c2,t,rfl,g2⟩:=apn hv hl h1 (x2.ok ho);have cs:=hv.cells;have ld:=qt hv.len (aZ h r);have ld2:=qt hv.len (x1.box _ _ (aZ h r));have kX:=al.mk (g2.ext x2 x2.tn);clear hv x1 x2 hd g2 ho hl;refine db rfl Tryz.func118 rfl ?_;refine br @aro ?_;exact⟨_,_,rfl,_,rfl,kX.out⟩
def Bk:Tryz.f214.results.toList=[.cell 4 229]:=av
def Us:gI ao 229=aa ah:=av
def Ji:dt ao 229=aa 8:=av
def aez:gI ao 242=aa ah:=av
def MG:dt ao 242=aa 64:=av
def ace:(gZ ao 229).bind AV.bP=aa (bW (a9 8 0#32)):=av
def kW:List eT:=(bM 64).map zv
def alE{t}(ht:t<64):dg kW t=zv t:=by unfold dg kW;rw[ez,ej,yx ht];rfl
def Lc:kW.length=64:=rfl
def Dv{l}:(AV.agg (bW l)).bP=aa (bW l):=by
 have:(bW l).all AV.ek=ah:=by rw[ey];intro x hx;obtain⟨b,-,rfl⟩:=jP.1 hx;rfl
 unfold AV.bP;simp[this]
def QP{H}{b n}{t}{l}(ha:gI ao t=aa ah)(hs:dt ao t=aa n)(hb:H.boxes[b]?=aa (bW l))(hl:l.length=n):aH ao Gt H t (.ptr (.box b) 0)=aa (.agg (bW l)):=by rw[iL ha hs hb (by rw[bu];omega),iO,gm (by rw[bu];omega)]
def am6(h:aq):W1.call 225 [] h=aa (.ret (.agg (bW kW)),h.push (bW kW)):=by have z:=MQ;have st:b7 ao (h.push (a9 64 (aT 0#32))) 242 (.ptr (.box h.boxes.length) 0) (.agg (bW kW))=aa (h.push (bW kW)):=jx Dv MG (by rw[bu,Lc]) bE;have ld:aH ao Gt (h.push (bW kW)) 242 (.ptr (.box h.boxes.length) 0)=aa (.agg (bW kW)):=QP aez MG (aZ _ _) Lc;refine cJ rfl Tryz.func225 rfl ?_;refine br @aa1 ?_;generalize hb:mz ao 242 _=z;rw[show z=aa (.agg (bW kW)) from hb.symm.trans av];clear hb;exact lP @aa1
def zt{b n}{k}(hn:n<8):dH ao 229 (.ptr (.box b) 0) (.v (.int k (n:Nat)))=aa (.ptr (.box b) n):=by have hu:=Tryz.underlying229;unfold dH;rw[hu];simp only[yi];rw[aG ⟨ag,by omega⟩];simp
def avt{a b c d e f g h}:dg [a,b,c,d,e,f,g,h] 0=a/\dg [a,b,c,d,e,f,g,h] 1=b/\dg [a,b,c,d,e,f,g,h] 2=c/\dg [a,b,c,d,e,f,g,h] 3=d/\dg [a,b,c,d,e,f,g,h] 4=e/\dg [a,b,c,d,e,f,g,h] 5=f/\dg [a,b,c,d,e,f,g,h] 6=g/\dg [a,b,c,d,e,f,g,h] 7=h:=⟨rfl,rfl,rfl,rfl,rfl,rfl,rfl,rfl⟩
def ae8(a b c d e f g h:eT):mz ao 229 [(0,aT a),(1,aT b),(2,aT c),(3,aT d),(4,aT e),(5,aT f),(6,aT g),(7,aT h)]=aa (.agg (bW [a,b,c,d,e,f,g,h])):=av
def avg(s)(b):vF s b 0=s:=rfl
def aq3(w)(t)(a b c d e f g i):IH w [a,b,c,d,e,f,g,i] t=
 [i+(NT.dO e 6^^^NT.dO e 11^^^NT.dO e 25)+((e&&&f)^^^(~~~e&&&g))+zv t+dg w t+((NT.dO a 2^^^NT.dO a 13^^^NT.dO a 22)+((a&&&b)^^^(a&&&c)^^^(b&&&c))),
  a,b,c,d+(i+(NT.dO e 6^^^NT.dO e 11^^^NT.dO e 25)+((e&&&f)^^^(~~~e&&&g))+zv t+dg w t),e,f,g]:=rfl
def am1{u}:Du ao .xor (aT u)=aa (aT (~~~u)):=by
 have e:Du ao .xor (aT u)=aa (.v (.int .u32 (IntKind.u32.wrap ((BitVec.ofInt 32 4294967295^^^BitVec.ofInt 32 (u.toNat:Int)).toNat:Int)))):=by rfl
 rw[e,ofInt32];have h1:BitVec.ofInt 32 4294967295^^^u= ~~~u:=by
  apply BitVec.eq_of_getLsbD_eq;intro i hi;rw[BitVec.getLsbD_xor,BitVec.getLsbD_not];have:(BitVec.ofInt 32 4294967295).getLsbD i=ah:=by have h:∀j:Fin 32,(BitVec.ofInt 32 4294967295).getLsbD j.val=ah:=(by decide);exact h ⟨i,hi⟩
  rw[this];simp[hi]
 rw[h1,MP];rfl
def abn{k}{b}{lo hi}(h1:lo<=hi)(h2:hi<=b.length):∃k',iN ao 28 (.list k 1 (a8 b)) (aa (.v (.int .i64 (lo:Nat)))) (aa (.v (.int .i64 (hi:Nat)))) au=aa (.list k' 1 (a8 ((b.take hi).drop lo))):=by
 have lu:gK (a8 b).length au (a8 b).length=aa (a8 b).length:=rfl;have fT:gK (a8 b).length (aa (.v (.int .i64 (hi:Nat)))) (a8 b).length=aa hi:=by show(if 0<=(hi:Int)/\(hi:Int)<=((a8 b).length:Int) then aa (hi:Int).toNat else au)=_;rw[aG ⟨ag,by rw[bu];omega⟩,dV]
 have yY:gK hi (aa (.v (.int .i64 (lo:Nat)))) 0=aa lo:=by show(if 0<=(lo:Int)/\(lo:Int)<=(hi:Int) then aa (lo:Int).toNat else au)=_;rw[aG ⟨ag,by omega⟩,dV]
 refine⟨xn k (decide (hi=(a8 b).length)) az (hi - lo),?_⟩;unfold iN;simp only[jz,tI,lu,fT,yY,Option.isSome_none,Bool.false_and,Bool.false_eq_true,if_false,true_or,if_true,Option.isNone_none,FZ];simp only[List.map_drop,List.map_take]
def avB{b}{i}(hi:4 * i+4<=b.length):qC ((b.take (4 * i+4)).drop (4 * i)) 0=qC b (4 * i):=by
 have key:∀k,k<4->dy ((b.take (4 * i+4)).drop (4 * i)) k=dy b (4 * i+k):=λk hk=>by unfold dy;rw[ez,pD,oJ,aG ag,ez]
 unfold qC;rw[key 0 aV,key (0+1) aV,key (0+2) aV,key (0+3) aV,Nat.add_zero,qb,qb,qb]
def ao6(s:List eT)(b:List UInt8)(k:Tok)(h:aq)(hs:s.length=8)(hb:b.length=64):
 ∃h',W1.call 214 [.agg (bW s),.list k 1 (a8 b)] h=aa (.ret (.agg (bW (xe s b))),h')/\Ext h h':=by
 have z1:=ace;have z2:=MQ;have c8:(AV.agg (bW s)).bP=aa (bW s):=Dv;have kwz:=al.mk (acd b);refine hY rfl Tryz.func214 rfl ?_;refine br @Bk ?_;generalize jJ:mz ao 242 []=z;rw[show z=aa (.agg (a9 64 (aT 0#32))) from jJ.symm.trans av];clear jJ;generalize eZ:(h.push (bW s)).push (bW (a9 8 0#32))=H0;have kX0:al (Ext h H0):=⟨by rw[<-eZ];exact(Ext.push _ _).trans (.push _ _)⟩;have kS0:al (H0.boxes[h.boxes.length]?=aa (bW s)):=⟨by rw[<-eZ];exact aY (aZ _ _)⟩;have kR0:al (H0.boxes[h.boxes.length+1]?=aa (bW (a9 8 0#32))):=⟨by rw[<-eZ];exact nt (by rw[cH])⟩;have O0:H0.boxes.length=h.boxes.length+2:=by rw[<-eZ,cH,cH]
 have kl:=al.mk O0;clear O0 eZ;have st0:b7 ao (H0.push (a9 64 (aT 0#32))) 242 (.ptr (.box H0.boxes.length) 0) (.agg (a9 64 (aT 0#32)))=aa (H0.push (bW (wl b 0))):=by rw[kwz.out,<-S9];exact jx Dv MG bE bE
 refine br @Bk ?_;refine cz (λm e H=>∃i:Nat,i<=16/\m=16 - i/\e.get 1=.list k 1 (a8 b)/\e.get 2=.ptr (.box h.boxes.length) 0/\e.get 4=.ptr (.box (h.boxes.length+1)) 0/\e.get 5=.ptr (.box H0.boxes.length) 0/\e.get 6=.v (.int .i64 i)/\e.defers=[]/\H=H0.push (bW (wl b i))) ?_ 16 _ _ ?_;rotate_left 1
 ·refine⟨0,by decide,rfl,?_,?_,?_,?_,?_,?_,rfl⟩<;>(first|assumption|(simp only[gW,reduceIte,aO,aM,cH]<;>rfl))
 clear z1 z2 c8 kwz st0;rintro m e H ⟨i,hi,rfl,g1,g2,g4,g5,g6,hd,rfl⟩;by_cases hc:i<16
 ·refine rM λQ=>?_;have ix:=rX (b:=H0.boxes.length) (n:=i) (k:=.i64) ag;have e4:IntKind.i64.wrap (4 * ((i:Nat):Int))=((4 * i:Nat):Int):=by rw[fN ag ag];omega
  have e5:IntKind.i64.wrap (((4 * i:Nat):Int)+4)=((4 * i+4:Nat):Int):=by rw[fN ag ag];omega
  obtain⟨k',sl⟩:=abn (k:=k) (b:=b) (lo:=4 * i) (hi:=4 * i+4) ag ag;have cw:=asH ((b.take (4 * i+4)).drop (4 * i)) (by rw[hJ,eS];omega) k';rw[avB ag] at cw;have st:b7 ao (H0.push (bW (wl b i))) 42 (.ptr (.box H0.boxes.length) i) (aT (qC b (4 * i)))=aa (H0.push (bW (wl b (i+1)))):=by rw[Jc (aZ _ _) (by rw[vA ag];omega),pc,MO ag (by rw[aG hc])]
  refine br @Bk ?_;exact⟨16 - (i+1),by omega,i+1,by omega,rfl,by trivial,by trivial,by trivial,by trivial,rfl,by trivial,rfl⟩
 have:i=16:=by omega
 subst this;clear hc hi;refine br @Bk ?_;refine cz (λm e H=>∃i:Nat,16<=i/\i<=64/\m=64 - i/\e.get 2=.ptr (.box h.boxes.length) 0/\e.get 4=.ptr (.box (h.boxes.length+1)) 0/\e.get 5=.ptr (.box H0.boxes.length) 0/\e.get 7=.v (.int .i64 i)/\e.defers=[]/\H=H0.push (bW (wl b i))) ?_ 48 _ _ ?_;rotate_left 1
 ·refine⟨16,by decide,by decide,rfl,?_,?_,?_,?_,?_,rfl⟩<;>(first|assumption|(exact gR))
 clear g1 g2 g4 g5 g6 hd;rintro m e H ⟨i,Py,hi,rfl,g2,g4,g5,g7,hd,rfl⟩;by_cases hc:i<64
 ·refine rM λQ=>?_;have hw:=aZ H0 (bW (wl b i));have l0:=rY hw (n:=i - 16) (by rw[vA hi];omega);have l1:=rY hw (n:=i - 15) (by rw[vA hi];omega);have l2:=rY hw (n:=i - 7) (by rw[vA hi];omega);have l3:=rY hw (n:=i - 2) (by rw[vA hi];omega);rw[acb ag] at l0 l1 l2 l3;have i0:=rX (b:=H0.boxes.length) (n:=i - 16) (k:=.i64) ag;have i1:=rX (b:=H0.boxes.length) (n:=i - 15) (k:=.i64) ag;have i2:=rX (b:=H0.boxes.length) (n:=i - 7) (k:=.i64) ag;have i3:=rX (b:=H0.boxes.length) (n:=i - 2) (k:=.i64) ag;have i4:=rX (b:=H0.boxes.length) (n:=i) (k:=.i64) ag;have e0:IntKind.i64.wrap (((i:Nat):Int) - 16)=((i - 16:Nat):Int):=by rw[fN ag ag];omega
  have e1:IntKind.i64.wrap (((i:Nat):Int) - 15)=((i - 15:Nat):Int):=by rw[fN ag ag];omega
  have e2:IntKind.i64.wrap (((i:Nat):Int) - 7)=((i - 7:Nat):Int):=by rw[fN ag ag];omega
  have e3:IntKind.i64.wrap (((i:Nat):Int) - 2)=((i - 2:Nat):Int):=by rw[fN ag ag];omega
  have st:b7 ao (H0.push (bW (wl b i))) 42 (.ptr (.box H0.boxes.length) i) (aT (Fl (iG b i) i))=aa (H0.push (bW (wl b (i+1)))):=by rw[Jc hw (by rw[vA ag];omega),pc,MO ag (by rw[aI ag])]
  unfold Fl at st;have r7:=xV (dg (iG b i) (i - 15)) 7 aV aV;have r18:=xV (dg (iG b i) (i - 15)) 18 aV aV;have r17:=xV (dg (iG b i) (i - 2)) 17 aV aV;have r19:=xV (dg (iG b i) (i - 2)) 19 aV aV;have r7:∀h,W1.call 224 [aT (dg (iG b i) (i - 15)),.v (.int .i64 7)] h=aa (.ret (aT (NT.dO (dg (iG b i) (i - 15)) 7)),h):=r7;have r18:∀h,W1.call 224 [aT (dg (iG b i) (i - 15)),.v (.int .i64 18)] h=aa (.ret (aT (NT.dO (dg (iG b i) (i - 15)) 18)),h):=r18;have r17:∀h,W1.call 224 [aT (dg (iG b i) (i - 2)),.v (.int .i64 17)] h=aa (.ret (aT (NT.dO (dg (iG b i) (i - 2)) 17)),h):=r17;have r19:∀h,W1.call 224 [aT (dg (iG b i) (i - 2)),.v (.int .i64 19)] h=aa (.ret (aT (NT.dO (dg (iG b i) (i - 2)) 19)),h):=r19;clear hw
  repeat' (first|simp(maxSteps:=999999)(disch:=first|exact dZ|fail)only[gW,reduceIte,aO,aM,Bk,pj,oP,yf,ye, *]|(refine dX ?_ ?_<;>(intro _;try omega))|refine ev vM av ?_)
  exact⟨64 - (i+1),by omega,i+1,by omega,by omega,rfl,by trivial,by trivial,by trivial,rfl,by trivial,rfl⟩
 have:i=64:=by omega
 subst this;clear hc hi Py;have kwl:=al.mk (Tb b);have nC:=FN b 64;rw[Tb];generalize hW:iG b 64=w at *
 have nn:=am6 (H0.push (bW w));have z2:=MQ;generalize fY:H0.push (bW w)=H1 at *
 have kw1:al (H1.boxes[H0.boxes.length]?=aa (bW w)):=⟨by rw[<-fY];exact aZ _ _⟩;have kl1:al (H1.boxes.length=H0.boxes.length+1):=⟨by rw[<-fY,cH]⟩;have kX1:al (Ext H0 H1):=⟨by rw[<-fY];exact Ext.push _ _⟩;clear fY;have st2:b7 ao ((H1.push (bW kW)).push (a9 64 (aT 0#32))) 242 (.ptr (.box (H1.push (bW kW)).boxes.length) 0) (.agg (bW kW))=aa ((H1.push (bW kW)).push (bW kW)):=jx Dv MG (by rw[bu,Lc]) bE;have xH:Ext H1 ((H1.push (bW kW)).push (bW kW)):=(Ext.push _ _).trans (.push _ _);have kN:=aZ (H1.push (bW kW)) (bW kW);have b1:=xH.box _ _ (kX1.out.box _ _ kS0.out);obtain⟨s0,s1,s2,s3,s4,s5,s6,s7,rfl⟩:=eight hs;have ld:=λn hn=>rY b1 (n:=n) hn;have l0:=ld 0 bE;have l1:=ld 1 bE;have l2:=ld 2 bE;have l3:=ld 3 bE;have l4:=ld 4 bE;have l5:=ld 5 bE;have l6:=ld 6 bE;have l7:=ld 7 bE;have j0:dH ao 229 (.ptr (.box h.boxes.length) 0) (.v (.int .i64 0))=aa (.ptr (.box h.boxes.length) 0):=zt (n:=0) aV;have j1:dH ao 229 (.ptr (.box h.boxes.length) 0) (.v (.int .i64 1))=aa (.ptr (.box h.boxes.length) 1):=zt (n:=1) aV;have j2:dH ao 229 (.ptr (.box h.boxes.length) 0) (.v (.int .i64 2))=aa (.ptr (.box h.boxes.length) 2):=zt (n:=2) aV;have j3:dH ao 229 (.ptr (.box h.boxes.length) 0) (.v (.int .i64 3))=aa (.ptr (.box h.boxes.length) 3):=zt (n:=3) aV;have j4:dH ao 229 (.ptr (.box h.boxes.length) 0) (.v (.int .i64 4))=aa (.ptr (.box h.boxes.length) 4):=zt (n:=4) aV;have j5:dH ao 229 (.ptr (.box h.boxes.length) 0) (.v (.int .i64 5))=aa (.ptr (.box h.boxes.length) 5):=zt (n:=5) aV;have j6:dH ao 229 (.ptr (.box h.boxes.length) 0) (.v (.int .i64 6))=aa (.ptr (.box h.boxes.length) 6):=zt (n:=6) aV;have j7:dH ao 229 (.ptr (.box h.boxes.length) 0) (.v (.int .i64 7))=aa (.ptr (.box h.boxes.length) 7):=zt (n:=7) aV;simp only[avt] at l0 l1 l2 l3 l4 l5 l6 l7;have lw:=λn hn=>rY (xH.box _ _ kw1.out) (n:=n) hn;have lk:=λn hn=>rY kN (n:=n) hn;have b2:=xH.box _ _ (kX1.out.box _ _ kR0.out);have kX2:=al.mk (kX0.out.trans (kX1.out.trans xH));have klw:=al.mk lw;have klk:=al.mk lk;have kb2:=al.mk b2;clear ld lw lk b1 b2 xH kN
 repeat' (first|simp(maxSteps:=999999)(disch:=first|exact dZ|fail)only[gW,reduceIte,aO,aM,Bk, *]|(refine dX ?_ ?_<;>(intro _;try omega))|refine ev vM av ?_)
 generalize hN:(H1.push (bW kW)).boxes.length=N at *
 generalize (H1.push (bW kW)).push (bW kW)=H2 at *
 clear hN;refine bH.gen λe2 q2 qd2 _ _=>?_;have f2:e2.get 2=.ptr (.box h.boxes.length) 0:=by rw[q2];simp only[gW,reduceIte,aO,aM,g2]
 have f4:e2.get 4=.ptr (.box (h.boxes.length+1)) 0:=by rw[q2];simp only[gW,reduceIte,aO,aM,g4]
 have f5:e2.get 5=.ptr (.box H0.boxes.length) 0:=by rw[q2];simp only[gW,reduceIte,aO,aM,g5]
 have f10:e2.get 10=.ptr (.box N) 0:=by rw[q2];exact gS
 have f11:e2.get 11=aT s0:=by rw[q2];exact gS
 have f12:e2.get 12=aT s1:=by rw[q2];exact gS
 have f13:e2.get 13=aT s2:=by rw[q2];exact gS
 have f14:e2.get 14=aT s3:=by rw[q2];exact gS
 have f15:e2.get 15=aT s4:=by rw[q2];exact gS
 have f16:e2.get 16=aT s5:=by rw[q2];exact gS
 have f17:e2.get 17=aT s6:=by rw[q2];exact gS
 have f18:e2.get 18=aT s7:=by rw[q2];exact gS
 have f19:e2.get 19=.v (.int .i64 (0:Nat)):=by rw[q2];simp only[gW,reduceIte,aO,aM];rfl
 have fd:e2.defers=[]:=by rw[qd2];simp only[gW,reduceIte,aO,aM,hd]
 clear q2 qd2;refine cz (λm e H=>∃(i:Nat) (a b' c d e' f g j:eT),i<=64/\m=64 - i/\vF [s0,s1,s2,s3,s4,s5,s6,s7] b i=[a,b',c,d,e',f,g,j]/\e.get 2=.ptr (.box h.boxes.length) 0/\e.get 4=.ptr (.box (h.boxes.length+1)) 0/\e.get 5=.ptr (.box H0.boxes.length) 0/\e.get 10=.ptr (.box N) 0/\
  e.get 11=aT a/\e.get 12=aT b'/\e.get 13=aT c/\e.get 14=aT d/\e.get 15=aT e'/\e.get 16=aT f/\e.get 17=aT g/\e.get 18=aT j/\e.get 19=.v (.int .i64 i)/\e.defers=[]/\H=H2) ?_ 64 _ _ ?_
 rotate_left 1
 ·refine⟨0,s0,s1,s2,s3,s4,s5,s6,s7,by decide,rfl,avg _ _,f2,f4,f5,f10,f11,f12,f13,f14,f15,f16,f17,f18,f19,fd,rfl⟩
 clear f2 f4 f5 f10 f11 f12 f13 f14 f15 f16 f17 f18 f19 fd g2 g4 g5 g7 hd nn z2 st2;rintro m e H ⟨i,a,b',c,d,e',f,g,j,hi,rfl,hv,g2,g4,g5,g10,g11,g12,g13,g14,g15,g16,g17,g18,g19,hd,rfl⟩;by_cases hc:i<64
 ·refine rM λQ=>?_;have lk:=klk.out i (by rw[Lc];exact hc);have lw:=klw.out i (by rw[nC];exact hc);rw[alE hc] at lk;have YW:=rX (b:=H0.boxes.length) (n:=i) (k:=.i64) hc;have Fb:=rX (b:=N) (n:=i) (k:=.i64) hc;have jc:=S8 [s0,s1,s2,s3,s4,s5,s6,s7] b i;rw[hv,hW,aq3] at jc;have kv:=al.mk jc;have r6:∀h,W1.call 224 [aT e',.v (.int .i64 6)] h=aa (.ret (aT (NT.dO e' 6)),h):=xV e' 6 aV aV;have r11:∀h,W1.call 224 [aT e',.v (.int .i64 11)] h=aa (.ret (aT (NT.dO e' 11)),h):=xV e' 11 aV aV;have r25:∀h,W1.call 224 [aT e',.v (.int .i64 25)] h=aa (.ret (aT (NT.dO e' 25)),h):=xV e' 25 aV aV;have r2:∀h,W1.call 224 [aT a,.v (.int .i64 2)] h=aa (.ret (aT (NT.dO a 2)),h):=xV a 2 aV aV;have r13:∀h,W1.call 224 [aT a,.v (.int .i64 13)] h=aa (.ret (aT (NT.dO a 13)),h):=xV a 13 aV aV;have r22:∀h,W1.call 224 [aT a,.v (.int .i64 22)] h=aa (.ret (aT (NT.dO a 22)),h):=xV a 22 aV aV;clear jc hv l0 l1 l2 l3 l4 l5 l6 l7 j0 j1 j2 j3 j4 j5 j6 j7
  repeat' (first|simp(maxSteps:=999999)(disch:=first|exact dZ|fail)only[gW,reduceIte,aO,aM,Bk,pj,oP,D7,am1, *]|(refine dX ?_ ?_<;>(intro _;try omega))|refine ev vM av ?_)
  refine⟨64 - (i+1),by omega,i+1,_,a,b',c,_,e',f,g,by omega,rfl,kv.out,?_⟩;refine⟨?_,?_,?_,?_,rfl,?_,?_,?_,rfl,?_,?_,?_,?_,?_,?_⟩<;>first|exact aU|exact rfl
 ·have:i=64:=by omega
  subst this;have hbF:xe [s0,s1,s2,s3,s4,s5,s6,s7] b=[s0+a,s1+b',s2+c,s3+d,s4+e',s5+f,s6+g,s7+j]:=by unfold xe;show List.zipWith (·+·) [s0,s1,s2,s3,s4,s5,s6,s7] (vF [s0,s1,s2,s3,s4,s5,s6,s7] b 64)=_;rw[hv];rfl
  rw[hbF];have Bl:b7 ao H 229 (.ptr (.box (h.boxes.length+1)) 0) (.agg (bW [s0+a,s1+b',s2+c,s3+d,s4+e',s5+f,s6+g,s7+j]))=aa (H.put (h.boxes.length+1) (bW [s0+a,s1+b',s2+c,s3+d,s4+e',s5+f,s6+g,s7+j])):=by rw[fA Dv Ji kb2.out rfl bE,wK bE]
  have mi:aH ao Gt (H.put (h.boxes.length+1) (bW [s0+a,s1+b',s2+c,s3+d,s4+e',s5+f,s6+g,s7+j])) 229 (.ptr (.box (h.boxes.length+1)) 0)=aa (.agg (bW [s0+a,s1+b',s2+c,s3+d,s4+e',s5+f,s6+g,s7+j])):=QP Us Ji (eu (aS.1 kb2.out).1) rfl;clear hv;simp only[eC,vE] at Bl mi
  repeat' (first|simp(maxSteps:=999999)(disch:=first|exact dZ|fail)only[gW,reduceIte,aO,aM,Bk,pj,oP,ae8, *]|(refine dX ?_ ?_<;>(intro _;try omega))|refine ev vM av ?_)
  exact⟨_,rfl,kX2.out.fK ag _⟩
def I0:Tryz.f213.results.toList=[.tmp 2]:=av
def N0{H}{k}{n0}{es new}{x}(hx:mX H 1 x=aa (a8 new))(hl:es.length+new.length<=8796093022208)(hk:dm n0 H k)(ho:cG H=ah)(hn:n0<=H.tn):
 ∃t H',gN ao H #[28,28] (.list k 1 (a8 es)) x=aa (.list t 1 (a8 (es++new)),H')/\Grown n0 H H' t:=by
 by_cases hs:new=[]
 ·subst hs;obtain⟨i,q1,q2,q3,q4⟩:=CY;refine⟨k,H,?_,Grown.refl hk ho⟩;rw[UB jz (.inl ⟨_,jz⟩) q1 ag (by rw[q2];exact q4) (by rw[q2];exact hx) (.inl q2.symm),jr]
 ·exact⟨_,_,JT (.inl ⟨_,jz⟩) hx hs hl (.inl rfl) hk,Grown.one hk ho hn⟩
def JZ:gf ao 28 0 []=aa (.list .tight 1 []):=av
def afP:gf ao 28 1 [(0,.v (.int .u8 128))]=aa (.list .tight 1 [[bZ 128]]):=av
def afG:gf ao 28 1 [(0,.v (.int .u8 0))]=aa (.list .tight 1 [[bZ 0]]):=av
def atb{t}{x y}{n k}(hk:k<=7):cY ao .shr t x y (.v (.int .u64 (n:Nat))) (.v (.int .i64 ((8 * k:Nat):Int)))=aa (.v (.int .u64 ((n/2^(8 * k):Nat):Int))):=by rw[BP ag,dV,show IntKind.u64.bits=64 from rfl,Nat.min_eq_left ag];congr 3;rw[Gc _ (by have:(0:Int)<2^(8 * k):=Int.pow_pos aV;omega)];simp
def al0{n c}(hc:c<8):(o8 n).take (c+1)=(o8 n).take c++[UInt8.ofNat (n * 8/2^(8 * (7 - c)))]:=by refine ft ?_;unfold o8;rw[ej,yx hc];rfl
def uy(b:List UInt8)(j:Nat):List UInt8:=b++0x80::a9 j 0
def anD(b)(j):uy b j++[0]=uy b (j+1):=by unfold uy;rw[List.replicate_succ'];simp
def Rm(b)(j):(uy b j).length=b.length+1+j:=by unfold uy;simp;omega
def ari(b:List UInt8)(k:Tok)(h:aq)(ho:cG h=ah)(hb:b.length<=1099511620000):
 ∃r h',W1.call 213 [.list k 1 (a8 b)] h=aa (r,h')/\∃t,r=.ret (.list t 1 (a8 (ri b)))/\Grown h.tn h h' t:=by
 obtain⟨t1,h1,a1,g1⟩:=N0 (H:=h) (k:=.tight) (n0:=h.tn) (es:=[]) (new:=b) (x:=.list k 1 (a8 b)) Ra (by simp;omega) (.inr (.inl rfl)) ho (aJ _);rw[lJ] at a1;replace a1:gN ao h #[28,28] (.list .tight 1 []) (.list k 1 (a8 b))=aa (.list t1 1 (a8 b),h1):=a1;have a2:=Af (H:=h1) (k:=t1) (k':=.tight) (es:=b) (c:=128) ag (.inl rfl) g1.can;have g2:=g1.app (aJ _);have kG:=al.mk g2;have e0:b++[128]=uy b 0:=rfl;rw[e0] at a2;have u28:=jz;have bl:=JZ;have bl1:=afP;have nT:(a8 b).length=b.length:=bu _;clear g1 g2 ho e0;refine db rfl Tryz.func213 rfl ?_;refine br @I0 ?_;refine cz (λm e H=>∃(j:Nat) (t:Tok),j<=po b.length/\m=po b.length - j/\e.get 0=.list k 1 (a8 b)/\e.get 3=.list t 1 (a8 (uy b j))/\e.defers=[]/\Grown h.tn h H t) ?_ (po b.length) _ _ ?_;rotate_left 1
 ·refine⟨0,.free h1.tn,cA _,rfl,?_,?_,?_,kG.out⟩<;>(first|assumption|(exact gR))
 clear kG a1 a2;rintro m e H ⟨j,t,hj,rfl,g0,g3,hd,hG⟩;have kG:=al.mk hG;have hz:po b.length=(119 - b.length%64)%64:=rfl;have dG:(a8 (uy b j)).length=b.length+1+j:=by rw[bu,Rm]
 have hm:((b.length+1+j:Nat):Int).tmod 64=(((b.length+1+j)%64:Nat):Int):=ph _ 64;by_cases aA:j<po b.length
 ·have bG:¬((((b.length+1+j)%64:Nat):Int)=56):=by omega
  have ap:=Af (H:=H) (k:=t) (k':=.tight) (es:=uy b j) (c:=0) (by rw[Rm];omega) (.inl rfl) hG.can;rw[anD] at ap;have bl2:=afG;clear hG;refine br @I0 ?_;exact⟨po b.length - (j+1),by omega,j+1,.free H.tn,by omega,rfl,by trivial,by trivial,by trivial,kG.out.app (aJ _)⟩
 have:j=po b.length:=by omega
 subst this;have mD:(b.length+1+po b.length)%64=56:=by omega
 rw[mD] at hm;have w1:=wO (n:=b.length) ag;have w2:IntKind.u64.wrap (((b.length:Nat):Int) * 8)=((b.length * 8:Nat):Int):=by rw[show((b.length:Nat):Int) * 8=((b.length * 8:Nat):Int) by omega,wO ag]
 have kll:=al.mk dG;have aws:((56:Nat):Int)=56:=rfl;clear hG hz;refine bK @I0 @rH ?_;refine cz (λm e H=>∃(c:Nat) (t:Tok),c<=8/\m=8 - c/\e.get 3=.list t 1 (a8 (uy b (po b.length)++(o8 b.length).take c))/\e.get 4=.v (.int .u64 ((b.length * 8:Nat):Int))/\e.get 5=.v (.int .i64 (7 - (c:Int)))/\e.defers=[]/\Grown h.tn h H t) ?_ 8 _ _ ?_;rotate_left 1
 ·refine⟨0,t,cA _,rfl,?_,?_,?_,?_,kG.out⟩<;>(first|assumption|(simp only[gW,reduceIte,aO,aM,fR,jr]<;>first|assumption|rfl))
 clear kG g0 g3 hd;rintro m e H ⟨c,t,hc,rfl,g3,g4,g5,hd,hG⟩;have kG:=al.mk hG;by_cases aA:c<8
 ·have eg:(0:Int)<=7 - (c:Int):=by omega
  have e8:IntKind.i64.wrap (8 * (7 - (c:Int)))=((8 * (7 - c):Nat):Int):=by rw[fN ag ag];omega
  have e1:IntKind.i64.wrap (7 - (c:Int) - 1)=7 - ((c+1:Nat):Int):=by rw[fN ag ag];omega
  have sh:=λt x y=>atb (t:=t) (x:=x) (y:=y) (n:=b.length * 8) (k:=7 - c) ag;have uv:=S4 (b.length * 8/2^(8 * (7 - c)));have bl3:=Ah (UInt8.ofNat (b.length * 8/2^(8 * (7 - c))));have WL:(o8 b.length).length=8:=by simp[o8]
  have ap:=Af (H:=H) (k:=t) (k':=.tight) (es:=uy b (po b.length)++(o8 b.length).take c) (c:=UInt8.ofNat (b.length * 8/2^(8 * (7 - c)))) (by rw[dw,Rm,eS];have:po b.length<64:=nj _ aV;omega) (.inl rfl) hG.can;rw[tL,<-al0 aA] at ap;clear hG;refine bK @I0 @Ej ?_;exact⟨8 - (c+1),by omega,c+1,.free H.tn,by omega,rfl,by trivial,by trivial,by trivial,by trivial,kG.out.app (aJ _)⟩
 ·have:c=8:=by omega
  subst this;have WL:(o8 b.length).take 8=o8 b.length:=gm (by simp[o8]);have hp:uy b (po b.length)++o8 b.length=ri b:=by unfold uy ri;simp
  rw[WL,hp] at g3;have PT:¬((0:Int)<=7 - ((8:Nat):Int)):=by omega
  clear hG;refine br @I0 ?_;exact⟨_,_,rfl,_,rfl,kG.out⟩
def arD:Tryz.f166.results.toList=[.cell 4 177]:=av
def RX:Tryz.f123.results.toList=[.tmp 4]:=av
def anF(b):(ri b).length=64 * ((ri b).length/64):=by
 have:(ri b).length=b.length+1+po b.length+8:=by unfold ri;simp[o8];omega
 have hz:po b.length=(119 - b.length%64)%64:=rfl;omega
def ZO:∀(s:List eT) (i:Nat),i<4 * s.length->(jM s)[i]?=aa (UInt8.ofNat ((dg s (i/4)).toNat/256^(3 - i%4)))
 | [],i,h=>by simp at h
 |x::s,i,h=>by
  have e:jM (x::s)=[UInt8.ofNat (x.toNat/16777216),UInt8.ofNat (x.toNat/65536),UInt8.ofNat (x.toNat/256),UInt8.ofNat x.toNat]++jM s:=by unfold jM;rw[List.flatMap_cons]
  rw[e];rcases dW i 4 with q|q
  ·have:i=0∨i=1∨i=2∨i=3:=(by omega);rcases this with rfl|rfl|rfl|rfl<;>simp[dg]
  ·rw[Ab (by simpa using q)];have:=ZO s (i - 4) (by simp at h;omega);simp only[iP,kQ];rw[(ag:i - (0+1+1+1+1)=i - 4),this];have h1:i/4=(i - 4)/4+1:=(by omega);have h2:i%4=(i - 4)%4:=(by omega);rw[h1,h2];rfl
def ae7:mz ao 177 []=aa (.agg (a9 32 (bZ 0))):=av
def afg:mz ao 229 [(0,.v (.int .u32 1779033703)),(1,.v (.int .u32 3144134277)),(2,.v (.int .u32 1013904242)),(3,.v (.int .u32 2773480762)),(4,.v (.int .u32 1359893119)),(5,.v (.int .u32 2600822924)),(6,.v (.int .u32 528734635)),(7,.v (.int .u32 1541459225))]=aa (.agg (bW NT.start)):=av
def apo:(AV.agg (a9 32 (bZ 0))).bP=aa (a9 32 (bZ 0)):=av
def atc{t}{x y}{v:eT}{r}(hr:r<4):cY ao .shr t x y (aT v) (.v (.int .i64 (24 - ((8 * r:Nat):Int))))=aa (.v (.int .u32 ((v.toNat/256^(3 - r):Nat):Int))):=by
 have e:(24 - ((8 * r:Nat):Int))=((24 - 8 * r:Nat):Int):=by omega
 rw[e,tH ag];unfold aT;rw[BitVec.toNat_ushiftRight,Nat.shiftRight_eq_div_pow];have:2^(24 - 8 * r)=256^(3 - r):=by rw[show(256:Nat)=2^8 from rfl,<-Nat.pow_mul];congr 1;omega
 rw[this]
def ahX(n)(h):nL ao h 42 5 (.v (.int .u32 n))=aa (.v (.int .u8 (IntKind.u8.wrap n)),h):=av
def alB{b}{n}(hn:n<32):dH ao 177 (.ptr (.box b) 0) (.v (.int .i64 (n:Nat)))=aa (.ptr (.box b) n):=Ik hn
def aa8(b:List UInt8)(k:Tok)(h:aq)(ho:cG h=ah)(hb:b.length<=1099511620000):∃h',W1.call 190 [.list k 1 (a8 b)] h=aa (.ret (.agg (bV (fe b))),h')/\Ext h h':=by
 have z1:=FX;have z2:=ace;have bst:=afg;have x0:Ext h ((h.push (a9 32 (bZ 0))).push (bW NT.start)):=(Ext.push _ _).trans (.push _ _);have st0:b7 ao ((h.push (a9 32 (bZ 0))).push (bW (a9 8 0#32))) 229 (.ptr (.box (h.push (a9 32 (bZ 0))).boxes.length) 0) (.agg (bW NT.start))=aa ((h.push (a9 32 (bZ 0))).push (bW NT.start)):=jx Dv Ji rfl rfl;obtain⟨r1,h1,c1,t,rfl,g1⟩:=ari b k _ (x0.ok ho) hb;have HU:(ri b).length=b.length+1+po b.length+8:=by unfold ri;simp[o8];omega
 have mH:po b.length<64:=nj _ aV;have hpm:=anF b;have kSh:al (fe b=jM (gO ((ri b).length/64) NT.start (ri b))):=⟨rfl⟩;generalize ri b=p at *
 generalize hn:p.length/64=n at *
 have kX:=al.mk (g1.ext x0 x0.tn);have kd:=al.mk (g1.box _ _ (aY (aZ h (a9 32 (bZ 0)))));have ks:al (h1.boxes[h.boxes.length+1]?=aa (bW NT.start)):=⟨g1.box _ _ (nt (by rw[cH]))⟩;have awB:(a8 p).length=p.length:=bu _;have u28:=jz;clear x0 g1 ho;refine hY rfl Tryz.func190 rfl ?_;refine br @IV ?_;refine cz (λm e H=>∃i:Nat,i<=n/\m=n - i/\e.get 2=.ptr (.box h.boxes.length) 0/\e.get 3=.ptr (.box (h.boxes.length+1)) 0/\e.get 4=.list t 1 (a8 p)/\e.get 5=.v (.int .i64 ((64 * i:Nat):Int))/\e.defers=[]/\H.boxes[h.boxes.length]?=aa (a9 32 (bZ 0))/\H.boxes[h.boxes.length+1]?=aa (bW (gO i NT.start p))/\Ext h H) ?_ n _ _ ?_;rotate_left 1
 ·refine⟨0,cA _,rfl,?_,?_,?_,?_,?_,kd.out,ks.out,kX.out⟩<;>(first|assumption|(simp only[gW,reduceIte,aO,aM,cH]<;>rfl))
 clear kd ks kX st0 z2 bst c1;rintro m e H ⟨i,hi,rfl,g2,g3,g4,g5,hd,nQ,mV,hX⟩;have h8:=vL i NT.start p rfl;by_cases aA:i<n
 ·refine rM λQ=>?_;have e1:IntKind.i64.wrap (((64 * i:Nat):Int)+64)=((64 * i+64:Nat):Int):=by rw[fN ag ag];omega
  obtain⟨k',sl⟩:=abn (k:=t) (b:=p) (lo:=64 * i) (hi:=64 * i+64) ag ag;have ep:(p.take (64 * i+64)).drop (64 * i)=(p.drop (64 * i)).take 64:=by rw[List.drop_take];congr 1;omega
  rw[ep] at sl;obtain⟨H2,c2,x2⟩:=ao6 (gO i NT.start p) ((p.drop (64 * i)).take 64) k' H h8 (by rw[eS,hJ];omega);rw[<-GS] at c2;have l0:aH ao Gt H 229 (.ptr (.box (h.boxes.length+1)) 0)=aa (.agg (bW (gO i NT.start p))):=QP Us Ji mV h8;have Pc:=x2.box _ _ mV;have st:b7 ao H2 229 (.ptr (.box (h.boxes.length+1)) 0) (.agg (bW (gO (i+1) NT.start p)))=aa (H2.put (h.boxes.length+1) (bW (gO (i+1) NT.start p))):=by rw[fA Dv Ji Pc (by rw[bu,vL _ _ _ rfl]) (by rw[bu,h8];decide),wK (by rw[bu,bu,vL _ _ _ rfl,h8])]
  have kd:al ((H2.put (h.boxes.length+1) (bW (gO (i+1) NT.start p))).boxes[h.boxes.length]?=aa (a9 32 (bZ 0))):=⟨by rw[cX ag];exact x2.box _ _ nQ⟩;have ks:al ((H2.put (h.boxes.length+1) (bW (gO (i+1) NT.start p))).boxes[h.boxes.length+1]?=aa (bW (gO (i+1) NT.start p))):=⟨eu (aS.1 Pc).1⟩;have kX:=al.mk ((hX.trans x2).fK (ag:h.boxes.length<=h.boxes.length+1) (bW (gO (i+1) NT.start p)));have Xk:((64 * i:Nat):Int)<(p.length:Int):=by omega
  clear nQ mV Pc hX x2 ep
  repeat' (first|simp(maxSteps:=999999)(disch:=first|exact dZ|fail)only[gW,reduceIte,aO,aM,IV, *]|(refine dX ?_ ?_<;>(intro _;try omega))|refine ev vM av ?_)
  exact⟨n - (i+1),by omega,i+1,by omega,rfl,by trivial,by trivial,by trivial,by simp;omega,by trivial,kd.out,ks.out,kX.out⟩
 have:i=n:=by omega
 subst this;have Xk:¬((64 * i:Nat):Int)<(p.length:Int):=by omega
 generalize gO i NT.start p=s at *
 have c32:=apo;have bd:=ae7;have st1:b7 ao (H.push (a9 32 (bZ 0))) 177 (.ptr (.box H.boxes.length) 0) (.agg (a9 32 (bZ 0)))=aa (H.push (a9 32 (bZ 0))):=jx c32 ru rfl rfl;have kX:=al.mk (hX.trans (Ext.push H (a9 32 (bZ 0))));have kd:al ((H.push (a9 32 (bZ 0))).boxes[h.boxes.length]?=aa (a9 32 (bZ 0))):=⟨aY nQ⟩;have ks:al ((H.push (a9 32 (bZ 0))).boxes[h.boxes.length+1]?=aa (bW s)):=⟨aY mV⟩;have nT:=(aS.1 mV).1;have akA:(jM s).length=32:=by rw[Dd,h8]
 clear hX nQ mV;refine br @IV ?_;refine cz (λm e H1=>∃j:Nat,j<=32/\m=32 - j/\e.get 2=.ptr (.box h.boxes.length) 0/\e.get 3=.ptr (.box (h.boxes.length+1)) 0/\e.get 6=.ptr (.box H.boxes.length) 0/\e.get 7=.v (.int .i64 j)/\e.defers=[]/\H1=H.push (bV ((jM s).take j)++a9 (32 - j) (bZ 0))) ?_ 32 _ _ ?_;rotate_left 1
 ·refine⟨0,cA _,rfl,?_,?_,?_,?_,?_,rfl⟩<;>(first|assumption|(exact gR))
 clear g2 g3 g4 g5 hd st1 bd c32 Xk;rintro m e H1 ⟨j,hj,rfl,g2,g3,g6,g7,hd,rfl⟩;by_cases aA:j<32
 ·refine rM λQ=>?_;have m1:((j:Nat):Int).tdiv 4=((j/4:Nat):Int):=Jl j 4;have m2:((j:Nat):Int).tmod 4=((j%4:Nat):Int):=ph j 4;have w1:IntKind.i64.wrap ((j/4:Nat):Int)=((j/4:Nat):Int):=fN ag ag;have w2:IntKind.i64.wrap (8 * ((j%4:Nat):Int))=((8 * (j%4):Nat):Int):=by rw[fN ag ag];omega
  have w3:IntKind.i64.wrap (24 - ((8 * (j%4):Nat):Int))=24 - ((8 * (j%4):Nat):Int):=fN ag ag;have ixs:=zt (b:=h.boxes.length+1) (n:=j/4) (k:=.i64) ag;have l1:aH ao Gt (H.push (bV ((jM s).take j)++a9 (32 - j) (bZ 0))) 42 (.ptr (.box (h.boxes.length+1)) (j/4))=aa (aT (dg s (j/4))):=by refine rY ?_ ag;have:=ks.out;rw[Kx ag] at this ⊢;exact this
  have sh:=λt x y=>atc (t:=t) (x:=x) (y:=y) (v:=dg s (j/4)) (r:=j%4) ag;have uv:=S4 ((dg s (j/4)).toNat/256^(3 - j%4));have ixd:=alB (b:=H.boxes.length) aA;have ho:=ZO s j ag;have stp:b7 ao (H.push (bV ((jM s).take j)++a9 (32 - j) (bZ 0))) 5 (.ptr (.box H.boxes.length) j) (bZ (UInt8.ofNat ((dg s (j/4)).toNat/256^(3 - j%4))))=aa (H.push (bV ((jM s).take (j+1))++a9 (32 - (j+1)) (bZ 0))):=by have hlen:(bV ((jM s).take j)).length=j:=(by rw[mq,eS];omega);rw[MC (aZ _ _) (by rw[dw,hlen,mM];omega),pc];congr 2;obtain⟨q,hq⟩:∃q,32 - j=q+1:=⟨31 - j,by omega⟩;rw[hq,Bz,List.set_append_right _ _ (by rw[hlen];exact aJ _),hlen,uK,List.set_cons_zero,ft ho,(ag:32 - (j+1)=q)];unfold bV;rw[List.map_append,tL];rfl
  clear ho;refine bK @IV @ahX ?_;exact⟨32 - (j+1),by omega,j+1,by omega,rfl,by trivial,by trivial,by trivial,rfl,by trivial,rfl⟩
 ·have:j=32:=by omega
  subst this;have et:bV ((jM s).take 32)++a9 (32 - 32) (bZ 0)=bV (fe b):=by rw[gm ag,uK,adk,jr,kSh.out]
  have hL:(bV (fe b)).length=32:=by rw[mq,kSh.out];exact akA
  have xC:=(aS.1 kd.out).1;have kd2:(H.push (bV (fe b))).boxes[h.boxes.length]?=aa (a9 32 (bZ 0)):=by have:=kd.out;rw[Kx ag] at this ⊢;exact this
  have l1:aH ao Gt (H.push (bV (fe b))) 177 (.ptr (.box H.boxes.length) 0)=aa (.agg (bV (fe b))):=by rw[iL D6 ru (aZ _ _) (by rw[hL];exact aJ _),iO,gm (by rw[hL];exact aJ _)]
  have st:b7 ao (H.push (bV (fe b))) 177 (.ptr (.box h.boxes.length) 0) (.agg (bV (fe b)))=aa ((H.push (bV (fe b))).put h.boxes.length (bV (fe b))):=by rw[fA (zK _) ru kd2 hL bE,wK (by rw[hL];rfl)]
  have l2:aH ao Gt ((H.push (bV (fe b))).put h.boxes.length (bV (fe b))) 177 (.ptr (.box h.boxes.length) 0)=aa (.agg (bV (fe b))):=by rw[iL D6 ru (eu (aS.1 kd2).1) (by rw[hL];exact aJ _),iO,gm (by rw[hL];exact aJ _)]
  have xh:Ext h (H.push (bV (fe b))):=by have fT:∀(c:Nat) cs,h.boxes[c]?=aa cs->(H.push (bV (fe b))).boxes[c]?=aa cs:=λc cs hc=>(by have:=kX.out.box c cs hc;rw[Kx (by have:=(aS.1 hc).1;omega)] at this ⊢;exact this);exact⟨fT,kX.out.loop,kX.out.tn,kX.out.dead,kX.out.ok⟩
  have kX2:=al.mk (xh.fK (aJ _) (bV (fe b)));rw[et];clear kd2 xh et;refine br @IV ?_;exact⟨_,rfl,kX2.out⟩
def ar9(bp b)(k)(h)(ho:cG h=ah)(hb:b.length<=1099511610000)(ht:bp.length<=1099511610000):
 ∃h',W1.call 166 [.v (.string (bs bp)),.list k 1 (a8 b)] h=aa (.ret (.agg (bV (gx bp b))),h')/\Ext h h':=by
 have z177:=FX;have x0:Ext h ((h.push (a9 32 (bZ 0))).app .nil):=(Ext.push _ _).trans (Ext.app (Ext.refl _) (.inl rfl));have e0:((h.push (a9 32 (bZ 0))).app .nil).boxes=(h.push (a9 32 (bZ 0))).boxes:=ec _ _;obtain⟨H2,c2,x2⟩:=aa8 bp (.free (h.push (a9 32 (bZ 0))).tn) ((h.push (a9 32 (bZ 0))).app .nil) (x0.ok ho) ag;have d0:H2.boxes[h.boxes.length]?=aa (a9 32 (bZ 0)):=x2.box _ _ (by rw[e0];exact aZ _ _);have tl:(bV (fe bp)).length=32:=by rw[mq,uB]
 have st1:b7 ao (H2.push (a9 32 (bZ 0))) 177 (.ptr (.box H2.boxes.length) 0) (.agg (bV (fe bp)))=aa (H2.push (bV (fe bp))):=jx (zK _) ru tl rfl;have x3:Ext h (H2.push (bV (fe bp))):=(x0.trans x2).trans (Ext.push _ _);have nr:mX (H2.push (bV (fe bp))) 1 (.arr H2.boxes.length 0 32 32)=aa (a8 (fe bp)):=
  dT.news (dT.box (Ai _) (by rw[bu,uB]) (by rw[Jn];exact aZ _ _))
 obtain⟨t4,H4,a4,g4⟩:=N0 (H:=H2.push (bV (fe bp))) (k:=.tight) (n0:=h.tn) (es:=[]) nr (by rw[uB];simp) (.inr (.inl rfl)) (x3.ok ho) x3.tn;rw[lJ] at a4;replace a4:gN ao (H2.push (bV (fe bp))) #[28,28] (.list .tight 1 []) (.arr H2.boxes.length 0 32 32)=aa (.list t4 1 (a8 (fe bp)),H4):=a4;have x4:=g4.ext x3 (aJ _);obtain⟨t5,H5,a5,g5⟩:=N0 (H:=H4) (k:=t4) (n0:=h.tn) (es:=fe bp) (new:=b) (x:=.list k 1 (a8 b)) Ra (by rw[uB];omega) g4.can g4.ok x4.tn;have x5:=g5.ext x4 (aJ _);obtain⟨H6,c6,x6⟩:=aa8 (fe bp++b) t5 H5 g5.ok (by rw[dw,uB];omega);have d6:H6.boxes[h.boxes.length]?=aa (a9 32 (bZ 0)):=x6.box _ _ (g5.box _ _ (g4.box _ _ (aY d0)));have tl2:(bV (gx bp b)).length=32:=by rw[mq];exact uB _
 have st2:b7 ao H6 177 (.ptr (.box h.boxes.length) 0) (.agg (bV (gx bp b)))=aa (H6.put h.boxes.length (bV (gx bp b))):=by rw[fA (zK _) ru d6 tl2 bE,wK (by rw[tl2];simp)]
 have ld2:aH ao Gt (H6.put h.boxes.length (bV (gx bp b))) 177 (.ptr (.box h.boxes.length) 0)=aa (.agg (bV (gx bp b))):=by rw[iL D6 ru (eu (aS.1 d6).1) (by rw[tl2];exact aJ _),iO,gm (by rw[tl2];exact aJ _)]
 replace c6:W1.call 190 [.list t5 1 (a8 (fe bp++b))] H5=aa (.ret (.agg (bV (gx bp b))),H6):=c6;have kX:=al.mk ((x5.trans x6).fK (aJ _) (bV (gx bp b)));have bl:=JZ;clear e0 x0 x2 x3 x4 x5 x6 g4 g5 d0 d6 tl tl2 nr;refine hY rfl Tryz.func166 rfl ?_;refine cQ @arD @VI @abm ?_;exact⟨_,rfl,kX.out⟩
def aoY{b}:jA (mask b) 1=(dy b 0).toNat%128∨b=[]:=by
 by_cases hb:b=[]
 ·exact .inr hb
 ·refine .inl ?_;have:0<b.length:=List.length_pos_iff.2 hb;show 0 * 256+(dy (mask b) 0).toNat=_;rw[Lm this,aG rfl,NY];omega
def apQ(bp b:List UInt8)(k:Tok)(h:aq)(ho:cG h=ah)(hb:b.length<=1099511610000)(ht:bp.length<=1099511610000):
 ∃h',W1.call 123 [.v (.string (bs bp)),.list k 1 (a8 b)] h=aa (.ret (im (mU (gx bp b):Nat)),h')/\Ext h h':=by
 obtain⟨H1,c1,x1⟩:=ar9 bp b k h ho hb ht;have hl:(gx bp b).length=32:=uB _;have de:(bV (gx bp b)).length=32:=by rw[mq,hl]
 have he:=hash_eq (b:=gx bp b) ag;generalize gx bp b=d at *
 have bB:0<d.length:=by omega
 have z177:=FX;have st1:b7 ao (H1.push (a9 32 (bZ 0))) 177 (.ptr (.box H1.boxes.length) 0) (.agg (bV d))=aa (H1.push (bV d)):=jx (zK _) ru de rfl;have ix0:dH ao 177 (.ptr (.box H1.boxes.length) 0) (.v (.int .i64 0))=aa (.ptr (.box H1.boxes.length) 0):=Ik (n:=0) aV;have l0:aH ao Gt (H1.push (bV d)) 5 (.ptr (.box H1.boxes.length) 0)=aa (.v (.int .u8 ((dy d 0).toNat:Nat))):=Lf (aZ _ _) bB;have m0:(((dy d 0).toNat:Nat):Int).tmod 128=((jA (mask d) 1:Nat):Int):=by refine(ph (dy d 0).toNat 128).trans ?_;rw[show jA (mask d) 1=(dy d 0).toNat%128 from aoY.resolve_right (by rintro rfl;simp at bB)]
 have ew0:IntKind.i64.wrap (((dy d 0).toNat:Nat):Int)=(((dy d 0).toNat:Nat):Int):=by have:=vz (dy d 0);exact fN ag ag
 have hX:=al.mk (x1.trans (Ext.push H1 (bV d)));have aA:=λi hi=>Zq bB (i:=i) hi;have nx:∀i,i≠0->dy (mask d) i=dy d i:=λi hi=>by rw[Lm bB,aI hi]
 have kB:=al.mk (aZ H1 (bV d));have klt:=al.mk aA;have ke:=al.mk he;have kl:=al.mk hl;have kml:=al.mk nx;clear de hl aA he nx x1 bB ho;unfold im;refine hY rfl Tryz.func123 rfl ?_;refine bK @RX @Oq ?_;refine cz (λm e H=>∃i:Nat,1<=i/\i<=8/\m=8 - i/\e.get 5=.ptr (.box H1.boxes.length) 0/\e.get 7=.v (.int .i64 i)/\e.get 6=.v (.int .i64 (jA (mask d) i:Nat))/\e.defers=[]/\H=H1.push (bV d)) ?_ 7 _ _ ?_;rotate_left 1
 ·refine⟨1,by decide,by decide,rfl,?_,?_,?_,?_,rfl⟩<;>(first|assumption|(exact gR))
 clear z177 st1 ix0 l0 c1 m0 ew0;rintro m e H ⟨i,Px,hi,rfl,g5,g7,g6,hd,rfl⟩;by_cases h8:i=8
 ·subst h8;have e1:(((jA (mask d) 8:Nat):Int)).tmod 1073741789=((mU d:Nat):Int):=by rw[<-ke.out];exact ph _ _
  generalize jA (mask d) 8=A at *
  refine br @RX ?_;exact⟨_,rfl,hX.out⟩
 ·have aA:i<8:=by omega
  have a1:=klt.out i aA;have u1:=vz (dy d i);have ix:=Ik (b:=H1.boxes.length) (n:=i) (k:=.i64) ag;have ld:aH ao Gt (H1.push (bV d)) 5 (.ptr (.box H1.boxes.length) i)=aa (.v (.int .u8 ((dy d i).toNat:Nat))):=Lf kB.out (by have:=kl.out;omega);have ew:IntKind.i64.wrap (((dy d i).toNat:Nat):Int)=(((dy d i).toNat:Nat):Int):=fN ag ag;have kstep:=al.mk (show jA (mask d) (i+1)=jA (mask d) i * 256+(dy d i).toNat by rw[<-kml.out i ag];rfl);generalize jA (mask d) i=A at *
  generalize (dy d i).toNat=r at *
  have e2:IntKind.i64.wrap (((A:Nat):Int) * 256)=((A * 256:Nat):Int):=by rw[fN ag ag];omega
  have e3:IntKind.i64.wrap (((A * 256:Nat):Int)+((r:Nat):Int))=((A * 256+r:Nat):Int):=by rw[fN ag ag];omega
  refine bK @RX @Oq ?_;exact⟨8 - (i+1),by omega,i+1,by omega,by omega,rfl,by trivial,rfl,by rw[kstep.out],by trivial,by trivial⟩
def arp:Tryz.f119.results.toList=[.cell 2 96]:=av
def arq:Tryz.f120.results.toList=[.cell 2 96]:=av
def ars:Tryz.f121.results.toList=[.cell 2 96]:=av
def N4(n):mz ao 96 [(0,.v (.int .i64 1)),(1,.v (.int .i64 n))]=aa (.agg (aL 1 n [] .nil 0 [])):=av
def N5(s):mz ao 96 [(0,.v (.int .i64 2)),(2,.v (.string (bs s)))]=aa (.agg (aL 2 0 s .nil 0 [])):=av
def bdl(k)(sz)(ae):mz ao 96 [(0,.v (.int .i64 3)),(3,.list k sz ae)]=aa (.agg (aL 3 0 [] k sz ae)):=av
def MD{H:aq}{k n}{s}{t}{sz}{ae}:b7 ao (H.push (aL 0 0 [] .nil 0 [])) 96 (.ptr (.box H.boxes.length) 0) (.agg (aL k n s t sz ae))=aa (H.push (aL k n s t sz ae)):=jx rfl qy rfl rfl
def QO{H:aq}{k n}{s}{t}{sz}{ae}:aH ao Gt (H.push (aL k n s t sz ae)) 96 (.ptr (.box H.boxes.length) 0)=aa (.agg (aL k n s t sz ae)):=qt rfl (aZ _ _)
def apZ(n:Int)(h:aq):W1.call 120 [.v (.int .i64 n)] h=aa (.ret (.agg (aL 1 n [] .nil 0 [])),h.push (aL 1 n [] .nil 0 [])):=by have z:=yk;refine cJ rfl Tryz.func120 rfl ?_;exact mT @arq @N4 @MD @QO
def ase(s:List UInt8)(h:aq):W1.call 121 [.v (.string (bs s))] h=aa (.ret (.agg (aL 2 0 s .nil 0 [])),h.push (aL 2 0 s .nil 0 [])):=by have z:=yk;refine cJ rfl Tryz.func121 rfl ?_;exact mT @ars @N5 @MD @QO
def aqJ(k:Tok)(sz:Nat)(ae:List (List AV))(h:aq):W1.call 119 [.list k sz ae] h=aa (.ret (.agg (aL 3 0 [] k sz ae)),h.push (aL 3 0 [] k sz ae)):=by have z:=yk;refine cJ rfl Tryz.func119 rfl ?_;exact mT @arp @bdl @MD @QO
def L2:List FuncId:=[28,29,30,46,65,66,69,78,82,94,118,119,120,121,123,132,138,140,146,194,201]
noncomputable def RA:FuncId->Option (List AV->aq->Option (AV × aq)):=qJ W1 L2
noncomputable abbrev W2:=whole ao Gt RA
def Ak:qE RA L2:=yM
section
variable (a b n x:Int)
def Uo:∀h,W2.call 28 [im a,im b] h=aa (.ret (im (cd a b)),h):=bm (L:=L2) rfl rfl rfl (aef a b _) rfl rfl
def Q5:∀h,W2.call 29 [im a,im b] h=aa (.ret (im (cR a b)),h):=bm (L:=L2) rfl rfl rfl (amQ a b _) rfl rfl
def alv:∀h,W2.call 201 [im n] h=aa (.ret (.tuple [im (if fmod n=0 then 0 else eK n),im (if fmod n=0 then 90 else 0)]),h):=bm (L:=L2) rfl rfl rfl (alu n _) rfl rfl
def avl:∀h,W2.call 46 [im x] h=aa (.ret (.v (.bool (bI x))),h):=bm (L:=L2) rfl rfl rfl (avi x _) rfl rfl
def ajt:∀h,W2.call 69 [im a,im b] h=aa (.ret (.tuple [im (jk a b),im (nP a b)]),h):=bm (L:=L2) rfl rfl rfl (ajs a b _) rfl rfl
def ajy:∀h,W2.call 30 [im a,im n] h=aa (.ret (.tuple [im (eR a n),im (mS a)]),h):=bm (L:=L2) rfl rfl rfl (ajx a n _) rfl rfl
def ao0:∀h,W2.call 65 [im a,im b] h=aa (.ret (im (cd a b)),h):=bm (L:=L2) rfl rfl rfl (aoZ a b _) rfl rfl
def aqL:∀h,W2.call 66 [im a,im b] h=aa (.ret (im (cR a b)),h):=bm (L:=L2) rfl rfl rfl (aqK a b _) rfl rfl
def ap3:∀h,W2.call 194 [im n] h=aa (.ret (.tuple [im (if fmod n=0 then 0 else eK n),im (if fmod n=0 then 90 else 0)]),h):=bm (L:=L2) rfl rfl rfl (ap0 n _) rfl rfl
def asB:∀h,W2.call 94 [im x] h=aa (.ret (.v (.bool (bI x))),h):=bm (L:=L2) rfl rfl rfl (asA x _) rfl rfl
def apB:∀h,W2.call 140 [im a,im b] h=aa (.ret (.tuple [im (jk a b),im (nP a b)]),h):=bm (L:=L2) rfl rfl rfl (apA a b _) rfl rfl
def apH:∀h,W2.call 132 [im a,im n] h=aa (.ret (.tuple [im (eR a n),im (mS a)]),h):=bm (L:=L2) rfl rfl rfl (apG a n _) rfl rfl
def apV:∀h,W2.call 120 [im n] h=aa (.ret (.agg (aL 1 n [] .nil 0 [])),h):=bm (L:=L2) rfl rfl rfl (apZ n _) rfl rfl
end
def asa(s):∀h,W2.call 121 [sv s] h=aa (.ret (.agg (aL 2 0 s .nil 0 [])),h):=bm (L:=L2) rfl rfl rfl (ase s _) rfl rfl
def vk:cG ⟨[],[],0,[]⟩=ah:=rfl
def ajo(bp b)(k)(hb:b.length<=1099511620000)(ht:bp.length<=1099511620000):∀h,W2.call 78 [.v (.string (bs bp)),.list k 1 (a8 b)] h=aa (.ret (im (mU (gx bp b):Nat)),h):=
 bm (L:=L2) (b9:=[.v (.string (bs bp)),.list (bO k) 1 (a8 b)]) rfl (by rw[bN,bN,aC.eq_1,qo];rfl) (by simp[aP,aK,fh,jS]) (ajn bp b _ hb ht _) rfl rfl
def apM(bp b)(k)(hb:b.length<=1099511610000)(ht:bp.length<=1099511610000):∀h,W2.call 123 [.v (.string (bs bp)),.list k 1 (a8 b)] h=aa (.ret (im (mU (gx bp b):Nat)),h):=by obtain⟨h',hc,-⟩:=apQ bp b (bO k) ⟨[],[],0,[]⟩ vk hb ht;exact bm (L:=L2) (b9:=[.v (.string (bs bp)),.list (bO k) 1 (a8 b)]) rfl (by rw[bN,bN,aC.eq_1,qo];rfl) (by simp[aP,aK,fh,jS]) hc rfl rfl
def ain{v}{r}(hv:da v r)(hd:gE v<=16)(hl:(dK v).length<=1099511600000):∃t,∀h,W2.call 146 [.agg r] h=aa (.ret (.tuple [.list t 1 (a8 (dK v)),.v (.int .i64 0)]),h):=by obtain⟨h1,h2⟩:=da.hold v r hv;obtain⟨r',h',hc,t,rfl,-⟩:=aip h1 hd ag ⟨[],[],0,[]⟩ vk;exact⟨bO t,bm (L:=L2) (b9:=[.agg (bN r)]) rfl rfl (by simpa [aP,aK] using h2) hc rfl (by simp[aK,aP,fh,jS])⟩
def apj{v}{r}(hv:da v r)(hd:gE v<=16)(hl:(dK v).length<=1099511600000):∃t,∀h,W2.call 118 [.agg r] h=aa (.ret (.tuple [.list t 1 (a8 (dK v)),.v (.int .i64 0)]),h):=by obtain⟨h1,h2⟩:=da.hold v r hv;obtain⟨r',h',hc,t,rfl,-⟩:=aoX h1 hd ag ⟨[],[],0,[]⟩ vk;exact⟨bO t,bm (L:=L2) (b9:=[.agg (bN r)]) rfl rfl (by simpa [aP,aK] using h2) hc rfl (by simp[aK,aP,fh,jS])⟩
def ou(l:List Vl)(ae:List (List AV)):Prop:=ae.length=l.length/\∀(i:Nat) v r,l[i]?=aa v->ae[i]?=aa r->da v r
def arM:Tryz.f202.results.toList=[.tmp 4]:=av
def Sd:Tryz.f219.results.toList=[]:=av
def kU:gI ao 23=aa az:=av
def aeu:gI ao 203=aa az:=av
def vd{H}{b}{x}(hb:H.boxes[b]?=aa [x]):aH ao Gt H 23 (.ptr (.box b) 0)=aa x:=by rw[mJ kU hb];rfl
def xQ{H}{b}{x}(hb:H.boxes[b]?=aa [x]):aH ao Gt H 203 (.ptr (.box b) 0)=aa x:=by rw[mJ aeu hb];rfl
def zw{H}{b k}{cs}{x}(hb:H.boxes[b]?=aa cs)(hk:cs[k]?=aa x):aH ao Gt H 3 (.ptr (.box b) k)=aa x:=by rw[mJ eD hb,JG,hk]
def uw{H}{b k}{cs}{x}(hb:H.boxes[b]?=aa cs)(hk:cs[k]?=aa x):aH ao Gt H 23 (.ptr (.box b) k)=aa x:=by rw[mJ kU hb,JG,hk]
def qX{b len aD n}{k}(hn:n<len):dH ao 23 (.arr b 0 len aD) (.v (.int k (n:Nat)))=aa (.ptr (.box b) n):=by rw[E6 dQ fP ag ag,dV,oN,qb]
def E9{b len aD n}{k}(hn:n<len):dH ao 203 (.arr b 0 len aD) (.v (.int k (n:Nat)))=aa (.ptr (.box b) n):=by rw[E6 Tryz.underlying203 il ag ag,dV,oN,qb]
def Uq(xb w c:Nat)(h:aq):W2.call 202 [.arr xb 0 w w,im (c:Nat)] h=aa (.ret (.func (.func 219) [] [.ptr (.box (h.boxes.length+1)) 0,.ptr (.box h.boxes.length) 0]),(h.push [.arr xb 0 w w]).push [im (c:Nat)]):=by have b1:(AV.arr xb 0 w w).bP=aa [.arr xb 0 w w]:=rfl;have b2:(AV.v (.int .i64 (c:Nat))).bP=aa [.v (.int .i64 (c:Nat))]:=rfl;unfold im;refine cJ rfl Tryz.func202 rfl ?_;exact rN @arM @bg @cH
def Ur(l cb rb xb w c:Nat)(row:List Int)(Inv:Nat->aq->Prop)
 (h1:∀k H,Inv k H->H.boxes[cb]?=aa [im (c:Nat)]/\H.boxes[rb]?=aa [.arr xb 0 w w]/\(k<w->∃cs,H.boxes[xb]?=aa cs/\cs[k]?=aa (im (ai row k))))
 (hR:∀k H,c<=k->k<w->Inv k H->∃H',W2.round l [im (k:Nat),im (ai row k)] H=aa (.ret (.v (.bool ah)),H')/\Inv (k+1) H')
 (hc:c<=w) (ju:w<=1000000) (H0:aq) (h0:Inv c H0):∃H',W2.call 219 [.yield l,.ptr (.box cb) 0,.ptr (.box rb) 0] H0=aa (.ret (.tuple []),H')/\Inv w H':=by
 have k1:=al.mk h1;have kR:=al.mk hR;have k0:=al.mk h0;obtain⟨b1,b2,-⟩:=h1 c H0 h0;have l1:=mi b1;unfold im at l1;have u23:=dQ;clear h1 hR h0 b1 b2;refine hY rfl Tryz.func219 rfl ?_;refine br @Sd ?_;refine cz (λm e H=>∃k:Nat,c<=k/\k<=w/\m=w - k/\e.get 0=.yield l/\e.get 1=.ptr (.box cb) 0/\e.get 2=.ptr (.box rb) 0/\e.get 4=.v (.int .i64 k)/\e.defers=[]/\Inv k H) ?_ (w - c) _ _ ?_;rotate_left 1
 ·refine⟨c,aJ _,hc,rfl,?_,?_,?_,?_,?_,k0.out⟩<;>(first|assumption|(exact gR))
 clear l1 k0;rintro m e H ⟨k,AQ,AR,rfl,g0,g1,g2,g4,hd,hI⟩;obtain⟨b1,b2,b3⟩:=k1.out k H hI;have l2:=vd b2;have kI:=al.mk hI;clear b1 hI;by_cases aA:k<w
 ·obtain⟨cs,b4,b5⟩:=b3 aA;obtain⟨H',r1,r2⟩:=kR.out k H AQ aA kI.out;have ix:=qX (b:=xb) (len:=w) (aD:=w) (k:=.i64) aA;have l3:=zw b4 b5;have kI2:=al.mk r2;have fx:((k:Nat):Int)<((w:Nat):Int):=by omega
  unfold im at *
  clear b2 b3 b4 b5 r2 kI;refine bK @Sd @Aj ?_;exact⟨w - (k+1),by omega,k+1,by omega,by omega,rfl,by trivial,by trivial,by trivial,by simp,by trivial,kI2.out⟩
 ·have:k=w:=by omega
  subst this;clear b2 b3;refine br @Sd ?_;exact⟨_,rfl,kI.out⟩
end Go.Proofs.YtnfciiiohoafaaaGreatDoor
end
