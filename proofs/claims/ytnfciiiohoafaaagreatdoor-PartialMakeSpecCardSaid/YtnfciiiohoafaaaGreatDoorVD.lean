/-
  The engine, part 47: lists that grow.
-/
import Derived.Test.YtnfciiiohoafaaaGreatDoorVC
import Derived.Test.YtnfciiiohoafaaaGreatDoorVB
open True renaming intro->aX
open List renaming replicate->bg,replicate_succ->A1,flatten_cons->oL,length_nil->jY,getElem?_toArray->jt,getElem?_cons_zero->jO,getElem?_cons_succ->pj,getElem?_map->ev,take_append_drop->xR,flatten_append->qM,length_append->dE,getElem?_eq_getElem->aT,take_length->fI,mem_of_getElem?->dn,mem_flatten->Mu,mem_cons_self->gj,not_mem_nil->uM,getElem?_eq_some_iff->aV,mem_of_mem_take->oO,length_replicate->mB,nil_append->mC,replicate_zero->ach,append_nil->jX,length_map->bE,drop_zero->iX,take_of_length_le->gO,map_cons->eK,map_nil->uK,head?_drop->IX,getD_eq_getElem?_getD->dS,foldl_append->oM,getElem?_set->mA,length_set->mS,all_eq_true->ej,mem_cons->iq,length_take->fj,length_drop->hD,mem_map->ju,getElem?_take->oh,getElem?_drop->oN,range->bR,mem_filter->uL,set_set->Db,ext_getElem?->qL,mem_cons_of_mem->fN,filter_cons_of_neg->abY,filter_cons_of_pos->abZ,ext_getElem->IV,getElem_map->qN,getElem_range->AX,mem_range->gB,getElem?_append_right->zC,mem_singleton->lu,mem_or_eq_of_mem_set->vY,getElem_mem->iG,eq_of_mem_replicate->IU,getElem?_replicate->Mo,nodup_cons->FM,foldl_cons->uJ,contains_iff_mem->abS,mem_iff_getElem->A0,getElem?_mapIdx->ab1,map_map->AZ,cons_append->lN,append_assoc->sR,take_succ_cons->gl,take_zero->fm,length_cons->jn,getElem?_range->FI
open Go.Proofs.Tryz renaming prog->aq,underlying28->jv,underlying3->sV,func206->acW,underlying23->dN,underlying9->Dm,func132->acO,func140->SW,underlying94->py,func207->S0,func186->SY,func187->SZ,func188->acT,func164->SX
open Option renaming some->aa,none->ar,bind_some->pq,map_some->eW,some.injEq->dM,map_map->MN
open Nat renaming beq->jG,ble->MD,eq_of_beq_eq_true->jP,le_of_ble_eq_true->jZ,mul_le_mul->p7,mul_one->oo,zero_add->po,le_trans->fJ,zero_le->cG,reduceEqDiff->aZ,eq_zero_or_pos->FT,le_refl->aM,sub_self->tU,and_two_pow_sub_one_eq_mod->acr,pow_succ->A8,mul_pos->MI,pow_pos->MK,mod_lt->mV,add_mul->gI,mod_eq_of_lt->nI,pow_le_pow_right->acF,shiftLeft_eq->A9,shiftLeft_add_eq_or_of_lt->ML,lt_of_lt_of_le->mU,lt_succ_of_lt->vZ,lt_or_ge->dV,shiftLeft_add->SE,shiftLeft_or_distrib->SF
open Bool renaming false->az,true->ai,and_eq_true->bL,and_true->CO,not_eq_true'->zj
open Int renaming sub_zero->C7,natCast_zero->sQ,dvd_add->xK,zero_mul->IT,emod_eq_emod_iff_emod_sub_eq_zero->abG,emod_emod_of_dvd->C5,dvd_refl->C4,emod_eq_of_lt->Mg,zero_add->FC,toNat_natCast->dK,mul_comm->zw,mul_sub->zx,dvd_mul_of_dvd_right->Fy,fdiv_eq_ediv_of_nonneg->Fz
open And renaming intro->av
open Go renaming Program->bK,TypeId->aK,FuncId->bm,Value->aR
open Prod renaming mk.injEq->dj,fst->rM
set_option maxHeartbeats 64000000
set_option maxRecDepth 100000
set_option linter.unusedSimpArgs false
set_option linter.unusedVariables false
set_option linter.constructorNameAsVariable false
set_option linter.defProp false
section
namespace Go.Proofs.YtnfciiiohoafaaaGreatDoor
open Go.AE Go.NT
def QM(z:AV):∀n:Nat,(bg n [z]).flatten=bg n z
 |0=>rfl|n+1=>by rw[A1,oL,QM z n,A1];rfl
def ZV:Tryz.f206.results.toList=[.tmp 4]:=aw
def AL:Tryz.f182.results.toList=[.tmp 2]:=aw
def TY:DA aq 28 (.list .nil 0 [])=aa (.v (.int .i64 0)):=aw
def aas:gY aq 28 (.list .nil 0 []) ar (aa (.v (.int .i64 0))) ar=aa (.list .nil 0 []):=aw
def Cj:∃i,aq.info? 5=aa i/\i.size=1/\i.bytes<=8/\(i.zero.map λz=>z.cells.size)=aa 1:=by
 have h:(match aq.info? 5 with|some i=>jG i.size 1&&MD i.bytes 8&&decide ((i.zero.map λz=>z.cells.size)=aa 1)|none=>az)=ai:=aw;split at h
 ·rename_i i hi;simp only[bL,decide_eq_true_eq] at h;exact⟨i,hi,jP h.1.1,jZ h.1.2,h.2⟩
 ·cases h
def zr5:(jf aq 5).bind AV.cD=aa [cq 0]:=aw
def adZ{H}{n}(h0:0<n)(hn:n<=1099511627776):gP aq H #[28,3] (.list .nil 0 []) (.v (.int .i64 (n:Nat)))=aa (.arr H.boxes.length 0 n n,H.push (bg n [cq 0]).flatten):=by obtain⟨i,h1,h2,h3,h4⟩:=Cj;have:=p7 hn h3;exact Tp jv sV h1 zr5 h0 ah ah ah h2.symm
def aip(n:Nat)(h0:0<n)(hn:n<=1099511627776)(H:ao):W.call 206 [.list .nil 0 [],.v (.int .i64 (n:Nat))] H=aa (.ret (.arr H.boxes.length 0 0 n),H.push (bg n [cq 0]).flatten):=by
 have u28:=jv;have a:=adZ (H:=H) h0 hn;have e1:IntKind.i64.wrap ((0:Int) - 0)=0:=by rfl
 have e2:IntKind.i64.wrap (((n:Nat):Int) - 0)=((n:Nat):Int):=by rw[C7,gF ah ah]
 have s2:gY aq 28 (.arr H.boxes.length 0 n n) ar (aa (.v (.int .i64 (0:Nat)))) ar=aa (.arr H.boxes.length 0 0 n):=aaq u28 sO aO aO ah h0;have s2:gY aq 28 (.arr H.boxes.length 0 n n) ar (aa (.v (.int .i64 0))) ar=aa (.arr H.boxes.length 0 0 n):=s2;have aB:(0:Int)<(n:Nat):=by omega
 refine cL rfl acW rfl ?_;exact JM @ZV @Gd @TY (av @aas (av @jY.{0} (av @sQ @C7)))
def aiq(H:ao):W.call 206 [.list .nil 0 [],.v (.int .i64 (0:Nat))] H=aa (.ret (.list .nil 0 []),H):=by
 have u28:=jv;refine cL rfl acW rfl ?_;have e1:IntKind.i64.wrap ((0:Int) - 0)=0:=by rfl
 have e2:IntKind.i64.wrap (((0:Nat):Int) - 0)=0:=by rfl
 exact JM @ZV @Gd @TY (av @aas (av @jY.{0} (av @sQ @C7)))
def adu:gU aq 28=aa az:=aw
def atn:dC aq 28=aa 1:=aw
def ac5{H}{b len aC}{cs}{new}{x}(s:dQ 1 H x new)(hb:H.boxes[b]?=aa cs)(h2:len+new.length<=aC)(h3:aC<=cs.length):
 gP aq H #[28,28] (.arr b 0 len aC) x=aa (.arr b 0 (len+new.length) aC,H.put b (eT cs len new.flatten)):=by
 obtain⟨i,h1,q2,-,h4⟩:=Cj;have:=Tn (off:=0) jv jv h1 ah (by rw[q2];exact h4) (by rw[q2];exact s.news) hb h2 (by rw[q2];omega)
 rwa [q2,oo,po] at this
def adD{H}{x}(s:dQ 1 H x []):gP aq H #[28,28] (.list .nil 0 []) x=aa (.list .nil 0 [],H):=by
 obtain⟨i,h1,q2,-,h4⟩:=Cj;have hx:mM H i.size x=aa []:=by rw[q2];exact s.news
 unfold gP;simp only[jt,jO,pj,pq,jv,h1,hx];rw[aG ⟨ah,by rw[q2];exact h4⟩];simp
def agh(k:Tok)(xs:List AV)(dk:List (List (List AV)))(hl:xs.length=dk.length)(H:ao)(hs:∀(i:Nat) x rs,xs[i]?=aa x->dk[i]?=aa rs->dQ 1 H x rs)(hb:dk.flatten.length<=1099511627776)(dB:xs.length<=1000):
 ∃r H',W.call 182 [.list k 1 (xs.map λx=>[x])] H=aa (r,H')/\∃y,r=.ret y/\Ext H H'/\dQ 1 H' y dk.flatten:=by
 have u28:=jv;have u233:=Tryz.underlying233;have aE:=adu;have sE:=atn;have hr:∀(i:Nat) x,xs[i]?=aa x->(xs.map λx=>[x])[i]?=aa [x]:=λi x hx=>by rw[ev,hx];rfl
 have eI:∀i,(dk.take i).flatten.length<=1099511627776:=λi=>by
  refine fJ ?_ hb
  conv=>rhs;rw[<-xR i dk,qM,dE]
  omega
 have jA:∀(i:Nat) rs,dk[i]?=aa rs->(dk.take (i+1)).flatten=(dk.take i).flatten++rs:=λi rs hi=>by rw[fW hi,qM];simp
 have kS:=al.mk hs;have kl:=al.mk hl;have kr:=al.mk hr;have kst:=al.mk jA;have kle:=al.mk eI;have nh:(xs.map λx=>[x]).length=xs.length:=by simp
 clear hs hr jA eI hl;generalize hM:(xs.map λx=>[x])=M at *
 refine da rfl Tryz.func182 rfl ?_;refine bI @AL ?_;refine cE (λm e h'=>∃i:Nat,i<=xs.length/\m=xs.length - i/\e.get 0=.list k 1 M/\e.get 9=.list k 1 M/\e.get 10=.v (.int .i64 (xs.length:Nat))/\e.get 11=.v (.int .i64 i)/\e.get 3=.v (.int .i64 ((dk.take i).flatten.length:Nat))/\e.get 2=.list .nil 0 []/\e.defers=[]/\h'=H) ?_ xs.length _ _ ?_;rotate_left 1
 ·refine⟨0,cG _,rfl,?_,?_,?_,?_,?_,?_,?_,rfl⟩<;>(first|assumption|(simp only[gW,reduceIte,aZ,aQ,nh]<;>rfl))
 rintro m e h' ⟨i,hi,rfl,g0,g9,g10,g11,g3,g2,hd,rfl⟩;by_cases aB:i<xs.length
 ·obtain⟨x,hx⟩:∃x,xs[i]?=aa x:=⟨_,aT aB⟩;obtain⟨rs,jz⟩:∃rs,dk[i]?=aa rs:=⟨_,aT (by have:=kl.out;omega)⟩;have s1:=kS.out i x rs hx jz;have ls:=s1.len u28;have vk:=kr.out i x hx;have BW:(i:Int)<(M.length:Int):=by omega
  have q:=kst.out i rs jz;have q1:=kle.out (i+1);rw[q,dE] at q1;have ksum:=al.mk (show(dk.take (i+1)).flatten.length=(dk.take i).flatten.length+rs.length by rw[q,dE]);generalize (dk.take i).flatten.length=n1 at *
  have e1:IntKind.i64.wrap (((n1:Nat):Int)+((rs.length:Nat):Int))=((n1+rs.length:Nat):Int):=by rw[gF ah ah];omega
  have nn:¬(((n1+rs.length:Nat):Int)<0):=by omega
  have ld:aI aq Gt h' 28 (.elem 1 M i 0)=aa x:=by rw[rm aE vk];rfl
  clear q q1 s1;refine bV @AL @a9 ?_;exact⟨xs.length - (i+1),by omega,i+1,by omega,rfl,by trivial,by trivial,by trivial,by simp,by rw[ksum.out],by trivial,by trivial,by trivial⟩
 have:i=xs.length:=by omega
 subst this;rw[show dk.take xs.length=dk by rw[kl.out];exact fI] at g3;have hn:=kle.out xs.length;rw[show dk.take xs.length=dk by rw[kl.out];exact fI] at hn;generalize hN:dk.flatten.length=n at *
 rcases FT n with h0|h0
 ·subst h0;have gn:=aiq h';have oX:dk.flatten=[]:=List.eq_nil_of_length_eq_zero hN;refine bI @AL ?_;refine cE (λm e H1=>∃i:Nat,i<=xs.length/\m=xs.length - i/\e.get 25=.list k 1 M/\e.get 26=.v (.int .i64 (xs.length:Nat))/\e.get 27=.v (.int .i64 i)/\e.get 6=.list .nil 0 []/\e.defers=[]/\H1=h') ?_ xs.length _ _ ?_;rotate_left 1
  ·refine⟨0,cG _,rfl,?_,?_,?_,?_,?_,rfl⟩<;>(first|assumption|(simp only[gW,reduceIte,aZ,aQ,nh]<;>rfl))
  clear g0 g9 g10 g11 g3 g2 hd gn;rintro m e H1 ⟨i,hi,rfl,g25,g26,g27,g6,hd,rfl⟩;by_cases aB:i<xs.length
  ·obtain⟨x,hx⟩:∃x,xs[i]?=aa x:=⟨_,aT aB⟩;obtain⟨rs,jz⟩:∃rs,dk[i]?=aa rs:=⟨_,aT (by have:=kl.out;omega)⟩;have s1:=kS.out i x rs hx jz;have Pj:rs=[]:=by
    have:=dn jz;cases rs with|nil=>rfl|cons a l=>exact absurd (Mu.2 ⟨_,this,gj⟩) (by rw[oX];exact uM)
   subst Pj;have an:=adD s1;have vk:=kr.out i x hx;have BW:(i:Int)<(M.length:Int):=(by omega);have ld:aI aq Gt H1 28 (.elem 1 M i 0)=aa x:=(by rw[rm aE vk];rfl);clear s1;refine bV @AL @a9 ?_;exact⟨xs.length - (i+1),by omega,i+1,by omega,rfl,by trivial,by trivial,by simp,by trivial,by trivial,by trivial⟩
  ·have:i=xs.length:=(by omega);subst this;refine bI @AL ?_;exact⟨_,_,rfl,_,rfl,Ext.refl _,by(try rw[oX]);exact dQ.list (λr hr=>by cases hr) (λq=>absurd rfl q)⟩
 ·have gn:=aip n h0 hn h';refine bI @AL ?_;rw[QM];have yC:∀(i:Nat) rs,dk[i]?=aa rs->∀r∈rs,r.length=1:=λi rs hi=>by obtain⟨x,hx⟩:∃x,xs[i]?=aa x:=⟨_,aT (by rw[kl.out];exact(aV.1 hi).1)⟩;exact(kS.out i x rs hx hi).1
  have jj:∀i,∀r∈(dk.take i).flatten,r.length=1:=λi r hr=>by obtain⟨rs,h1,h2⟩:=Mu.1 hr;obtain⟨j,hj⟩:=List.mem_iff_getElem?.1 (oO h1);exact yC j rs hj r h2
  have nw:∀i,(dk.take i).flatten.flatten.length=(dk.take i).flatten.length:=λi=>by rw[nq (jj i),oo]
  have GR:∀i,(dk.take i).flatten.length<=n:=λi=>by
   rw[<-hN]
   conv=>rhs;rw[<-xR i dk,qM,dE]
   omega
  have kfl:=al.mk nw;have kmo:=al.mk GR;have kr2:=al.mk jj;clear yC nw GR jj gn;refine cE (λm e H1=>∃i:Nat,i<=xs.length/\m=xs.length - i/\e.get 25=.list k 1 M/\e.get 26=.v (.int .i64 (xs.length:Nat))/\e.get 27=.v (.int .i64 i)/\e.get 6=.arr h'.boxes.length 0 (dk.take i).flatten.length n/\e.defers=[]/\H1.boxes[h'.boxes.length]?=aa ((dk.take i).flatten.flatten++bg (n - (dk.take i).flatten.length) (cq 0))/\Ext h' H1) ?_ xs.length _ _ ?_;rotate_left 1
  ·refine⟨0,cG _,rfl,?_,?_,?_,?_,?_,?_,Ext.push _ _⟩<;>(first|assumption|exact bh _ _|(simp only[gW,reduceIte,aZ,aQ,nh]<;>rfl))
  clear g0 g9 g10 g11 g3 g2 hd;rintro m e H1 ⟨i,hi,rfl,g25,g26,g27,g6,hd,hB,hX⟩;by_cases aB:i<xs.length
  ·obtain⟨x,hx⟩:∃x,xs[i]?=aa x:=⟨_,aT aB⟩;obtain⟨rs,jz⟩:∃rs,dk[i]?=aa rs:=⟨_,aT (by have:=kl.out;omega)⟩;have s1:=(kS.out i x rs hx jz).ext hX;have q:=kst.out i rs jz;have m1:=kmo.out (i+1);have f0:=kfl.out i;have As:(dk.take (i+1)).flatten.length=(dk.take i).flatten.length+rs.length:=(by rw[q,dE]);rw[As] at m1;have Pk:rs.flatten.length=rs.length:=(by rw[nq s1.1,oo]);have ap:=ac5 s1 hB m1 (by rw[dE,mB,f0];omega);have lH:eT ((dk.take i).flatten.flatten++bg (n - (dk.take i).flatten.length) (cq 0)) (dk.take i).flatten.length rs.flatten=(dk.take (i+1)).flatten.flatten++bg (n - (dk.take (i+1)).flatten.length) (cq 0):=(by unfold eT;rw[List.take_left' f0,List.drop_append,List.drop_of_length_le (by rw[f0];omega),mC,f0,List.drop_replicate,q,qM,dE,Pk];congr 2;omega);rw[lH] at ap;have vk:=kr.out i x hx;have BW:(i:Int)<(M.length:Int):=(by omega);have ld:aI aq Gt H1 28 (.elem 1 M i 0)=aa x:=(by rw[rm aE vk];rfl);have kX:=al.mk hX;have nx:=(aV.1 hB).1;have ks:=al.mk As;clear s1 hX hB lH q f0 As;refine bV @AL @a9 ?_;refine⟨xs.length - (i+1),by omega,i+1,by omega,rfl,by trivial,by trivial,by simp,by rw[ks.out],by trivial,?_,kX.out.gh (aM _) _⟩;exact eP nx
  ·have:i=xs.length:=(by omega);subst this;have ht:dk.take xs.length=dk:=(by rw[kl.out];exact fI);have f0:=kfl.out xs.length;have jj:=kr2.out xs.length;rw[ht] at hB g6 f0 jj;rw[hN] at hB g6;rw[tU,ach,jX] at hB;have kB:=al.mk hB;have kX:=al.mk hX;clear hB hX;refine bI @AL ?_;exact⟨_,_,rfl,_,rfl,kX.out,dQ.box jj hN.symm kB.out⟩
def ZP:Tryz.f158.results.toList=[.tmp 4]:=aw
def AH:Tryz.f109.results.toList=[.tmp 2]:=aw
def TX:DA aq 23 (.list .nil 0 [])=aa (.v (.int .i64 0)):=aw
def aar:gY aq 23 (.list .nil 0 []) ar (aa (.v (.int .i64 0))) ar=aa (.list .nil 0 []):=aw
def Eo:∃i,aq.info? 3=aa i/\i.size=1/\i.bytes<=8/\(i.zero.map λz=>z.cells.size)=aa 1:=by
 have h:(match aq.info? 3 with|some i=>jG i.size 1&&MD i.bytes 8&&decide ((i.zero.map λz=>z.cells.size)=aa 1)|none=>az)=ai:=aw;split at h
 ·rename_i i hi;simp only[bL,decide_eq_true_eq] at h;exact⟨i,hi,jP h.1.1,jZ h.1.2,h.2⟩
 ·cases h
def zr3:(jf aq 3).bind AV.cD=aa [im 0]:=aw
def adY{H}{n}(h0:0<n)(hn:n<=1099511627776):gP aq H #[23,3] (.list .nil 0 []) (.v (.int .i64 (n:Nat)))=aa (.arr H.boxes.length 0 n n,H.push (bg n [im 0]).flatten):=by obtain⟨i,h1,h2,h3,h4⟩:=Eo;have:=p7 hn h3;exact Tp dN sV h1 zr3 h0 ah ah ah h2.symm
def adt:gU aq 23=aa az:=aw
def iW:dC aq 23=aa 1:=aw
def ac4{H}{b len aC}{cs}{new}{x}(s:dQ 1 H x new)(hb:H.boxes[b]?=aa cs)(h2:len+new.length<=aC)(h3:aC<=cs.length):
 gP aq H #[23,23] (.arr b 0 len aC) x=aa (.arr b 0 (len+new.length) aC,H.put b (eT cs len new.flatten)):=by
 obtain⟨i,h1,q2,-,h4⟩:=Eo;have:=Tn (off:=0) dN dN h1 ah (by rw[q2];exact h4) (by rw[q2];exact s.news) hb h2 (by rw[q2];omega)
 rwa [q2,oo,po] at this
def adC{H}{x}(s:dQ 1 H x []):gP aq H #[23,23] (.list .nil 0 []) x=aa (.list .nil 0 [],H):=by
 obtain⟨i,h1,q2,-,h4⟩:=Eo;have hx:mM H i.size x=aa []:=by rw[q2];exact s.news
 unfold gP;simp only[jt,jO,pj,pq,dN,h1,hx];rw[aG ⟨ah,by rw[q2];exact h4⟩];simp
def aqi:Tryz.f145.results.toList=[.cell 4 177]:=aw
def UD(l)(h):nm aq h 9 28 (.v (.string (bs l)))=aa (.list (.free h.tn) 1 (bf l),h.app .nil):=by have h1:aq.underlying 9=aa .string:=Dm;have h2:aq.underlying 28=aa (.slice 5):=jv;have h3:aq.underlying 5=aa (.int .u8):=Tryz.underlying5;obtain⟨i,q1,q2,-⟩:=Cj;unfold nm;simp only[h1,h2,h3,q1,q2,if_true];simp[bs,ao.fresh,ao.app]
def aeC(x y)(hx:x.ek=ai)(hy:y.ek=ai):fX aq 233 2 [(0,x),(1,y)]=aa (.list .tight 1 [[x],[y]]):=by cases x<;>first|(cases hx;done)|(cases y<;>first|(cases hy;done)|kernel_rfl)
def dQ.cell{sz}{h}{x}{ae}(s:dQ sz h x ae):x.ek=ai:=by rcases s.2 with⟨k,s',rfl,-⟩|⟨b,off,aC,cs,rfl,-⟩<;>rfl
def tJ(b):(eV b).length=32:=by unfold eV;rw[Cu,uT _ _ _ rfl]
def aao(M):gY aq 177 (.ptr (.box M) 0) ar ar ar=aa (.arr M 0 32 32):=aw
def atp(bu b:List UInt8)(x:AV)(h:ao)(s:dQ 1 h x (bf b))(hb:b.length<=1099511620000)(ht:bu.length<=1099511620000):
 ∃h',W.call 145 [.v (.string (bs bu)),x] h=aa (.ret (.agg (b7 (gi bu b))),h')/\Ext h h':=by
 have z177:=Fi;have x0:Ext h ((h.push (bg 32 (cq 0))).app .nil):=(Ext.push _ _).trans (Ext.app (Ext.refl _) (.inl rfl));have e0:((h.push (bg 32 (cq 0))).app .nil).boxes=(h.push (bg 32 (cq 0))).boxes:=eL _ _;obtain⟨H2,c2,x2⟩:=aah bu (.list (.free (h.push (bg 32 (cq 0))).tn) 1 (bf bu)) ((h.push (bg 32 (cq 0))).app .nil) (dQ.list (zL _) λ_=>rfl) ah;have d0:H2.boxes[h.boxes.length]?=aa (bg 32 (cq 0)):=x2.box _ _ (by rw[e0];exact bh _ _);have tl:(b7 (eV bu)).length=32:=by rw[ma,tJ]
 have st1:cI aq (H2.push (bg 32 (cq 0))) 177 (.ptr (.box H2.boxes.length) 0) (.agg (b7 (eV bu)))=aa (H2.push (b7 (eV bu))):=l9 (zd _) qH tl rfl;have sx:dQ 1 (H2.push (b7 (eV bu))) x (bf b):=((s.ext x0).ext x2).ext (Ext.push _ _);have sy:dQ 1 (H2.push (b7 (eV bu))) (.arr H2.boxes.length 0 32 32) (bf (eV bu)):=dQ.box (zL _) (by rw[bE,tJ]) (by rw[IA];exact bh _ _);obtain⟨r3,H3,c3,y,rfl,x3,s3⟩:=agh .tight [.arr H2.boxes.length 0 32 32,x] [bf (eV bu),bf b] rfl (H2.push (b7 (eV bu))) (λi z rs hz jz=>by
  rcases i with _|_|i
  ·injection hz with hz;injection jz with jz;subst hz;subst jz;exact sy
  ·injection hz with hz;injection jz with jz;subst hz;subst jz;exact sx
  ·cases hz) (by simp[tJ];omega) bH
 have ef:[bf (eV bu),bf b].flatten=bf (eV bu++b):=by simp[bf]
 rw[ef] at s3;have bl:=aeC _ x (dQ.cell sy) (dQ.cell sx);obtain⟨H4,c4,x4⟩:=aah (eV bu++b) y H3 s3 (by rw[dE,tJ];omega);have hX:Ext H2 H4:=(Ext.push _ _).trans (x3.trans x4);have d4:H4.boxes[h.boxes.length]?=aa (bg 32 (cq 0)):=hX.box _ _ d0;have tl2:(b7 (gi bu b)).length=32:=by rw[ma];exact tJ _
 have st2:cI aq H4 177 (.ptr (.box h.boxes.length) 0) (.agg (b7 (gi bu b)))=aa (H4.put h.boxes.length (b7 (gi bu b))):=by rw[ig (zd _) qH d4 tl2 bH,xz (by rw[tl2];simp)]
 have ld2:aI aq Gt (H4.put h.boxes.length (b7 (gi bu b))) 177 (.ptr (.box h.boxes.length) 0)=aa (.agg (b7 (gi bu b))):=by rw[iC Dn qH (eP (aV.1 d4).1) (by rw[tl2];exact aM _),iX,gO (by rw[tl2];exact aM _)]
 replace c4:W.call 181 [y] H3=aa (.ret (.agg (b7 (gi bu b))),H4):=c4;have kX:=al.mk (((x0.trans x2).trans hX).gh (aM _) (b7 (gi bu b)));simp only[eK,uK] at c3;clear s sx sy s3 x0 e0 x2 x3 x4 hX d0 d4 ef tl tl2;refine iu rfl Tryz.func145 rfl ?_;refine cR @aqi @UD @aao ?_;exact⟨_,rfl,kX.out⟩
def Rf:Tryz.f78.results.toList=[.tmp 4]:=aw
def Hq{b n}{k}(hn:n<32):dG aq 177 (.ptr (.box b) 0) (.v (.int k (n:Nat)))=aa (.ptr (.box b) n):=by have h1:aq.underlying 177=aa (.array 32 5):=Tryz.underlying177;unfold dG;simp only[h1,sO];rw[aG ⟨ah,by omega⟩];simp
def Ks{H}{b i}{l}(hb:H.boxes[b]?=aa (b7 l))(hi:i<l.length):aI aq Gt H 5 (.ptr (.box b) i)=aa (cq (dz l i)):=by rw[mw Jc hb,IX,ev,aT hi];unfold dz;rw[dS,aT hi];rfl
def Nz(n)(h):nm aq h 5 3 (.v (.int .u8 n))=aa (.v (.int .i64 (IntKind.i64.wrap n)),h):=aw
def S8(b):∀i,i<=b.length->jw b i=(b.take i).foldl (λn c=>n * 256+c.toNat) 0
 |0,_=>rfl
 |i+1,hi=>by
  rw[jw,S8 b i ah];have:b[i]?=aa (dz b i):=by unfold dz;rw[dS,aT ah];rfl
  rw[fW this,oM];rfl
def mask(b:List UInt8):List UInt8:=b.set 0 (dz b 0&&&127)
def KA{b}{i}(hb:0<b.length):dz (mask b) i=if i=0 then dz b 0&&&127 else dz b i:=by
 unfold mask dz;rw[dS,mA];split
 ·rename_i h;subst h;simp[hb]
 ·rename_i h;rw[aH (λq=>h q.symm),dS]
def MX(c:UInt8):(c&&&127).toNat=c.toNat%128:=by rw[UInt8.toNat_and];exact acr c.toNat 7
def P2{b}(hb:0<b.length):∀i,jw (mask b) (i+1)=jw b (i+1)%(128 * 256^i)
 |0=>by show 0 * 256+(dz (mask b) 0).toNat=(0 * 256+(dz b 0).toNat)%128;rw[KA hb,aG rfl,MX];omega
 |i+1=>by
  rw[jw,P2 hb i,KA hb,aH ah,jw.eq_2 b (i+1)];have:=uC (dz b (i+1));generalize jw b (i+1)=A at *
  generalize (dz b (i+1)).toNat=r at *
  rw[A8,<-Nat.mul_assoc];have hM:0<128 * 256^i:=MI aO (MK aO);generalize 128 * 256^i=M at *
  have h1:=mV A hM;have h2:=Nat.div_add_mod A M;have h3:A * 256+r=M * 256 * (A/M)+(A%M * 256+r):=by rw[Nat.mul_right_comm,<-Nat.add_assoc,<-gI,h2]
  rw[h3,Nat.mul_add_mod,nI (a:=A%M * 256+r) (b:=M * 256) (by have:(A%M+1) * 256<=M * 256:=Nat.mul_le_mul_right _ h1;rw[gI] at this;omega)]
def Yf{b}(hb:0<b.length){i}(hi:i<8):jw (mask b) i<36028797018963968:=by
 cases i with
 |zero=>show 0<_;decide|succ i=>
  rw[P2 hb];have h1:=mV (jw b (i+1)) (show 0<128 * 256^i from MI aO (MK aO));have h2:256^i<=256^6:=acF aO ah;have h3:256^6=281474976710656:=by decide
  omega
def hash_eq{b}(hb:8<=b.length):jw (mask b) 8%Q=mK b:=by unfold mK;rw[P2 ah 7,S8 b 8 hb]
def arV{t}{x y}{n}(hn:n<36028797018963968):cZ aq .shl t x y (.v (.int .i64 (n:Nat))) (.v (.int .u64 8))=aa (.v (.int .i64 ((n * 256:Nat):Int))):=by rw[Nd aO];congr 3;show IntKind.i64.wrap (((n:Nat):Int) * 256)=_;rw[gF ah ah];omega
def ori{t}{x y}{n m}(hn:n<36028797018963968)(hm:m<256):cZ aq .or t x y (.v (.int .i64 ((n * 256:Nat):Int))) (.v (.int .i64 (m:Nat)))=aa (.v (.int .i64 ((n * 256+m:Nat):Int))):=by
 rw[Nc];congr 3;have e1:BitVec.ofInt IntKind.i64.bits ((n * 256:Nat):Int)=BitVec.ofNat 64 (n * 256):=by apply BitVec.eq_of_toNat_eq;show(BitVec.ofInt 64 ((n * 256:Nat):Int)).toNat=(BitVec.ofNat 64 (n * 256)).toNat;rw[BitVec.toNat_ofInt,BitVec.toNat_ofNat];omega
 have e2:BitVec.ofInt IntKind.i64.bits ((m:Nat):Int)=BitVec.ofNat 64 m:=by apply BitVec.eq_of_toNat_eq;show(BitVec.ofInt 64 ((m:Nat):Int)).toNat=(BitVec.ofNat 64 m).toNat;rw[BitVec.toNat_ofInt,BitVec.toNat_ofNat];omega
 have e3:(BitVec.ofNat 64 (n * 256)|||BitVec.ofNat 64 m).toNat=n * 256+m:=by
  rw[BitVec.toNat_or,BitVec.toNat_ofNat,BitVec.toNat_ofNat,nI (ah:n * 256<2^64),nI (ah:m<2^64)];have h1:n<<<8=n * 256:=by rw[A9]
  rw[<-h1,<-ML (ah:m<2^8)]
 have e4:(BitVec.ofInt IntKind.i64.bits ((n * 256:Nat):Int)|||BitVec.ofInt IntKind.i64.bits ((m:Nat):Int)).toNat=n * 256+m:=by rw[e1,e2];exact e3
 rw[e4,gF ah ah]
def adE{t}{x y}(c):cZ aq .and t x y (cq c) (.v (.int .u8 127))=aa (cq (c&&&127)):=by
 unfold cq;rw[sX];congr 3;have hc:=uC c;have e1:BitVec.ofInt IntKind.u8.bits ((c.toNat:Nat):Int)=BitVec.ofNat 8 c.toNat:=by apply BitVec.eq_of_toNat_eq;show(BitVec.ofInt 8 ((c.toNat:Nat):Int)).toNat=(BitVec.ofNat 8 c.toNat).toNat;rw[BitVec.toNat_ofInt,BitVec.toNat_ofNat];omega
 have e3:(BitVec.ofInt IntKind.u8.bits ((c.toNat:Nat):Int)&&&BitVec.ofInt IntKind.u8.bits 127).toNat=c.toNat%128:=by rw[e1];show(BitVec.ofNat 8 c.toNat&&&127#8).toNat=_;rw[BitVec.toNat_and,BitVec.toNat_ofNat,nI (ah:c.toNat<2^8)];exact acr c.toNat 7
 rw[e3,NM ah ah,MX]
def alr(l):(b7 l).set 0 (cq (dz l 0&&&127))=b7 (mask l):=by unfold mask b7;rw[List.map_set]
def aic(bu b:List UInt8)(x:AV)(h:ao)(s:dQ 1 h x (bf b))(hb:b.length<=1099511620000)(ht:bu.length<=1099511620000):
 ∃h',W.call 78 [.v (.string (bs bu)),x] h=aa (.ret (im (mK (gi bu b):Nat)),h')/\Ext h h':=by
 obtain⟨H1,c1,x1⟩:=atp bu b x h s hb ht;have hl:(gi bu b).length=32:=tJ _;have dF:(b7 (gi bu b)).length=32:=by rw[ma,hl]
 have he:=hash_eq (b:=gi bu b) ah;generalize gi bu b=d at *
 have bD:0<d.length:=by omega
 have z177:=Fi;have st1:cI aq (H1.push (bg 32 (cq 0))) 177 (.ptr (.box H1.boxes.length) 0) (.agg (b7 d))=aa (H1.push (b7 d)):=l9 (zd _) qH dF rfl;have ix0:dG aq 177 (.ptr (.box H1.boxes.length) 0) (.v (.int .i64 0))=aa (.ptr (.box H1.boxes.length) 0):=Hq (n:=0) aO;have l0:aI aq Gt (H1.push (b7 d)) 5 (.ptr (.box H1.boxes.length) 0)=aa (cq (dz d 0)):=Ks (bh _ _) bD;have st2:cI aq (H1.push (b7 d)) 5 (.ptr (.box H1.boxes.length) 0) (cq (dz d 0&&&127))=aa (H1.push (b7 (mask d))):=by rw[LG (bh _ _) (by rw[dF];decide),alr,pg]
 have nh:(mask d).length=32:=by unfold mask;rw[mS,hl]
 have hX:=al.mk (x1.trans (Ext.push H1 (b7 (mask d))));have hB:=bh H1 (b7 (mask d));have aB:=λi hi=>Yf bD (i:=i) hi;have kB:=al.mk hB;have klt:=al.mk aB;have ke:=al.mk he;have kml:=al.mk nh;clear s dF hl hB aB he nh x1 bD;unfold im;refine iu rfl Tryz.func78 rfl ?_;refine bV @Rf @adE ?_;refine cE (λm e H=>∃i:Nat,i<=8/\m=8 - i/\e.get 5=.ptr (.box H1.boxes.length) 0/\e.get 14=.v (.int .i64 i)/\e.get 4=.v (.int .i64 (jw (mask d) i:Nat))/\e.defers=[]/\H=H1.push (b7 (mask d))) ?_ 8 _ _ ?_;rotate_left 1
 ·refine⟨0,by decide,rfl,?_,?_,?_,?_,rfl⟩<;>(first|assumption|(exact gR))
 clear z177 st1 ix0 l0 st2 c1;rintro m e H ⟨i,hi,rfl,g5,g14,g4,hd,rfl⟩;by_cases h8:i=8
 ·subst h8;have e1:(((jw (mask d) 8:Nat):Int)).tmod 1073741789=((mK d:Nat):Int):=by rw[<-ke.out];exact oH _ _
  generalize jw (mask d) 8=A at *
  refine bI @Rf ?_;exact⟨_,rfl,hX.out⟩
 ·have aB:i<8:=by omega
  have a1:=klt.out i aB;have u1:=uC (dz (mask d) i);have ix:=Hq (b:=H1.boxes.length) (n:=i) (k:=.i64) ah;have ld:aI aq Gt (H1.push (b7 (mask d))) 5 (.ptr (.box H1.boxes.length) i)=aa (.v (.int .u8 ((dz (mask d) i).toNat:Nat))):=Ks kB.out (by have:=kml.out;omega);have ew:IntKind.i64.wrap (((dz (mask d) i).toNat:Nat):Int)=(((dz (mask d) i).toNat:Nat):Int):=gF ah ah;have s1:=λt x y=>arV (t:=t) (x:=x) (y:=y) a1;have s2:=λt x y=>ori (t:=t) (x:=x) (y:=y) a1 u1;have kstep:=al.mk (show jw (mask d) (i+1)=jw (mask d) i * 256+(dz (mask d) i).toNat from rfl);generalize jw (mask d) i=A at *
  generalize (dz (mask d) i).toNat=r at *
  refine bV @Rf @Nz ?_;exact⟨8 - (i+1),by omega,i+1,by omega,rfl,by trivial,rfl,by rw[kstep.out],by trivial,by trivial⟩
end Go.Proofs.YtnfciiiohoafaaaGreatDoor
end
section
namespace Go.AE
structure Grown(n0:Nat)(h h':ao)(t:Tok):Prop where
 box:∀(b:Nat) (cs:List AV),h.boxes[b]?=aa cs->h'.boxes[b]?=aa cs
 loop:∀(l:Nat) (r:iN),h.loops[l]?=aa r->h'.loops[l]?=aa r
 can:dD n0 h' t
 ok:cO h'=ai
 tn:h.tn<=h'.tn
 dead:∀n,n<n0->n∈h'.dead->n∈h.dead
section
variable {n0:Nat} {h0 h h' h2:ao} {t k:Tok}
def Grown.refl(hk:dD n0 h k)(ho:cO h=ai):Grown n0 h h k:=⟨λ_ _ q=>q,λ_ _ q=>q,hk,ho,aM _,λ_ _ q=>q⟩
def Grown.trans(g:Grown n0 h h' t)(g2:Grown n0 h' h2 k):Grown n0 h h2 k:=
 ⟨λb cs q=>g2.box b cs (g.box b cs q),λb cs q=>g2.loop b cs (g.loop b cs q),g2.can,g2.ok,fJ g.tn g2.tn,λn hn q=>g.dead n hn (g2.dead n hn q)⟩
def Grown.ext(g:Grown n0 h h' t)(x:Ext h0 h)(hn:h0.tn<=n0):Ext h0 h':=
 ⟨λb cs hb=>g.box b cs (x.box b cs hb),λl r hl=>g.loop l r (x.loop l r hl),fJ x.tn g.tn,λn q hd=>x.dead n q (g.dead n (mU q hn) hd),λ_=>g.ok⟩
def Dq(ho:cO h=ai)(hk:dD n0 h k):cO (h.app k)=ai:=by
 unfold cO at *
 rw[ej] at *
 intro n hn;rcases hk with rfl|rfl|⟨m,rfl,-,ha⟩
 ·exact cz (vZ (of_decide_eq_true (ho n hn)))
 ·exact cz (vZ (of_decide_eq_true (ho n hn)))
 ·rcases iq.1 hn with rfl|q
  ·exact cz (vZ (uQ ha))
  ·exact cz (vZ (of_decide_eq_true (ho n q)))
def Grown.one(hk:dD n0 h k)(ho:cO h=ai)(hn:n0<=h.tn):Grown n0 h (h.app k) (.free h.tn):=by
 refine⟨λb cs q=>by rw[eL];exact q,λb cs q=>by rw[zJ];exact q,hk.next ho hn,Dq ho hk,by rw[Dr];omega,λn q hd=>?_⟩;rcases hk with rfl|rfl|⟨m,rfl,hm,ha⟩
 ·exact hd
 ·exact hd
 ·rcases iq.1 hd with rfl|hd
  ·omega
  ·exact hd
def Grown.push(g:Grown n0 h h' t)(cs:List AV):Grown n0 h (h'.push cs) t:=⟨λb cs q=>bA (g.box b cs q),g.loop,g.can,g.ok,g.tn,g.dead⟩
def Grown.app(g:Grown n0 h h' t)(hn:n0<=h.tn):Grown n0 h (h'.app t) (.free h'.tn):=g.trans (Grown.one g.can g.ok (fJ hn g.tn))
variable {P:bK} {t0 t1 elem:aK} {i:TypeInfo} {sz:Nat} {es new:List (List AV)} {x:AV}
def F8(h0:P.underlying t0=aa (.slice elem))(h1:(∃e,P.underlying t1=aa (.slice e))∨P.underlying t1=aa .string)(hi:P.info? elem=aa i)(dm:0<i.size)(hz:(i.zero.map λz=>z.cells.size)=aa i.size)
 (hx:mM h i.size x=aa new) (lT:new≠[]) (hb:(es.length+new.length) * i.bytes<=140737488355328) (hl:es.length+new.length<=9223372036854775807) (hs:sz=i.size∨(es=[]/\k=.nil)) (hk:dD n0 h k):
 gP P h #[t0,t1] (.list k sz es) x=aa (.list (.free h.tn) i.size (es++new),h.app k):=by
 unfold gP;rcases h1 with⟨e,h1⟩|h1
 all_goals
  simp only[jt,jO,pj,pq,h0,h1,hi,hx];rw[aG ⟨dm,hz⟩,aG (hs.imp_right λq=>q.1),aH lT,aG ⟨hb,hl⟩];rcases hk with rfl|rfl|⟨m,rfl,-,ha⟩
  ·rfl
  ·rfl
  ·have hs:sz=i.size:=by
    rcases hs with hs|⟨-,hs⟩
    ·exact hs
    ·cases hs
   simp only[ha,hs,decide_true,Bool.and_self,if_true];rfl
def To(h0:P.underlying t0=aa (.slice elem))(h1:(∃e,P.underlying t1=aa (.slice e))∨P.underlying t1=aa .string)(hi:P.info? elem=aa i)(dm:0<i.size)(hz:(i.zero.map λz=>z.cells.size)=aa i.size)
 (hx:mM h i.size x=aa []) (hs:sz=i.size∨es=[]):gP P h #[t0,t1] (.list k sz es) x=aa (.list k sz es,h):=by
 unfold gP;rcases h1 with⟨e,h1⟩|h1
 ·simp only[jt,jO,pj,pq,h0,h1,hi,hx];rw[aG ⟨dm,hz⟩,aG hs,aG trivial]
 ·simp only[jt,jO,pj,pq,h0,h1,hi,hx];rw[aG ⟨dm,hz⟩,aG hs,aG trivial]
end
end Go.AE
end
section
namespace Go.AE
open Go.RowKit (Below)
mutual
def jM(h:ao):AV->AV
 | .list k sz es=>.list (cd k) sz es
 | .arr b off len _=>match h.boxes[b]? with
  |some cs=>if off+len<=cs.length then .list .held 1 (((cs.drop off).take len).map λc=>[c]) else .bad
  |none=>.bad
 | .tuple cs=>.tuple (tE h cs)
 | .agg cs=>.agg (tE h cs)
 |x=>x
def tE(h:ao):List AV->List AV
 | []=>[]
 |x::r=>jM h x::tE h r
end
def Ez(R:Rec)(g:bm)(args:List AV):Option AV:=
 if aW 0 0 0 (cr args)=ai then
  match R.call g (cr args) ⟨[],[],0,[]⟩ with
  |some (.ret y,h2)=>if aL 0 0 0 (jM h2 y)=ai then aa (jM h2 y) else ar
  |_=>ar
 else ar
def Dw(R:Rec)(g:bm)(args:List AV)(h:ao):Option (AV × ao):=(Ez R g args).map (·,h)
def Fb:∀l:List AV,(l.map λc=>[c]).flatten=l
 | []=>rfl
 |x::l=>by rw[eK,oL,Fb l];rfl
section
variable {P:bK} {G:Nat->Option (List AV)} {ok:bm->Nat->Code->Bool} {w0 w w':World} {K K1 K2:aY} {h h2:ao}
mutual
def a8.mI(jB:∀g j c,K1.ic g j=aa c->K2.ic g j=aa c):∀{x:AV} {c:aR},a8 K1 x c->aL 0 0 0 x=ai->a8 K2 x c
 |_,_,.bad c,_=>.bad c
 |_,_,.v x hx,_=>.v x hx
 |_,_,.nil sz,_=>.nil sz
 |_,_,.js sz a,_=>.js sz a
 |_,_,.list k sz es g off m aC cells hn hr hv hc ht ha,h=>by
  rw[aL,bL] at h;refine .list k sz es g off m aC cells hn hr (aS.mI jB hv (by rw[s8];exact h.2)) (λj c hj=>jB _ _ _ (hc j c hj)) ⟨ht.1,?_⟩ ha;have h1:=h.1;have h2:=ht.2;cases k with|free i=>simp[rG] at h1|_=>exact h2
 |_,_,.arr _ _ _ _ _ _ _ _ _ _ _ _,h=>by simp[aL] at h
 |_,_,.agg cs vs hv,h=>.agg cs vs (aS.mI jB hv (by rw[aL] at h;exact h))
 |_,_,.tuple cs vs hv,h=>.tuple cs vs (aS.mI jB hv (by rw[aL] at h;exact h))
 |_,_,.box _ _ _ _,h=>by simp[aL] at h
 |_,_,.eR g off,_=>.eR g off
 |_,_,.elem sz es i off g o p cells hr hv hc hi hp ha,h=>.elem sz es i off g o p cells hr (aS.mI jB hv (by rw[s8];rw[aL] at h;exact h)) (λj c hj=>jB _ _ _ (hc j c hj)) hi hp ha
 |_,_,.func fn first aC fs cs h1 h2,h=>.func fn first aC fs cs (aS.mI jB h1 (by rw[aL,bL] at h;exact h.1)) (aS.mI jB h2 (by rw[aL,bL] at h;exact h.2))
 |_,_,.yield _ _ _,h=>by simp[aL] at h
 |_,_,.iface t x c hx,h=>.iface t x c (a8.mI jB hx (by rw[aL] at h;exact h))
def aS.mI(jB:∀g j c,K1.ic g j=aa c->K2.ic g j=aa c):∀{xs:List AV} {cs:List aR},aS K1 xs cs->aW 0 0 0 xs=ai->aS K2 xs cs
 |_,_,.nil,_=>.nil
 |_,_,.cons x c xs cs hx hs,h=>.cons x c xs cs (a8.mI jB hx (by rw[aW,bL] at h;exact h.1)) (aS.mI jB hs (by rw[aW,bL] at h;exact h.2))
end
mutual
def a8.En(s1:bW K1 G ok w h2 w')(jB:∀g j c,K1.ic g j=aa c->K2.ic g j=aa c)(lT:∀g j c,K1.base<=g->w'.cell? ⟨g,j,ar⟩=aa c->K2.ic g j=aa c):
 ∀{x:AV} {c:aR},a8 K1 x c->aL 0 0 0 (jM h2 x)=ai->a8 K2 (jM h2 x) c
 |_,_,.bad c,_=>.bad c
 |_,_,.v x hx,_=>.v x hx
 |_,_,.nil sz,_=>.nil sz
 |_,_,.js sz a,_=>.js sz a
 |_,_,.list k sz es g off m aC cells hn hr hv hc ht ha,h=>by
  have hf:gL 0 0 0 es=ai:=by simp only[jM,aL,bL] at h;exact h.2
  have nA:aS K2 es.flatten cells:=aS.mI jB hv (by rw[s8];exact hf);cases k with|nil=>exact ht.2.elim|tight=>exact .list .tight sz es g off m aC cells hn hr nA (λj c hj=>jB _ _ _ (hc j c hj)) ⟨ht.1,ht.2⟩ ha|free i=>exact .list .held sz es g off m aC cells hn hr nA (λj c hj=>jB _ _ _ (hc j c hj)) ⟨ht.1,aX⟩ ha|held=>exact .list .held sz es g off m aC cells hn hr nA (λj c hj=>jB _ _ _ (hc j c hj)) ⟨ht.1,aX⟩ ha
 |_,_,.arr b g off len aC fC iH hb hl oU ho hr,h=>by
  simp only[jM] at h ⊢;cases cC:h2.boxes[b]? with
  |none=>exact .bad _|some cs=>
   rw[cC] at h;simp only at h ⊢;split at h
   ·rename_i eI;rw[aG eI];have hf:gL 0 0 0 (((cs.drop off).take len).map λc=>[c])=ai:=(by simp only[aL,bL] at h;exact h.2);obtain⟨q1,q2,q3,cells,e,q4,q5⟩:=s1.box b g cs hb cC;have ajv:=q5.le;by_cases h0:aC=0
    ·have:len=0:=(by omega);subst this;exact .list .held 1 [] g fC 0 iH [] rfl (λ_ h=>by cases h) .nil (λ_ _ h=>by simp at h) ⟨cG _,aX⟩ rfl
    ·have Ao:fC=off:=by rcases ho with p|p<;>omega
     subst Ao;have hv:aS K1 ((cs.drop fC).take len) (((cells.toList.take cs.length).drop fC).take len):=(q5.1.drop fC).take len;have bZ:((cs.drop fC).take len).length=len:=(by rw[fj,hD];omega);refine .list .held 1 _ g fC len iH (((cells.toList.take cs.length).drop fC).take len) (by rw[bE,bZ]) (λr hr=>?_) ?_ (λj c hj=>?_) ⟨ah,aX⟩ ?_
     ·obtain⟨c,-,rfl⟩:=ju.1 hr;rfl
     ·rw[Fb];rw[<-s8,Fb] at hf;exact aS.mI jB hv hf
     ·refine lT _ _ _ q1 ?_;have lF:j<len:=(by have:=(aV.1 hj).1;rw[fj] at this;omega);rw[oh,aG lF,oN,oh,aG ah] at hj;rw[rW q4];simpa using hj
     ·rw[Fb];rw[ej] at q3 ⊢;exactλx hx=>q3 x (List.mem_of_mem_drop (oO hx))
   ·rename_i eI;rw[aH eI];exact .bad _
 |_,_,.agg cs vs hv,h=>.agg _ vs (aS.En s1 jB lT hv (by simpa only[jM,aL] using h))
 |_,_,.tuple cs vs hv,h=>.tuple _ vs (aS.En s1 jB lT hv (by simpa only[jM,aL] using h))
 |_,_,.box b g off hb,h=>by simp[jM,aL] at h
 |_,_,.eR g off,_=>.eR g off
 |_,_,.elem sz es i off g o p cells hr hv hc hi hp ha,h=>.elem sz es i off g o p cells hr (aS.mI jB hv (by rw[s8];simpa only[jM,aL] using h)) (λj c hj=>jB _ _ _ (hc j c hj)) hi hp ha
 |_,_,.func fn first aC fs cs h1 h2,h=>by simp only[jM,aL,bL] at h;exact .func fn first aC fs cs (aS.mI jB h1 h.1) (aS.mI jB h2 h.2)
 |_,_,.yield l g hl,h=>by simp[jM,aL] at h
 |_,_,.iface t x c hx,h=>by simp only[jM,aL] at h;exact .iface t x c (a8.mI jB hx h)
def aS.En(s1:bW K1 G ok w h2 w')(jB:∀g j c,K1.ic g j=aa c->K2.ic g j=aa c)(lT:∀g j c,K1.base<=g->w'.cell? ⟨g,j,ar⟩=aa c->K2.ic g j=aa c):
 ∀{xs:List AV} {cs:List aR},aS K1 xs cs->aW 0 0 0 (tE h2 xs)=ai->aS K2 (tE h2 xs) cs
 |_,_,.nil,_=>.nil
 |_,_,.cons x c xs cs hx hs,h=>by simp only[tE,aW,bL] at h;exact .cons _ c _ cs (a8.En s1 jB lT hx h.1) (aS.En s1 jB lT hs h.2)
end
def aY.sees(K:aY)(n:Nat)(w:World):aY:={K with ic:=λg j=>if g<n then K.ic g j else w.cell? ⟨g,j,ar⟩}
def aY.PT(s:bW K G ok w0 h w):K.Le (K.sees w.heap.size w'):=by
 refine⟨rfl,λg j c hc=>?_,λ_ _ h=>h,λ_ _ h=>h,aM _,λ_ _=>rfl,λ_ h=>h,λ_ _=>rfl,λg j c hc=>?_⟩
 ·simp only[aY.sees,aG (s.Ay hc),hc]
 ·simp only[aY.sees] at hc;split at hc
  ·exact .inl hc
  ·exact .inr (by have:=s.size;omega)
def bW.sees(s:bW K G ok w0 h w)(b:Below w.heap.size w w'):bW (K.sees w.heap.size w') G ok w0 h w':=by
 have g:=s.grown b;have le:K.Le (K.sees w.heap.size w'):=aY.PT s;refine⟨g.dh,g.size,λg1 j c hc=>?_,λg1 cs hg=>?_,g.lL,g.pW,λb1 g1 cs hb hc=>?_,g.oa,g.qI,λl g1 r hl hr=>?_,g.tn,λt ht=>?_,g.pT,g.md,g.all⟩
 ·simp only[aY.sees] at hc;split at hc
  ·exact g.ic g1 j c hc
  ·exact hc
 ·obtain⟨cells,q1,q2⟩:=g.eR g1 cs hg;exact⟨cells,q1.mono le,λj c hj=>le.ic _ _ _ (q2 j c hj)⟩
 ·obtain⟨q1,q2,q3,cells,e,q4,q5⟩:=g.box b1 g1 cs hb hc;obtain⟨-,-,-,cells0,e0,p4,-⟩:=s.box b1 g1 cs hb hc;refine⟨q1,λj=>?_,q3,cells,e,q4,q5.mono le (aV.1 hb).1⟩;simp only[aY.sees,aG (oE p4)];exact q2 j
 ·obtain⟨q1,fn,tmps,d,q2,q3,q4⟩:=g.loop l g1 r hl hr;exact⟨q1,fn,tmps,d,q2,q3.mono le,q4⟩
 ·obtain⟨q1,q2,q3,q4⟩:=g.tok t ht;obtain⟨-,-,-,cells0,e0,z0,p4,-⟩:=s.tok t ht;refine⟨q1,q2,λj hj=>?_,q4⟩;simp only[aY.sees,aG (oE p4)];exact q3 j hj
def aY.alone(K:aY)(n:Nat):aY:={K with base:=n,β:=[],γ:=[],tn:=0,md:=[]}
def bW.alone(s:bW K G ok w0 h w)(hG:∀g cs,G g=aa cs->aW 0 0 0 cs=ai):bW (K.alone w.heap.size) G ok w ⟨[],[],0,[]⟩ w:=by
 refine⟨Below.refl _ _,aM _,s.ic,λg cs hg=>?_,rfl,λb b' g hb=>by simp[aY.alone] at hb,λb g cs hb=>by simp[aY.alone] at hb,rfl,λb b' g hb=>by simp[aY.alone] at hb,λl g r hl=>by simp[aY.alone] at hl,rfl,λt ht=>?_,λt t' ht=>?_,λr hr=>by simp[aY.alone] at hr,rfl⟩
 ·obtain⟨cells,q1,q2⟩:=s.eR g cs hg;exact⟨cells,aS.mI (K1:=K) (K2:=K.alone w.heap.size) (λ_ _ _ h=>h) q1 (hG g cs hg),q2⟩
 ·simp[alive] at ht
 ·simp[alive] at ht
def TV{aN:bm->Option (List AV->ao->Option (AV × ao))}(hp:Prog P)(hG:∀g cs,G g=aa cs->aW 0 0 0 cs=ai)(oC:∀V g p,aN g=aa p->sT P G V g p){g:bm}(hY:∃fn,P.funcs[g]?=aa fn/\fn.body.isSome=ai)(V:World):
 sT P G V g (Dw (whole P G aN) g):=by
 refine⟨hY,λargs h x h' hx K w fk hv hs cs=>?_⟩;unfold Dw Ez at hx;split at hx
 ·rename_i hf;split at hx
  ·rename_i y h2 hc;split at hx
   ·rename_i Af;simp only[eW,dM,dj] at hx;obtain⟨rfl,rfl⟩:=hx;obtain⟨-,Hg⟩:=(RW hp (oC w)).call g _ _ _ _ hc;have s0:=bW.alone hs hG;obtain⟨K1,w',fr,le,s1,ct,wP,v,qx,eI⟩:=Hg (K.alone w.heap.size) w fk (aS.mI (K1:=K) (K2:=K.alone w.heap.size) (λ_ _ _ h=>h) hv.hold hf) s0 cs;have hb:Below w.heap.size w w':=(by have:=s1.dh;rwa [le.base] at this);refine⟨.returned v,w',fr,⟨v,_,rfl,aY.PT hs,a8.En (K2:=K.sees w.heap.size w') s1 (λg j c hc=>?_) (λg j c hg hc=>?_) qx Af,bW.sees hs hb⟩,ct,wP,eI⟩
    ·rcases le.new g j c hc with q|q
     ·have:g<w.heap.size:=hs.Ay q;simp only[aY.sees,aG this];exact q
     ·have q:w.heap.size<=g:=q;simp only[aY.sees,aH (ah:¬g<w.heap.size)];exact s1.ic g j c hc
    ·have q:w.heap.size<=g:=(by rw[le.base] at hg;exact hg);simp only[aY.sees,aH (ah:¬g<w.heap.size)];exact hc
   ·cases hx
  ·cases hx
 ·cases hx
def qb(R:Rec)(L:List bm)(g:bm):Option (List AV->ao->Option (AV × ao)):=if L.contains g=ai then aa (Dw R g) else ar
def xW{aN:bm->Option (List AV->ao->Option (AV × ao))}(hp:Prog P)(hG:∀g cs,G g=aa cs->aW 0 0 0 cs=ai)(oC:∀V g p,aN g=aa p->sT P G V g p){L:List bm}(hL:∀g∈L,∃fn,P.funcs[g]?=aa fn/\fn.body.isSome=ai):
 ∀V g p,qb (whole P G aN) L g=some p->sT P G V g p:=by
 intro V g p he;unfold qb at he;split at he
 ·rename_i hg;injection he with he;subst he;exact TV hp hG oC (hL g (by simpa using hg)) V
 ·cases he
def br{R:Rec}{L:List bm}{g:bm}{args cA:List AV}{x y:AV}{h1:ao}(hg:L.contains g=ai)(ha:cr args=cA)(hf:aW 0 0 0 cA=ai)(hc:R.call g cA ⟨[],[],0,[]⟩=aa (.ret y,h1))(hy:jM h1 y=x)(hx:aL 0 0 0 x=ai):
 ∀h,(whole P G (qb R L)).call g args h=aa (.ret x,h):=by
 intro h;subst ha;subst hy;rw[IE];unfold qU qb;rw[aG hg];simp only[Dw,Ez,aG hf,hc,aG hx,eW]
end
end Go.AE
end
section
namespace Go.AE
def Qe(P:bK)(s d:aK):Bool:=
 match P.underlying s,P.underlying d with
 |some (.int _),aa (.int _)=>ai
 |_,_=>az
def Np(P:bK)(ops:Array Oper)(L:List bm)(k:Nat):Bool:=
 match ops[k]? with
 |some o=>o.guard.isNone&&match o.op with
  | .call {callee:=.value (.func f),.. }=>L.contains f
  | .call {callee:=.builtin .max,.. }=>ai
  | .call {callee:=.builtin .min,.. }=>ai
  | .convert s d _=>Qe P s d
  |_=>az
 |none=>az
def Nq(P:bK)(ops:Array Oper)(L:List bm):List Nat:=(bR ops.size).filter (Np P ops L)
section
variable {P:bK} {G:Nat->Option (List AV)} {aN:bm->Option (List AV->ao->Option (AV × ao))} {Q:Xt->Env->ao->Prop} {e:Env} {h:ao} {L:List bm}
def pX(aN:bm->Option (List AV->ao->Option (AV × ao)))(L:List bm):Prop:=∀g∈L,∃q:List AV->Option AV,aN g=aa λargs h=>(q args).map (·,h)
def xY{R:Rec}:pX (qb R L) L:=λg hg=>⟨Ez R g,by unfold qb;rw[aG (by simpa using hg)];rfl⟩
def alP{s d:aK}{x:AV}(hn:Qe P s d=ai):∃q:Option AV,∀hm,nm P hm s d x=q.map (·,hm):=by
 unfold Qe at hn;split at hn
 ·rename_i k1 k2 h1 h2;unfold nm;simp only[h1,h2];cases x<;>first|exact⟨ar,λhm=>rfl⟩|exact⟨_,λhm=>rfl⟩
 ·cases hn
def ad0{hm:ao}{ts:Array aK}{ty:aK}{xs:List AV}:jC P hm .max ts ty xs=(match flatAll xs with|some l=>(fZ P (Builtin.max_ ts ty l.toArray)).bind oG|none=>ar).map (·,hm):=by rcases xs with _|⟨x,_|⟨y,xs⟩⟩<;>(unfold jC;simp only[];cases flatAll _<;>rfl)
def ad1{hm:ao}{ts:Array aK}{ty:aK}{xs:List AV}:jC P hm .min ts ty xs=(match flatAll xs with|some l=>(fZ P (Builtin.min_ ts ty l.toArray)).bind oG|none=>ar).map (·,hm):=by rcases xs with _|⟨x,_|⟨y,xs⟩⟩<;>(unfold jC;simp only[];cases flatAll _<;>rfl)
def Jl{o:Oper}(hg:o.guard=ar)(hq:zO o.op=ai)(bU:∀er:Env,∃q:Option AV,∀hm,eo P G (whole P G aN) er hm o=q.map λx=>(.ret x,er,hm)){ops:Array Oper}{en:Env}{hn:ao}
 (eH:di P G (whole P G aN) ops (bR ops.size) e h=aa (.normal,en,hn)) {k:Nat} (ho:ops[k]?=aa o):zP P G (whole P G aN) ops e h k:=by
 have Wk:k<ops.size:=(Array.getElem?_eq_some_iff.1 ho).1;obtain⟨-,tr,st⟩:=trace eH;obtain⟨s1,-⟩:=st k Wk;obtain⟨q,oZ⟩:=bU (db P G (whole P G aN) ops e h k).1;unfold jU at s1;simp only[ho,ff,hg,oZ] at s1;cases hx:q with|none=>rw[hx] at s1;simp at s1|some x=>exact⟨o,x,_,_,ho,hq,tr k (Nat.le_of_lt Wk),λm hm=>⟨_,_,tr m hm,by rw[oZ,hx];rfl⟩⟩
def TW{ops:Array Oper}(hL:pX aN L){en:Env}{hn:ao}(eH:di P G (whole P G aN) ops (bR ops.size) e h=aa (.normal,en,hn)){k:Nat}(hk:Np P ops L k=ai):zP P G (whole P G aN) ops e h k:=by
 unfold Np at hk;split at hk
 ·rename_i o ho;simp only[bL,Option.isNone_iff_eq_none] at hk;obtain⟨hg,hk⟩:=hk;split at hk
  ·rename_i f args ts bU;obtain⟨q,hq⟩:=hL f (by simpa using hk);refine Jl hg (by rw[bU];rfl) (λer=>⟨q (args.toList.map er.eval),λhm=>?_⟩) eH ho;have:eo P G (whole P G aN) er hm o=(mb P (whole P G aN) er hm {callee:=.value (.func f),args,argTypes:=ts}).map λ(r,h1)=>(r,er,h1):=(by unfold eo;rw[bU]);rw[this,TP,IE];unfold qU;rw[hq];simp only[MN];rfl
  ·rename_i args ts bU;refine Jl hg (by rw[bU];rfl) (λer=>⟨match flatAll (args.toList.map er.eval) with|some l=>(fZ P (Builtin.max_ ts o.type l.toArray)).bind oG|none=>ar,λhm=>?_⟩) eH ho
   ·unfold eo;simp only[bU];show(jC P hm .max ts o.type (args.toList.map er.eval)).map _=_;rw[ad0,MN];rfl
  ·rename_i args ts bU;refine Jl hg (by rw[bU];rfl) (λer=>⟨match flatAll (args.toList.map er.eval) with|some l=>(fZ P (Builtin.min_ ts o.type l.toArray)).bind oG|none=>ar,λhm=>?_⟩) eH ho
   ·unfold eo;simp only[bU];show(jC P hm .min ts o.type (args.toList.map er.eval)).map _=_;rw[ad1,MN];rfl
  ·rename_i s d x bU;refine Jl hg (by rw[bU];rfl) (λer=>?_) eH ho;obtain⟨q,hq⟩:=alP (P:=P) (x:=er.eval x) hk;refine⟨q,λhm=>?_⟩;unfold eo;simp only[bU,dP,hq,MN];rfl
  ·cases hk
 ·cases hk
def my{id:Nat}{ops:Array Oper}(ps:List (Nat × Nat))(hL:pX aN L)(hd:DF ops (Nq P ops L) ps=ai)(hs:∀p∈ps,l8 P G (whole P G aN) ops e h p.1 p.2=ai)
 (hr:cP P G (whole P G aN) ops ops.toList e h (xX Q)):bM (whole P G aN) (.region id ops ai) e h Q:=by
 have fY:=hr;obtain⟨o,en,hn,h1,h2⟩:=fY;cases o with
 |normal=>
  have eH:di P G (whole P G aN) ops (bR ops.size) e h=aa (.normal,en,hn):=by rw[sI (aM _),<-Array.length_toList,fI];exact h1
  exact Rl (NK hd (λk hk=>TW hL eH (uL.1 hk).2) hs) hr
 |_=>exact h2.elim
def dR{id:Nat}{ops:Array Oper}(hL:pX aN L)(hd:DF ops (Nq P ops L) []=ai)
 (hr:cP P G (whole P G aN) ops ops.toList e h (xX Q)):bM (whole P G aN) (.region id ops ai) e h Q:=my [] hL hd (λp hp=>nomatch hp) hr
end
end Go.AE
end
section
namespace Go.AE
structure gm(S:List Nat)(n0:Nat)(h h':ao):Prop where
 box:∀(c:Nat) (cs:List AV),c∉S->h.boxes[c]?=aa cs->h'.boxes[c]?=aa cs
 len:h.boxes.length<=h'.boxes.length
 loop:∀(l:Nat) (r:iN),h.loops[l]?=aa r->h'.loops[l]?=aa r
 tn:h.tn<=h'.tn
 dead:∀n,n<n0->n∈h'.dead->n∈h.dead
 ok:cO h=ai->cO h'=ai
section
variable {S S':List Nat} {n0:Nat} {h0 h h' h2:ao}
def gm.refl:gm S n0 h h:=⟨λ_ _ _ q=>q,aM _,λ_ _ q=>q,aM _,λ_ _ q=>q,λq=>q⟩
def gm.trans(m:gm S n0 h h')(k:gm S n0 h' h2):gm S n0 h h2:=
 ⟨λc cs hc hb=>k.box c cs hc (m.box c cs hc hb),fJ m.len k.len,λl r q=>k.loop l r (m.loop l r q),fJ m.tn k.tn,λn hn q=>m.dead n hn (k.dead n hn q),λq=>k.ok (m.ok q)⟩
def gm.mono(m:gm S n0 h h')(hs:∀b∈S,b∈S'):gm S' n0 h h':=⟨λc cs hc=>m.box c cs λq=>hc (hs c q),m.len,m.loop,m.tn,m.dead,m.ok⟩
def gm.put{b:Nat}(hb:b∈S)(cs:List AV):gm S n0 h (h.put b cs):=
 ⟨λc ds hc q=>by rw[dg (λ(e:c=b)=>hc (by rw[e];exact hb))];exact q,by rw[mP];exact aM _,λ_ _ q=>q,aM _,λ_ _ q=>q,λq=>q⟩
def gm.gh(m:gm S n0 h h'){b:Nat}(hb:h.boxes.length<=b)(cs:List AV):gm S n0 h (h'.put b cs):=
 ⟨λc ds hc q=>by have:=(aV.1 q).1;rw[dg ah];exact m.box c ds hc q,by rw[mP];exact m.len,m.loop,m.tn,m.dead,m.ok⟩
def gm.push(m:gm S n0 h h')(cs:List AV):gm S n0 h (h'.push cs):=
 ⟨λc ds hc q=>bA (m.box c ds hc q),by rw[cX];exact Nat.le_succ_of_le m.len,m.loop,m.tn,m.dead,m.ok⟩
def gm.Cp(m:gm S n0 h h')(r:iN):gm S n0 h (h'.loop r):=⟨m.box,m.len,λl q hq=>X9 (m.loop l q hq),m.tn,m.dead,m.ok⟩
def gm.fx(m:gm S n0 h h'){l:Nat}(hl:h.loops.length<=l)(r:iN):gm S n0 h (h'.fx l r):=
 ⟨m.box,m.len,λk q hq=>by have:=(aV.1 hq).1;rw[aae ah];exact m.loop k q hq,m.tn,m.dead,m.ok⟩
def gm.EE(x:Ext h h')(hn:n0<=h.tn):gm S n0 h h':=⟨λc cs _ hb=>x.box c cs hb,x.len,x.loop,x.tn,λn hl hd=>x.dead n (mU hl hn) hd,x.ok⟩
def gm.tN{n1:Nat}(m:gm S n1 h h')(hn:n0<=n1):gm S n0 h h':=⟨m.box,m.len,m.loop,m.tn,λn hl hd=>m.dead n (mU hl hn) hd,m.ok⟩
def Ext.P9(x:Ext h0 h)(m:gm S h0.tn h h')(hb:∀b∈S,h0.boxes.length<=b):Ext h0 h':=
 ⟨λc cs q=>m.box c cs (λhc=>by have:=hb c hc;have:=(aV.1 q).1;omega) (x.box c cs q),λl r q=>m.loop l r (x.loop l r q),fJ x.tn m.tn,λn hn hd=>x.dead n hn (m.dead n hn hd),λq=>m.ok (x.ok q)⟩
def Grown.P9{t:Tok}(g:Grown n0 h h' t):gm S n0 h h':=⟨λc cs _ q=>g.box c cs q,by
 rcases dV h'.boxes.length h.boxes.length with aB|ec
 ·have h1:=g.box h'.boxes.length _ (aT aB);have:=(aV.1 h1).1;omega
 ·exact ec,g.loop,g.tn,g.dead,λ_=>g.ok⟩
end
section
variable {P:bK} {G:Nat->Option (List AV)} {aN:bm->Option (List AV->ao->Option (AV × ao))} {H:ao} {l:Nat} {rec:iN} {args:List AV}
def apR{Post:ao->Prop}(hr:H.loops[l]?=aa rec)(hs:rec.params.size=args.length)(ct:rec.state=.ready)(hp:rec.pending=ar)
 (ha:bM (whole P G aN) rec.assign (nX l rec args) H (λo e1 h1=>o=.normal/\h1=H/\bM (whole P G aN) rec.body e1 (H.busy l rec) (λo _ h2=>o=.normal/\h2.loops=(H.busy l rec).loops/\Post {h2 with loops:=H.loops}))):
 ∃H',(whole P G aN).round l args H=aa (.ret (.v (.bool ai)),H')/\H'.loops=H.loops/\Post H':=by
 obtain⟨o,e1,h1,q1,rfl,rfl,o2,e2,h2,q2,rfl,q3,q4⟩:=ha;have eO:=(aV.1 hr).1;have hb:(h1.busy l rec).loops[l]?=aa {rec with state:=.busy}:=by show(h1.loops.set l _)[l]?=_;simp[eO]
 refine⟨{h2 with loops:=h1.loops},KZ hr hs ⟨_,e1,h1,q1,rfl,rec,hr,ct,.normal,e2,h2,q2,{rec with state:=.busy},by rw[q3];exact hb,rfl,?_⟩,rfl,q4⟩;have Ar:{rec with state:=LoopState.ready,pending:=ar}=rec:=by cases rec;cases ct;cases hp;rfl
 have yE:h2.loops.set l rec=h1.loops:=by
  rw[q3];show(h1.loops.set l _).set l rec=_;rw[Db];apply qL;intro k;rw[mA];split
  ·rename_i e;subst e;exact hr.symm
  ·rfl
 show _=({h2 with loops:=h2.loops.set l {rec with state:=LoopState.ready,pending:=ar}}:ao);rw[Ar,yE]
def KY{Post:ao->Prop}(hr:H.loops[l]?=aa rec)(hs:rec.params.size=args.length)(ct:rec.state=.ready)(hp:rec.pending=ar)
 (ha:bM (whole P G aN) rec.assign (nX l rec args) H (λo e1 h1=>o=.normal/\h1=H/\bM (whole P G aN) rec.body e1 (H.busy l rec) (λo _ h2=>o=.normal/\h2.loops=(H.busy l rec).loops/\Post {h2 with loops:=H.loops}))):
 ∃H',(whole P G aN).round l args H=aa (.ret (.v (.bool ai)),H')/\Post H':=by
 obtain⟨H',q1,_,q3⟩:=apR hr hs ct hp ha;exact⟨H',q1,q3⟩
end
end Go.AE
end
section
namespace Go.NT
def atc{α:Type}{f}:∀{l:List α},(∀i∈l,f i=0)->cJ (l.map f)=0:=by
 intro l
 induction l with
 |nil=>intro _;rfl|cons x l ih=>intro h;simp only[eK,cJ];rw[h x gj,ih λi hi=>h i (fN _ hi)];rfl
def RG{α:Type}{f g}:∀{l:List α},(∀i∈l,f i=g i)->cJ (l.map f)=cJ (l.map g):=by
 intro l
 induction l with
 |nil=>intro _;rfl|cons x l ih=>intro h;simp only[eK,cJ];rw[h x gj,ih λi hi=>h i (fN _ hi)]
def atb{α:Type}{f}{p}:∀{l:List α},(∀i∈l,p i=az->f i=0)->cJ ((l.filter p).map f)=cJ (l.map f):=by
 intro l
 induction l with
 |nil=>intro _;rfl|cons x l ih=>
  intro h;have ih:=ih λi hi=>h i (fN _ hi);cases hp:p x
  ·rw[abY (by simp[hp]),ih];simp only[eK,cJ];rw[h x gj hp];omega
  ·rw[abZ hp];simp only[eK,cJ,ih]
def aaS{α:Type}{f g}:∀{l:List α},cJ (l.map λi=>f i+g i)=cJ (l.map f)+cJ (l.map g):=by
 intro l
 induction l with
 |nil=>rfl|cons x l ih=>simp only[eK,cJ,ih];omega
def LI{α:Type}{f}{c}:∀{l:List α},cJ (l.map λi=>c * f i)=c * cJ (l.map f):=by
 intro l
 induction l with
 |nil=>simp[cJ]|cons x l ih=>simp only[eK,cJ,ih,Int.mul_add]
def aaT{α β:Type}{f:α->β->Int}:∀{l:List α} {m:List β},cJ (l.map λi=>cJ (m.map λj=>f i j))=cJ (m.map λj=>cJ (l.map λi=>f i j)):=by
 intro l m
 induction l with
 |nil=>simp only[uK,cJ];exact(atc λ_ _=>rfl).symm|cons x l ih=>simp only[eK,cJ,ih];rw[<-aaS]
def Iv{α:Type}{f g}{q}:∀{l:List α},(∀i∈l,q∣f i - g i)->q∣cJ (l.map f) - cJ (l.map g):=by
 intro l
 induction l with
 |nil=>intro _;simp[cJ]|cons x l ih=>
  intro h;simp only[eK,cJ];have e:f x+cJ (l.map f) - (g x+cJ (l.map g))=(f x - g x)+(cJ (l.map f) - cJ (l.map g)):=by omega
  rw[e];exact xK (h x gj) (ih λi hi=>h i (fN _ hi))
def alq{α β:Type}{l:List α}{f}{g:Nat->β}(h:∀i x,l[i]?=aa x->f x=g i):l.map f=(bR l.length).map g:=by
 apply IV
 ·simp
 ·intro i h1 h2;rw[qN,qN,AX];exact h i _ (aT (by simpa using h1))
def RM(ae)(target):(fS ae target).length=target.length:=by unfold fS;simp
def aa4{ae}{target a}(h:a∈fS ae target):∃k,k<target.length/\a=ae.map (λr=>ak r k)++[ak target k]:=by unfold fS at h;obtain⟨k,hk,rfl⟩:=ju.1 h;exact⟨k,gB.1 hk,rfl⟩
def M3{ae:List (List Int)}{k i}{t}(hi:i<ae.length):ak (ae.map (λr=>ak r k)++t) i=ak (ae.getD i []) k:=by unfold ak;rw[dS,List.getElem?_append_left (by simpa using hi),ev,aT hi,ki hi];rfl
def adW{ae:List (List Int)}{k}{x}:ak (ae.map (λr=>ak r k)++[x]) ae.length=x:=by unfold ak;rw[dS,zC bH];simp
section
variable {ae:List (List Int)} {target l:List Int}
def RN(hr:∀r∈ae,∀x∈r,okF x)(ht:∀x∈target,okF x):(∀a∈fS ae target,a.length=ae.length+1)/\∀a∈fS ae target,∀x∈a,okF x:=by
 refine⟨λa ha=>?_,λa ha x hx=>?_⟩
 ·obtain⟨k,-,rfl⟩:=aa4 ha;simp
 ·obtain⟨k,hk,rfl⟩:=aa4 ha;rcases List.mem_append.1 hx with q|q
  ·obtain⟨r,h1,rfl⟩:=ju.1 q;exact p9 (hr r h1) k
  ·rw[lu] at q;subst q;exact p9 ht k
def combine_sat(hr:∀r∈ae,∀x∈r,okF x)(ht:∀x∈target,okF x)(h:pG ae target=aa l):
 l.length=ae.length/\(∀x∈l,okF x)/\∀k,k<target.length->Qi∣cJ ((bR ae.length).map λi=>ak l i * ak (ae.getD i []) k) - ak target k:=by
 obtain⟨t1,t2⟩:=RN hr ht;unfold pG at h;dsimp only at h;split at h
 ·rename_i eH;simp only[dM] at h;subst h;have OH:∀i a,(jd (fS ae target) ae.length).2.length<=i->(jd (fS ae target) ae.length).1[i]?=aa a->ak a ae.length=0:=λi a hi ha=>by rw[ej] at eH;have:a∈(jd (fS ae target) ae.length).1.drop (jd (fS ae target) ae.length).2.length:=(by refine dn (i:=i - (jd (fS ae target) ae.length).2.length) ?_;rw[oN];rw[show(jd (fS ae target) ae.length).2.length+(i - (jd (fS ae target) ae.length).2.length)=i by omega];exact ha);simpa using eH a this
  have hs:=asl t1 t2 OH;have R:=(HO t1 t2 (ah:ae.length<=ae.length+1)).1;refine⟨Lx _ _,?_,λk hk=>?_⟩
  ·have bJ:∀(ps:List (Nat × Nat)) (y:List Int),(∀x∈y,okF x)->∀x∈ps.foldl (λy p=>y.set p.1 (ak ((jd (fS ae target) ae.length).1.getD p.2 []) ae.length)) y,okF x:=by
    intro ps
    induction ps with
    |nil=>intro y hy;exact hy|cons p ps ih=>
     intro y hy;refine ih _ λx hx=>?_;rcases vY hx with q|q
     ·exact hy x q
     ·rw[q];refine p9 (λz hz=>?_) _;rcases dV p.2 (jd (fS ae target) ae.length).1.length with q2|q2
      ·rw[ki q2] at hz;exact R.ok _ (iG q2) z hz
      ·rw[dS,List.getElem?_eq_none q2] at hz;simp at hz
   unfold ph;exact bJ _ _ λx hx=>by rw[IU hx];exact AD
  ·have hm:ae.map (λr=>ak r k)++[ak target k]∈fS ae target:=(by unfold fS;exact ju.2 ⟨k,gB.2 hk,rfl⟩);have:=hs _ hm;unfold Sat res dot at this;rw[Lx,adW] at this;have e:((bR ae.length).map λi=>ak (ph (jd (fS ae target) ae.length) ae.length) i * ak (ae.map (λr=>ak r k)++[ak target k]) i)=(bR ae.length).map λi=>ak (ph (jd (fS ae target) ae.length) ae.length) i * ak (ae.getD i []) k:=
    List.map_congr_left λi hi=>by rw[M3 (gB.1 hi)]
   rw[e] at this;exact this
 ·cases h
end
def asq{n}{at_}{l}:(rC n at_ l).length=n:=by unfold rC;rw[Gj (λp=>ak l p.2)];simp
def ass{n i}{at_}{l}(h:i∉at_):ak (rC n at_ l) i=0:=by unfold rC;rw[JG (λp=>ak l p.2) _ _ λp hp e=>h (by subst e;obtain⟨p1,p2⟩:=p;have:=List.mem_zipIdx hp;simp only at this ⊢;rw[this.2.2];exact iG _)];unfold ak;rw[dS,Mo];split<;>rfl
def asp{l}:∀(ps:List (Nat × Nat)) (y:List Int),(ps.map rM).Nodup->(∀p∈ps,p.1<y.length)->∀p∈ps,ak (ps.foldl (λy p=>y.set p.1 (ak l p.2)) y) p.1=ak l p.2:=by
 intro ps
 induction ps with
 |nil=>intro y _ _ p hp;cases hp
 |cons q ps ih=>
  intro y hn hy p hp;rw[eK,FM] at hn;rcases iq.1 hp with rfl|hp
  ·rw[uJ,JG (λp=>ak l p.2) _ _ λp' Cb e=>hn.1 (ju.2 ⟨p',Cb,e⟩),Jg (hy p gj),aG rfl]
  ·exact ih _ hn.2 (λp hp=>by rw[mS];exact hy p (fN _ hp)) p hp
def zip_fst(at_:List Nat):at_.zipIdx.map rM=at_:=by apply IV<;>simp
def Ru{n j i}{at_}{l}(hn:at_.Nodup)(hb:∀i∈at_,i<n)(hj:at_[j]?=aa i):ak (rC n at_ l) i=ak l j:=by
 unfold rC;have hm:(i,j)∈at_.zipIdx:=by rw[List.mem_zipIdx_iff_getElem?];exact hj
 exact asp at_.zipIdx (bg n 0) (by rw[zip_fst];exact hn) (λp hp=>by
  rw[mB];refine hb _ ?_;have:p.1∈at_.zipIdx.map rM:=ju.2 ⟨p,hp,rfl⟩
  rwa [zip_fst] at this) (i,j) hm
def asr{n}{at_}{l}(hl:∀x∈l,okF x):∀x∈rC n at_ l,okF x:=by
 have bJ:∀(ps:List (Nat × Nat)) (y:List Int),(∀x∈y,okF x)->∀x∈ps.foldl (λy p=>y.set p.1 (ak l p.2)) y,okF x:=by
  intro ps
  induction ps with
  |nil=>intro y hy;exact hy|cons p ps ih=>
   intro y hy;refine ih _ λx hx=>?_;rcases vY hx with q|q
   ·exact hy x q
   ·rw[q];exact p9 hl _
 exact bJ _ _ λx hx=>by rw[IU hx];exact AD
def Qo{ag aA}{i}:i∈ez ag aA↔i<ag.length/\ak ag i∈aA:=by unfold ez;rw[uL,gB,abS]
def amj(ag aA):(ez ag aA).Nodup:=List.nodup_range.filter _
def o9{ae}{ag}(h:de ae ag=0):ae.length=ag.length/\ae.length<=64/\(∀r∈ae,r.length=b9 ae/\0<r.length/\r.length<=64/\∀x∈r,okF x)/\∀x∈ag,0<=x/\x<=63:=by
 unfold de at h;split at h
 ·cases h
 ·rename_i h1;simp only[Bool.or_eq_true,decide_eq_true_eq,List.any_eq_true,not_or,not_exists,not_and,Nat.not_lt] at h1;split at h
  ·cases h
  ·rename_i h2;have h2:ae.length=ag.length:=(by simpa using h2);split at h
   ·rename_i h3;rw[ej] at h3;have key:∀i (hi:i<ae.length),ae[i].length=(ae.getD 0 []).length/\0<ae[i].length/\(∀x∈ae[i],okF x)/\0<=ak ag i/\ak ag i<=63:=λi hi=>by
     have:=h3 i (gB.2 hi);simp only[ki hi,bL,decide_eq_true_eq,ej] at this;obtain⟨⟨⟨a,b⟩,c,d⟩,f⟩:=this;refine⟨b,?_,λx hx=>?_,c,d⟩
     ·rcases FT ae[i].length with q|q
      ·rw[List.length_eq_zero_iff] at q;rw[q] at a;cases a
      ·exact q
     ·have:=f x hx;unfold cU at this;simpa [okF] using this
    refine⟨h2,h1.1,λr hr=>?_,λx hx=>?_⟩
    ·obtain⟨i,hi,rfl⟩:=A0.1 hr;obtain⟨a,b,c,-⟩:=key i hi;refine⟨?_,b,h1.2 _ hr,c⟩;unfold b9;rw[aH ah];exact a
    ·obtain⟨i,hi,rfl⟩:=A0.1 hx;have:=(key i ah).2.2.2
     rwa [ga hi] at this
   ·cases h
def uW{ae}{ag}(h:de ae ag=0):0<b9 ae/\b9 ae<=64:=by
 obtain⟨-,-,h3,-⟩:=o9 h;unfold b9;split
 ·omega
 ·rename_i q;have:=h3 (ae.getD 0 []) (by rw[ki ah];exact iG _);exact⟨this.2.1,this.2.2.1⟩
def RI{n}(h:0<n):(fR n).length=n:=by unfold fR;simp;omega
def att{n k}:ak (fR n) k=if k=0 then 1 else 0:=by
 unfold fR ak;cases k with|zero=>rfl|succ k=>rw[List.getD_cons_succ,dS,Mo];split<;>rfl
def atu{n}:∀x∈fR n,okF x:=by
 intro x hx;unfold fR at hx;rcases iq.1 hx with rfl|q
 ·unfold okF;decide
 ·rw[IU q];exact AD
def zG{ae}{ag aA y}(h:gC ae ag aA=(y,ai,0)):
 de ae ag=0/\gx (-1) aA=ai/\y.length=ae.length/\(∀x∈y,okF x)/\(∀i,ak ag i∉aA->ak y i=0)/\
  ∀k,k<b9 ae->Qi∣cJ ((bR ae.length).map λi=>ak y i * ak (ae.getD i []) k) - (if k=0 then 1 else 0):=by
 unfold gC at h;split at h
 ·simp at h
 ·rename_i hp;have hp:de ae ag=0:=by simpa using hp
  obtain⟨p1,p2,p3,p4⟩:=o9 hp;split at h
  ·simp at h
  ·rename_i hw;split at h
   ·simp at h
   ·rename_i l hl;simp only[dj,and_true] at h;subst h;have hb:∀i∈ez ag aA,i<ae.length:=λi hi=>(by rw[p1];exact(Qo.1 hi).1);have hr:∀r∈(ez ag aA).map (λi=>ae.getD i []),∀x∈r,okF x:=λr hr=>(by obtain⟨i,hi,rfl⟩:=ju.1 hr;rw[ki (hb i hi)];exact(p3 _ (iG _)).2.2.2);obtain⟨c1,c2,c3⟩:=combine_sat hr atu hl;rw[bE] at c1 c3;have Ap:∀i,i∉ez ag aA->ak (rC ae.length (ez ag aA) l) i=0:=λi hi=>ass hi;refine⟨hp,by simpa using hw,asq,asr c2,λi hi=>Ap i λq=>hi (Qo.1 q).2,λk hk=>?_⟩;have:=c3 k (by rw[RI (uW hp).1];exact hk);rw[att] at this;have e:cJ ((bR ae.length).map λi=>ak (rC ae.length (ez ag aA) l) i * ak (ae.getD i []) k)=cJ ((bR (ez ag aA).length).map λi=>ak l i * ak (((ez ag aA).map λi=>ae.getD i []).getD i []) k):=(by have e1:ez ag aA=(bR ae.length).filter λi=>aA.contains (ak ag i):=(by unfold ez;rw[p1]);have e2:=atb (f:=λi=>ak (rC ae.length (ez ag aA) l) i * ak (ae.getD i []) k) (p:=λi=>aA.contains (ak ag i)) (l:=bR ae.length) λi hi hq=>(by rw[Ap i λq=>?_,IT];rw[abS.2 (Qo.1 q).2] at hq;cases hq);rw[<-e1] at e2;rw[<-e2];congr 1;refine alq λj i hj=>?_;have lF:=(aV.1 hj).1;rw[Ru (amj ag aA) hb hj,ki (t:=(ez ag aA).map λi=>ae.getD i []) (by simpa using lF),qN];rw[(aV.1 hj).2]);rw[e];exact this
end Go.NT
end
section
namespace Go.NT
def Gn:Nat:=4
def qK:elem Gn=ai:=by decide+kernel
def Uu{a b}(h:Qi∣a - b):a%Qi=b%Qi:=abG.2 (Int.emod_eq_zero_of_dvd h)
def Jt{a b}(h:a%Qi=b%Qi):Qi∣a - b:=Int.dvd_of_emod_eq_zero (abG.1 h)
def Qw{a b}(h:Qi∣a - b):bC Gn a=bC Gn b:=HI (Uu h)
def anj{a}(h:bC Gn a=1):Qi∣a:=by
 have hf:=DN a;have ha:Qi∣a - fmod a:=Jt (by unfold fmod;rw[C5 _ (C4 _)]);by_cases h0:fmod a=0
 ·rw[h0,C7] at ha;exact ha
 ·exfalso;have h1:bC Gn (fmod a * eE (fmod a))=1:=by rw[EM qK,anb,h,yX,Nat.one_pow];rfl
  have h2:bX (fmod a) (eE (fmod a))=1:=NV hf h0;rw[sd] at h2;have h3:bC Gn (fmod a * eE (fmod a))=bC Gn 1:=HI (by rw[h2];rfl);rw[h1,anf qK] at h3;cases h3
def ang{a b}(h:bC Gn a=bC Gn b):Qi∣a - b:=by refine anj ?_;rw[Int.sub_eq_add_neg,EL qK,h];exact ane qK b
def anh{a b}(ha:okF a)(hb:okF b)(h:bC Gn a=bC Gn b):a=b:=by
 have:=Uu (ang h)
 rwa [Mg ha.1 ha.2,Mg hb.1 hb.2] at this
def ahU{α:Type}{f:α->Nat}{a}:∀{l:List α} (_:∀p∈l,f p=bC Gn (a p)) (k:Int),l.foldl (λx p=>x * f p%P) (bC Gn k)=bC Gn (k+cJ (l.map a)):=by
 intro l
 induction l with
 |nil=>intro _ k;simp[cJ]|cons p l ih=>intro h k;rw[uJ,h p gj,<-EL qK,ih (λq hq=>h q (fN _ hq))];simp only[eK,cJ];congr 1;omega
def QG{α:Type}{f:α->Nat}{a}{l:List α}(h:∀p∈l,f p=bC Gn (a p)):l.foldl (λx p=>x * f p%P) 1=bC Gn (cJ (l.map a)):=by have:=ahU h 0;rw[Y5,FC] at this;exact this
def qh(a b:List Int):Int:=(bR a.length).foldl (λx j=>cQ x (bX (ak a j) (ak b j))) 0
def NW{α:Type}{f}:∀{l:List α} (x:Int),Qi∣l.foldl (λx j=>cQ x (f j)) x - (x+cJ (l.map f)):=by
 intro l
 induction l with
 |nil=>intro x;simp[cJ]|cons j l ih=>intro x;have h1:=ih (cQ x (f j));simp only[uJ,eK,cJ];have h2:Qi∣cQ x (f j) - (x+f j):=Jt (by rw[yd,C5 _ (C4 _)]);have:=xK h1 h2;rw[show l.foldl (λx j=>cQ x (f j)) (cQ x (f j)) - (cQ x (f j)+cJ (l.map f))+(cQ x (f j) - (x+f j))=l.foldl (λx j=>cQ x (f j)) (cQ x (f j)) - (x+(f j+cJ (l.map f))) by omega] at this;exact this
def Ve{α:Type}{f:α->Int}{l:List α}{x}(hx:okF x):okF (l.foldl (λx j=>cQ x (f j)) x):=by
 rcases List.eq_nil_or_concat l with rfl|⟨l',a,rfl⟩
 ·exact hx
 ·rw[List.concat_eq_append,oM];exact Gh _ _
def agV(a b):okF (qh a b):=Ve AD
def JF(a b):Qi∣bX a b - a * b:=Jt (by rw[sd,C5 _ (C4 _)])
def US(a b):Qi∣cQ a b - (a+b):=Jt (by rw[yd,C5 _ (C4 _)])
def DG{a b c}(h:Qi∣a - b)(k:Qi∣b - c):Qi∣a - c:=by
 have:=xK h k
 rwa [(ah:a - b+(b - c)=a - c)] at this
def UJ(a b):Qi∣qh a b - cJ ((bR a.length).map λj=>ak a j * ak b j):=by have h1:=NW (f:=λj=>bX (ak a j) (ak b j)) (l:=bR a.length) 0;rw[FC] at h1;exact DG h1 (Iv λj _=>JF _ _)
def gN(aj row:List Int):Nat:=(bR aj.length).foldl (λx j=>x * bC (ak aj j).toNat (ak row j)%P) 1
def ie(ae:List (List Int))(s:List Int):List Int:=ae.map λr=>qh r s
def dT(s:List Int):List Int:=s.map λn=>((bC Gn n:Nat):Int)
def Tt{s}{j}(hj:j<s.length):ak (dT s) j=((bC Gn (ak s j):Nat):Int):=by
 unfold dT;have:j<(s.map λn=>((bC Gn n:Nat):Int)).length:=by simpa using hj
 rw[ga this,ga hj,qN]
def Y9{s row}(hl:row.length=s.length):gN (dT s) row=bC Gn (qh row s):=by
 unfold gN;have hc:(dT s).length=s.length:=by unfold dT;simp
 rw[hc,QG (a:=λj=>ak row j * ak s j) λj hj=>by rw[Tt (gB.1 hj),dK,<-EM qK,zw]];refine(Qw ?_).symm;have:=UJ row s
 rwa [hl] at this
def age{s}:(dT s).all bN=ai:=by rw[ej];intro x hx;obtain⟨n,-,rfl⟩:=ju.1 hx;have:=vI qK n;unfold bN;rw[dK,this,CO];have h:=(elem_iff.1 this).1;exact cz ah
def auk{ae}{ag aA y s}(h:gC ae ag aA=(y,ai,0))(hs:s.length=b9 ae):
 Qi∣cJ ((bR ae.length).map λi=>ak y i * ak (ie ae s) i) - ak s 0:=by
 obtain⟨hp,-,h1,h2,h3,h4⟩:=zG h;obtain⟨p1,p2,p3,p4⟩:=o9 hp;have hc:=uW hp;have e1:Qi∣cJ ((bR ae.length).map λi=>ak y i * ak (ie ae s) i) - cJ ((bR ae.length).map λi=>cJ ((bR (b9 ae)).map λk=>ak s k * (ak y i * ak (ae.getD i []) k))):=by
  refine Iv λi hi=>?_;have hi:=gB.1 hi;have hd:=UJ ae[i] s;rw[(p3 _ (iG hi)).1] at hd;have e:ak (ie ae s) i=qh ae[i] s:=by unfold ie;rw[ga (by simpa using hi),qN]
  rw[e,ki hi];have:cJ ((bR (b9 ae)).map λk=>ak s k * (ak y i * ak ae[i] k))=ak y i * cJ ((bR (b9 ae)).map λk=>ak ae[i] k * ak s k):=by rw[<-LI];exact RG λk _=>by rw[Int.mul_left_comm,zw (ak s k)]
  rw[this,<-zx];exact Fy hd
 refine DG e1 ?_;rw[aaT];have e2:Qi∣cJ ((bR (b9 ae)).map λk=>cJ ((bR ae.length).map λi=>ak s k * (ak y i * ak (ae.getD i []) k))) - cJ ((bR (b9 ae)).map λk=>if k=0 then ak s 0 else 0):=by
  refine Iv λk hk=>?_;have:=h4 k (gB.1 hk);rw[LI];have e:(if k=0 then ak s 0 else 0)=ak s k * (if k=0 then 1 else 0):=by
   split
   ·rename_i q;subst q;rw[Int.mul_one]
   ·rw[Int.mul_zero]
  rw[e,<-zx];exact Fy this
 refine DG e2 ?_;rw[aaX (p:=0) _ hc.1 λi _ bO=>aH bO,aG rfl,Int.sub_self];exact Int.dvd_zero _
def eu(ag:List Int)(au:Int):List Nat:=(bR ag.length).filter λi=>decide (ak ag i=au)
def eF(ae:List (List Int))(ag:List Int)(l:List Pr):List Int:=(gC ae ag (l.map Pr.au)).1
def gZ(y:List Int)(s:List (Int × Int)):Int:=s.foldl (λa p=>cQ a (bX (ak y p.1.toNat) p.2)) 0
def y6(ae:List (List Int))(aj:List Int)(p:Int × Int):Bool:=cU p.2&&decide (bC Gn p.2=gN aj (ae.getD p.1.toNat []))
def lj(ae:List (List Int))(ag aj:List Int)(au:Int)(s:List (Int × Int)):Bool:=decide (s.map rM=(eu ag au).map λ(i:Nat)=>(i:Int))&&s.all (y6 ae aj)
def mN(l:List Pr)(au:Int):Option Pr:=l.find? λp=>decide (p.au=au)
def eZ(c0:Int)(text:List UInt8)(l:List Pr):Nat:=tK (gV c0 text l) c0 text
def xc(ae:List (List Int))(ag:List Int)(aj:List Int)(text:List UInt8)(l:List Pr)(au:Int)(s:List (Int × Int))(d f:Int):Int × Int:=
 match mN l au with
 |none=>(0,1)
 |some x=>
  if !(cU d&&cU f) then (0,1)
  else if !lj ae ag aj au s then (0,340)
  else if ¬((bC Gn d:Nat):Int)=x.d∨¬((bC Gn f:Nat):Int)=x.e then (0,420)
  else (cQ (cQ d (bX f (eY (ak aj 0) text l au))) (bX (eZ (ak aj 0) text l) (gZ (eF ae ag l) s)),0)
def uD(ae:List (List Int))(ag:List Int)(aj:List Int)(text:List UInt8)(l:List Pr)(x:Pr):Nat:=
 iL (ak aj 0) text l x * ((eu ag x.au).foldl (λa i=>a * bC (gN aj (ae.getD i [])) (ak (eF ae ag l) i * eZ (ak aj 0) text l)%P) 1)%P
def tc(ae:List (List Int))(ag:List Int)(aj:List Int)(text:List UInt8)(l:List Pr)(au z:Int):Bool × Int:=
 match mN l au with
 |none=>(az,1)
 |some x=>if !cU z then (az,1) else (decide (bC Gn z=uD ae ag aj text l x),0)
def vR(key:Int)(text:List UInt8)(e s:Int):Bool:=bN key&&cU e&&cU s&&decide (e=((tK ((bC Gn s * bC key.toNat (-e)%P:Nat):Int) key text:Nat):Int))
def aiU(b):mK b<Q:=mV _ aO
def yK{x}:cU x=ai↔okF x:=by unfold cU okF;simp
def VQ(bu)(v):cU ((tg bu v:Nat):Int)=ai:=by rw[yK];have:=aiU (gi bu (dI v));unfold tg okF;rw[Bb];omega
def aud{x n s}{text}{e}(he:e=tK ((bC Gn n:Nat):Int) ((bC Gn x:Nat):Int) text)(hs:okF s)(h:Qi∣s - (n+e * x)):vR ((bC Gn x:Nat):Int) text e s=ai:=by
 unfold vR;have hx:=vI qK x;have e1:bN ((bC Gn x:Nat):Int)=ai:=by unfold bN;rw[dK,hx,CO];have h:=(elem_iff.1 hx).1;exact cz ah
 have e2:cU ((e:Nat):Int)=ai:=by rw[he];exact VQ _ _
 have e3:bC Gn s * bC (bC Gn x) (-(e:Int))%P=bC Gn n:=by
  rw[<-EM qK,<-EL qK];refine Qw ?_;have:s+x * -(e:Int) - n=s - (n+e * x):=by rw[Int.mul_neg,zw x];omega
  rw[this];exact h
 rw[e1,e2,yK.2 hs,dK,e3,<-he];simp
end Go.NT
end
section
namespace Go.NT
def lE(f:Nat->Int)(a:List Int)(c k:Nat):List Int:=(bR a.length).map λj=>if c<=j/\j<k then f j else ak a j
section
variable {f:Nat->Int} {a own:List Int} {c k j r w:Nat} {t:List (List Int)}
def rY:(lE f a c k).length=a.length:=by unfold lE;simp
def DC(hj:j<a.length):ak (lE f a c k) j=if c<=j/\j<k then f j else ak a j:=by rw[ga (by rw[rY];exact hj)];unfold lE;rw[qN,AX]
def UA:lE f a c c=a:=by refine xl rY λj hj=>?_;rw[rY] at hj;rw[DC hj,aH ah]
def Uz(hc:c<=k)(hk:k<a.length):(lE f a c k).set k (f k)=lE f a c (k+1):=by
 refine xl (by rw[mS,rY,rY]) λj hj=>?_;rw[mS,rY] at hj;rw[Jg (by rw[rY];exact hk),DC hj,DC hj];by_cases Aj:j=k
 ·subst Aj;rw[aG rfl,aG ah]
 ·rw[aH Aj];by_cases q:c<=j/\j<k
  ·rw[aG q,aG ah]
  ·rw[aH q,aH ah]
def agB{n:Int}(hc:c<=a.length):lE (λj=>bX (ak a j) n) a c a.length=iD c a n:=by
 unfold iD;refine xl (by rw[rY,dE,bE,fj,hD];omega) λj hj=>?_;rw[rY] at hj;rw[DC hj,Ds hc];by_cases q:j<c
 ·rw[aH ah,aG q]
 ·rw[aG ah,aH q];have hm:j - c<((a.drop c).map (bX · n)).length:=by rw[bE,hD];omega
  rw[ga hm,qN,List.getElem_drop,ga hj];congr 2;omega
def qc(c:Nat)(own:List Int)(r j:Nat)(t:List (List Int)):List (List Int):=t.mapIdx λi a=>if i<j/\i≠r then uV c a own else a
def Un:(qc c own r j t).length=t.length:=by unfold qc;simp
def wx(i:Nat):(qc c own r j t)[i]?=t[i]?.map λa=>if i<j/\i≠r then uV c a own else a:=by unfold qc;rw[ab1]
def afW:qc c own r 0 t=t:=by apply qL;intro i;rw[wx];cases t[i]?<;>simp
def afU:qc c own r (r+1) t=qc c own r r t:=by
 apply qL;intro i;rw[wx,wx];congr 1;funext a;by_cases h:i<r/\i≠r
 ·rw[aG h,aG ah]
 ·rw[aH h,aH ah]
def afT:(qc c own r j t)[j]?=t[j]?:=by rw[wx];cases t[j]?<;>simp
def afS:(qc c own r j t)[r]?=t[r]?:=by rw[wx];cases t[r]?<;>simp
def afV{a:List Int}(hj:t[j]?=aa a)(hr:j≠r):(qc c own r j t).set j (uV c a own)=qc c own r (j+1) t:=by
 apply qL;intro i;rw[mA,Un];have hl:=(aV.1 hj).1;split
 ·rename_i e;subst e
  try rw[aG hl]
  rw[wx,hj,eW,aG ⟨Nat.lt_succ_self _,hr⟩]
 ·rename_i e;rw[wx,wx];congr 1;funext a;by_cases h:i<j/\i≠r
  ·rw[aG h,aG ah]
  ·rw[aH h,aH ah]
def JC{j:Nat}(hr:r<=j)(hj:j<=t.length)(hz:∀k,r<=k->k<j->ak (t.getD k []) c=0)(he:j<t.length->ak (t.getD j []) c≠0):ov t r c=if j=t.length then ar else aa j:=by
 cases hf:ov t r c with
 |none=>
  by_cases e:j=t.length
  ·rw[aG e]
  ·exact absurd (UY hf ah hr) (he ah)
 |some k=>
  obtain⟨k1,k2,k3⟩:=Bu hf;have hkj:j<=k:=by
   rcases dV k j with h|h
   ·exact absurd (hz k k2 h) k3
   ·exact h
  rw[aH ah];unfold ov at hf;rw[List.find?_eq_some_iff_getElem] at hf;obtain⟨-,i,hi,yx,eH⟩:=hf;rw[AX] at yx;subst yx;rcases dV j i with h|h
  ·have:=eH j h;rw[AX] at this;simp only[zj,Bool.and_eq_false_imp,decide_eq_true_eq,Bool.not_eq_false',decide_eq_true_eq] at this;exact absurd (this hr) (he ah)
  ·rw[Nat.le_antisymm h hkj]
def asI{pv:List Nat}{k:Nat}{b o:List Int}(hf:ov t pv.length c=aa k)(hb:t[k]?=aa b)(ho:t[pv.length]?=aa o):
 xA (t,pv) c=(qc c (iD c b (eE (ak b c))) pv.length t.length (((t.set pv.length b).set k o).set pv.length (iD c b (eE (ak b c)))),pv++[c]):=by
 have hk:=(aV.1 hb).1;have hr:=(aV.1 ho).1;have gb:t.getD k []=b:=by rw[dS,hb];rfl
 have go:t.getD pv.length []=o:=by rw[dS,ho];rfl
 unfold xA;simp only[hf,gb,go];congr 1;generalize iD c b (eE (ak b c))=s;have e1:((t.set pv.length b).set k o).set pv.length s=(t.set k o).set pv.length s:=by
  by_cases e:k=pv.length
  ·subst e;simp
  ·rw[List.set_comm _ _ (λq=>e q.symm),Db]
 rw[e1];apply qL;intro i;rw[ab1,wx];by_cases e:i=pv.length
 ·subst e;rw[List.getElem?_set_self (by rw[mS];exact hr)];simp
 ·cases hi:((t.set k o).set pv.length s)[i]? with|none=>rfl|some x=>have:=(aV.1 hi).1;rw[mS,mS] at this;simp[e,this]
end
end Go.NT
end
section
namespace Go.NT
def MB(l:List Pr)(ld le:Int->Int):Prop:=∀p∈l,p.d=((bC Gn (ld p.au):Nat):Int)/\p.e=((bC Gn (le p.au):Nat):Int)
def VR(bu)(v):okF ((tg bu v:Nat):Int):=yK.1 (VQ bu v)
def HJ(x)(bu)(v):sL x (tg bu v)=bC x ((tg bu v:Nat):Int):=by unfold bC;rw[By (VR bu v),dK]
def Yr{text}{l}{p}{d e}(hd:p.d=((bC Gn d:Nat):Int))(he:p.e=((bC Gn e:Nat):Int))(c0):
 iL c0 text l p=bC Gn (d+e * ((eY c0 text l p.au:Nat):Int)):=by
 unfold iL;rw[hd,he,dK,dK];unfold eY;rw[HJ,<-EM qK,<-EL qK]
def amV{text}{l}{ld le}(h:MB l ld le)(c0):
 gV c0 text l=bC Gn (cJ (l.map λp=>ld p.au+le p.au * ((eY c0 text l p.au:Nat):Int))):=by
 unfold gV;exact QG λp hp=>Yr (h p hp).1 (h p hp).2 c0
def jF(ag sh:List Int)(k:Int):List (Int × Int):=(eu ag k).map λi=>((i:Nat),ak sh i)
def ze(y sh:List Int)(L:List Nat):Int:=cJ (L.map λi=>ak y i * ak sh i)
def auz(y ag sh)(k):Qi∣gZ y (jF ag sh k) - ze y sh (eu ag k):=by
 unfold gZ jF ze;rw[List.foldl_map];have h1:=NW (f:=λi:Nat=>bX (ak y i) (ak sh i)) (l:=eu ag k) 0;rw[FC] at h1;have e:(λ(a:Int) (i:Nat)=>cQ a (bX (ak y (((i:Nat):Int)).toNat) (ak sh i)))=λa i=>cQ a (bX (ak y i) (ak sh i)):=by funext a i;rw[dK]
 simp only[e];exact DG h1 (Iv λi _=>JF _ _)
def ata{α:Type}{f}{p}:∀{l:List α},cJ ((l.filter p).map f)=cJ (l.map λi=>if p i=ai then f i else 0):=by
 intro l
 induction l with
 |nil=>rfl|cons x l ih=>
  cases hp:p x
  ·rw[abY (by simp[hp]),ih];simp only[eK,cJ,hp];simp
  ·rw[abZ hp];simp only[eK,cJ,hp,ih];simp
def atd{n v}:∀{aA:List Int},aA.Nodup->cJ (aA.map λk=>if decide (n=k)=ai then v else 0)=if n∈aA then v else 0:=by
 intro aA
 induction aA with
 |nil=>intro _;rfl|cons k l ih=>
  intro h;obtain⟨h1,h2⟩:=FM.1 h;simp only[eK,cJ,ih h2];by_cases hk:n=k
  ·subst hk;simp[h1]
  ·simp[hk]
def ap6{ag y sh}{aA:List Int}(hn:aA.Nodup)(h0:∀i,ak ag i∉aA->ak y i=0):
 cJ (aA.map λk=>ze y sh (eu ag k))=cJ ((bR ag.length).map λi=>ak y i * ak sh i):=by
 have e1:(λk=>ze y sh (eu ag k))=λk=>cJ ((bR ag.length).map λi=>if decide (ak ag i=k)=ai then ak y i * ak sh i else 0):=by funext k;exact ata
 rw[e1,aaT];refine RG λi _=>?_;rw[atd hn];split
 ·rfl
 ·rename_i h;rw[h0 i h,IT]
def Qs:∀{cW:Int} {aA:List Int},gx cW aA=true->(∀n∈aA,cW<n/\n<=63)/\aA.Nodup:=by
 intro cW aA
 induction aA generalizing cW with
 |nil=>intro _;exact⟨λn hn=>by simp at hn,.nil⟩|cons n l ih=>
  intro h;rw[gx] at h;simp only[bL,decide_eq_true_eq] at h;obtain⟨h1,h2⟩:=ih h.2;refine⟨λm hm=>?_,FM.2 ⟨λhm=>?_,h2⟩⟩
  ·rcases iq.1 hm with rfl|hm
   ·exact h.1
   ·have:=h1 m hm;exact⟨ah,this.2⟩
  ·have:=h1 n hm;omega
def lI(ae:List (List Int))(ag aj:List Int)(text:List UInt8)(l:List Pr)(k d f:Int)(s:List (Int × Int)):Int:=
 cQ (cQ d (bX f (eY (ak aj 0) text l k))) (bX (eZ (ak aj 0) text l) (gZ (eF ae ag l) s))
def amD{ae}{ag aj}{text}{l}{k d f}{s}:okF (lI ae ag aj text l k d f s):=Gh _ _
def YM(ae)(ag aj)(text)(l)(k d f)(sh):
 Qi∣lI ae ag aj text l k d f (jF ag sh k) - (d+f * ((eY (ak aj 0) text l k:Nat):Int)+((eZ (ak aj 0) text l:Nat):Int) * ze (eF ae ag l) sh (eu ag k)):=by
 unfold lI;generalize ((eY (ak aj 0) text l k:Nat):Int)=b;generalize ((eZ (ak aj 0) text l:Nat):Int)=c;have h1:=auz (eF ae ag l) ag sh k;generalize gZ (eF ae ag l) (jF ag sh k)=w at *
 generalize ze (eF ae ag l) sh (eu ag k)=v at *
 have h2:=US (cQ d (bX f b)) (bX c w);have h3:=US d (bX f b);have h4:=JF f b;have h5:=JF c w;have h6:Qi∣c * (w - v):=Fy h1;rw[zx] at h6;have:=xK (xK (xK h2 h3) (xK h4 h5)) h6;refine(congrArg (Qi∣·) ?_).mp this;generalize f * b=x1;generalize c * w=x2;generalize c * v=x3;omega
def amF{ae}{ag y s}{text}{l}{ld le:Int->Int}(ha:gC ae ag (l.map Pr.au)=(y,ai,0))(hs:s.length=b9 ae):
 Qi∣cJ ((l.map Pr.au).map λk=>lI ae ag (dT s) text l k (ld k) (le k) (jF ag (ie ae s) k)) -
  (cJ ((l.map Pr.au).map λk=>ld k+le k * ((eY (ak (dT s) 0) text l k:Nat):Int))+((eZ (ak (dT s) 0) text l:Nat):Int) * ak s 0):=by
 obtain⟨hp,hw,h1,h2,h3,h4⟩:=zG ha;obtain⟨p1,-,-,-⟩:=o9 hp;have hn:=(Qs hw).2;have e1:=Iv (q:=Qi) (l:=l.map Pr.au) (f:=λk=>lI ae ag (dT s) text l k (ld k) (le k) (jF ag (ie ae s) k))
  (g:=λk=>ld k+le k * ((eY (ak (dT s) 0) text l k:Nat):Int)+((eZ (ak (dT s) 0) text l:Nat):Int) * ze (eF ae ag l) (ie ae s) (eu ag k))
  λk _=>YM ae ag (dT s) text l k (ld k) (le k) (ie ae s)
 refine DG e1 ?_;rw[aaS,LI];have hy:eF ae ag l=y:=by unfold eF;rw[ha]
 rw[hy,ap6 hn h3,<-p1];have h5:=auk ha hs;have h6:Qi∣((eZ (ak (dT s) 0) text l:Nat):Int) * (cJ ((bR ae.length).map λi=>ak y i * ak (ie ae s) i) - ak s 0):=Fy h5;rw[zx] at h6;refine(congrArg (Qi∣·) ?_).mp h6;omega
def agc{s}(h:0<s.length):ak (dT s) 0=((bC Gn (ak s 0):Nat):Int):=Tt h
def adl(z):Qi∣z.foldl cQ 0 - cJ z:=by have:=NW (f:=λx:Int=>x) (l:=z) 0;rw[FC,List.map_id'] at this;exact this
def adm(z:List Int):okF (z.foldl cQ 0):=Ve (f:=λx:Int=>x) AD
def aal{ae}{ag y s}{text}{l}{ld le}(ha:gC ae ag (l.map Pr.au)=(y,ai,0))(hs:s.length=b9 ae)(hl:MB l ld le):
 vR (ak (dT s) 0) text ((eZ (ak (dT s) 0) text l:Nat):Int) (((l.map Pr.au).map λk=>lI ae ag (dT s) text l k (ld k) (le k) (jF ag (ie ae s) k)).foldl cQ 0)=ai:=by
 obtain⟨hp,-⟩:=zG ha;have lG:0<s.length:=by have:=(uW hp).1;omega
 have h1:=amF (text:=text) (ld:=ld) (le:=le) ha hs;have h2:=adl ((l.map Pr.au).map λk=>lI ae ag (dT s) text l k (ld k) (le k) (jF ag (ie ae s) k));have h3:=DG h2 h1;have O9:=amV (text:=text) hl (ak (dT s) 0);have e:(l.map Pr.au).map (λk=>ld k+le k * ((eY (ak (dT s) 0) text l k:Nat):Int))=l.map λp=>ld p.au+le p.au * ((eY (ak (dT s) 0) text l p.au:Nat):Int):=by rw[AZ];rfl
 rw[e] at h3;have hc:eZ (ak (dT s) 0) text l=tK ((gV (ak (dT s) 0) text l:Nat):Int) (ak (dT s) 0) text:=rfl;rw[O9] at hc;generalize eZ (ak (dT s) 0) text l=c at *
 generalize cJ (l.map λp=>ld p.au+le p.au * ((eY (ak (dT s) 0) text l p.au:Nat):Int))=n at *
 rw[agc lG] at *
 exact aud hc (adm _) h3
def aaj{ae}{s}{i}(h:i<ae.length):ak (ie ae s) i=qh (ae.getD i []) s:=by unfold ie;rw[ga (by simpa using h),qN,ki h]
def auh{ae}{ag s}{text}{l}{x}{d f}(hp:de ae ag=0)(hs:s.length=b9 ae)(hd:x.d=((bC Gn d:Nat):Int))(he:x.e=((bC Gn f:Nat):Int)):
 uD ae ag (dT s) text l x=bC Gn (lI ae ag (dT s) text l x.au d f (jF ag (ie ae s) x.au)):=by
 obtain⟨p1,p2,p3,p4⟩:=o9 hp;unfold uD;rw[Yr hd he,QG (a:=λi=>ak (eF ae ag l) i * ak (ie ae s) i * ((eZ (ak (dT s) 0) text l:Nat):Int)) λi hi=>?_];rotate_left 1
 ·have hi:i<ae.length:=by rw[p1];unfold eu at hi;exact gB.1 (uL.1 hi).1
  rw[Y9 (by rw[hs,ki hi];exact(p3 _ (iG _)).1),<-EM qK,aaj hi];congr 1;rw[zw (ak (eF ae ag l) i) (qh _ _),Int.mul_assoc]
 rw[<-EL qK];refine(Qw ?_).symm;have h1:=YM ae ag (dT s) text l x.au d f (ie ae s);have e:cJ ((eu ag x.au).map λi=>ak (eF ae ag l) i * ak (ie ae s) i * ((eZ (ak (dT s) 0) text l:Nat):Int))=((eZ (ak (dT s) 0) text l:Nat):Int) * ze (eF ae ag l) (ie ae s) (eu ag x.au):=by unfold ze;rw[<-LI];exact RG λi _=>zw _ _
 rw[e];exact h1
def ahJ{ae}{ag s}{text}{l}{x}{d f z}(hp:de ae ag=0)(hs:s.length=b9 ae)(hd:x.d=((bC Gn d:Nat):Int))(he:x.e=((bC Gn f:Nat):Int))(hz:okF z):
 decide (bC Gn z=uD ae ag (dT s) text l x)=decide (z=lI ae ag (dT s) text l x.au d f (jF ag (ie ae s) x.au)):=by
 rw[auh hp hs hd he,decide_eq_decide];exact⟨λh=>anh hz amD h,λh=>by rw[h]⟩
def amn{ae}{ag s}(hp:de ae ag=0)(hs:s.length=b9 ae)(k):lj ae ag (dT s) k (jF ag (ie ae s) k)=ai:=by
 obtain⟨p1,p2,p3,p4⟩:=o9 hp;unfold lj jF;rw[bL];refine⟨by simp[AZ,Function.comp_def],?_⟩;rw[ej];intro q hq;obtain⟨i,hi,rfl⟩:=ju.1 hq;have hi:i<ae.length:=by rw[p1];unfold eu at hi;exact gB.1 (uL.1 hi).1
 unfold y6;simp only[dK];have tz:gN (dT s) (ae.getD i [])=bC Gn (qh (ae.getD i []) s):=Y9 (by rw[hs,ki hi];exact(p3 _ (iG _)).1);rw[aaj hi,yK.2 (agV _ _),Bool.true_and];exact cz tz.symm
def YI{l}{cW}(h:fQ cW l=true){p}(hp:p∈l):mN l p.au=some p:=by
 induction l generalizing cW with
 |nil=>simp at hp|cons q l ih=>
  rw[fQ] at h;simp only[bL,decide_eq_true_eq] at h;unfold mN;rw[List.find?_cons];rcases iq.1 hp with rfl|hp
  ·simp
  ·have GG:∀{l:List Pr} {cW:Int},fQ cW l=ai->∀p∈l,cW<p.au:=by
    intro l
    induction l with
    |nil=>intro _ _ p hp;simp at hp|cons q l ih=>
     intro cW h p hp;rw[fQ] at h;simp only[bL,decide_eq_true_eq] at h;rcases iq.1 hp with rfl|hp
     ·exact h.1.1.1.1.1.1
     ·have:=ih h.2 p hp;have:=h.1.1.1.1.1.1;omega
   have:=GG h.2 p hp;have bO:decide (q.au=p.au)=az:=cT ah;rw[bO];exact ih h.2 hp
def alo{ae}{ag s}{text}{l}{cW}(hp:de ae ag=0)(hs:s.length=b9 ae)(hl:fQ cW l=ai){x}(hx:x∈l){d f}(hd:x.d=((bC Gn d:Nat):Int))(he:x.e=((bC Gn f:Nat):Int))(od:okF d)(of_:okF f):
 xc ae ag (dT s) text l x.au (jF ag (ie ae s) x.au) d f=(lI ae ag (dT s) text l x.au d f (jF ag (ie ae s) x.au),0):=by
 unfold xc;rw[YI hl hx];simp only[yK.2 od,yK.2 of_,amn hp hs,hd,he];simp[lI]
end Go.NT
end
section
namespace Go.Proofs.YtnfciiiohoafaaaGreatDoor
open Go.AE Go.NT
def TR:pX aN []:=λg h=>nomatch h
def aox(a n:Int)(h:ao):W.call 132 [im a,im n] h=aa (.ret (.tuple [im (ft a n),im (mJ a)]),h):=by
 have ca:=Lt a;unfold ft mJ;by_cases ha:bN a=ai
 ·rw[aG ha,aG ha];rw[ha] at ca;obtain⟨x,rfl,hx,x1,x2⟩:=Bp ha;have ce:=ahs n;have aB:=NS n;have hm:=Bz n;have cp:=ZF (bC x n) x (fmod n).toNat (by have:Q=1073741789:=rfl;omega) (nJ.start x2 (by have:Q=1073741789:=rfl;omega));rw[hm] at cp;simp only[dK];clear ha hx x1 x2 aB hm;unfold im at *
  refine cL rfl acO rfl ?_;exact jh @ZJ
 ·have nf:bN a=az:=by simpa using ha
  rw[aH ha,aH ha];rw[nf] at ca;unfold im at *
  refine cL rfl acO rfl ?_;exact jh @ZJ
def aor(a b:Int)(h:ao):W.call 140 [im a,im b] h=aa (.ret (.tuple [im (jx a b),im (me a b)]),h):=by
 have ca:=Lt a;have cb:=Lt b;unfold jx me;by_cases ha:bN a=ai
 ·by_cases hb:bN b=ai
  ·rw[aG ⟨ha,hb⟩,aG ⟨ha,hb⟩];rw[ha] at ca;rw[hb] at cb;obtain⟨x,rfl,-,-,x2⟩:=Bp ha;obtain⟨y,rfl,-,-,y2⟩:=Bp hb;obtain⟨m1,m2,-⟩:=mul_tmod x2 y2;simp only[dK];have e1:((x:Nat):Int) * (y:Nat)=((x * y:Nat):Int):=(Int.natCast_mul _ _).symm;have e3:((x * y:Nat):Int).tmod 2147483579=((x * y%P:Nat):Int):=oH (x * y) 2147483579;rw[e1] at m1 m2;clear ha hb;unfold im at *
   refine cL rfl SW rfl ?_;exact jh @QU
  ·have iA:bN b=az:=(by simpa using hb);rw[aH (λq=>hb q.2),aH (λq=>hb q.2)];rw[ha] at ca;rw[iA] at cb;unfold im at *
   refine cL rfl SW rfl ?_;exact jh @QU
 ·have nf:bN a=az:=by simpa using ha
  rw[aH (λq=>ha q.1),aH (λq=>ha q.1)];rw[nf] at ca;unfold im at *
  refine cL rfl SW rfl ?_;exact jh @QU
def aqE:Tryz.f223.results.toList=[.tmp 2]:=aw
def aqF:Tryz.f224.results.toList=[.tmp 4]:=aw
def ZZ:Tryz.f225.results.toList=[.cell 0 242]:=aw
def Ia:Tryz.f190.results.toList=[.cell 2 177]:=aw
def apA(v:BitVec 32)(n:Nat)(h0:0<n)(hn:n<32)(h:ao):W.call 224 [aU v,im (n:Nat)] h=aa (.ret (aU (NT.dL v n)),h):=by
 have e1:IntKind.i64.wrap (32 - ((n:Nat):Int))=((32 - n:Nat):Int):=by rw[gF ah ah];omega
 have s1:∀t x y,cZ aq .shr t x y (aU v) (.v (.int .i64 (n:Nat)))=aa (aU (v>>>n)):=λt x y=>sN hn;have s2:∀t x y,cZ aq .shl t x y (aU v) (.v (.int .i64 ((32 - n:Nat):Int)))=aa (aU (v<<<(32 - n))):=λt x y=>rz ah;have e3:NT.dL v n=(v>>>n)|||(v<<<(32 - n)):=rfl
 rw[e3];unfold im;refine cL rfl Tryz.func224 rfl ?_
 repeat' (first|simp(maxSteps:=999999)(disch:=first|exact dZ|fail)only[gW,reduceIte,aZ,aQ,aqF,o8, *]|(refine dX ?_ ?_<;>(intro _;try omega))|refine dR TR aw ?_)
def auq{a0 a1 a2 a3}(h0:a0<256)(h1:a1<256)(h2:a2<256)(h3:a3<256):(((a0<<<24)|||(a1<<<16))|||(a2<<<8))|||a3=(a0 * 256+a1) * 256 * 256+a2 * 256+a3:=by
 have e0:a0<<<24=(a0<<<8)<<<16:=by rw[<-SE]
 have e1:a1<<<16=(a1<<<8)<<<8:=by rw[<-SE]
 have e2:(a0<<<8)<<<16=((a0<<<8)<<<8)<<<8:=by rw[<-SE (a0<<<8) 8 8]
 rw[e0,e1,e2,<-SF,<-SF,<-SF,<-ML (show a1<2^8 from h1),<-ML (show a2<2^8 from h2),<-ML (show a3<2^8 from h3),A9,A9,A9];omega
def aur{b}:(BitVec.ofNat 32 (dz b 0).toNat<<<24|||BitVec.ofNat 32 (dz b 1).toNat<<<16)|||BitVec.ofNat 32 (dz b 2).toNat<<<8|||BitVec.ofNat 32 (dz b 3).toNat=pV b 0:=by
 have h0:=uC (dz b 0);have h1:=uC (dz b 1);have h2:=uC (dz b 2);have h3:=uC (dz b 3);unfold pV;rw[<-auq h0 h1 h2 h3];generalize (dz b 0).toNat=a0 at *
 generalize (dz b 1).toNat=a1 at *
 generalize (dz b 2).toNat=a2 at *
 generalize (dz b 3).toNat=a3 at *
 rw[BitVec.ofNat_or,BitVec.ofNat_or,BitVec.ofNat_or];have sh:∀a k:Nat,BitVec.ofNat 32 (a<<<k)=BitVec.ofNat 32 a<<<k:=λa k=>by apply BitVec.eq_of_toNat_eq;rw[BitVec.toNat_shiftLeft,BitVec.toNat_ofNat,BitVec.toNat_ofNat,A9,A9,Nat.mod_mul_mod]
 rw[sh,sh,sh]
def cvw(c)(h):nm aq h 5 42 (cq c)=aa (aU (BitVec.ofNat 32 c.toNat),h):=by unfold cq;rw[UC];unfold aU;have:=uC c;rw[wrap32,BitVec.toNat_ofNat];congr 3
def Ku{h}{b}{i}(hi:i<b.length):aI aq Gt h 5 (.elem 1 (bf b) i 0)=aa (cq (dz b i)):=by rw[rm Jc (row:=j8 (dz b i)) (by rw[ev,aT hi];unfold dz;rw[dS,aT hi];rfl)];rfl
def arW{t}{x y}{u}:cZ aq .shl t x y (aU u) (.v (.int .u64 24))=aa (aU (u<<<24))/\cZ aq .shl t x y (aU u) (.v (.int .u64 16))=aa (aU (u<<<16))/\cZ aq .shl t x y (aU u) (.v (.int .u64 8))=aa (aU (u<<<8)):=⟨rz (n:=24) aO,rz (n:=16) aO,rz (n:=8) aO⟩
def aru(b:List UInt8)(hb:4<=b.length)(k:Tok)(h:ao):W.call 223 [.list k 1 (bf b)] h=aa (.ret (aU (pV b 0)),h):=by
 have ix:∀n:Nat,n<b.length->dG aq 28 (.list k 1 (bf b)) (.v (.int .i64 (n:Nat)))=aa (.elem 1 (bf b) n 0):=λn hn=>by rw[a9 jv sO ah (by rw[bE];omega),dK]
 have i0:=ix 0 ah;have i1:=ix 1 ah;have i2:=ix 2 ah;have i3:=ix 3 ah;have l0:=Ku (h:=h) (ah:0<b.length);have l1:=Ku (h:=h) (ah:1<b.length);have l2:=Ku (h:=h) (ah:2<b.length);have l3:=Ku (h:=h) (ah:3<b.length);rw[<-aur];simp only[sQ,Int.natCast_one] at i0 i1;have i2:dG aq 28 (.list k 1 (bf b)) (.v (.int .i64 2))=aa (.elem 1 (bf b) 2 0):=i2;have i3:dG aq 28 (.list k 1 (bf b)) (.v (.int .i64 3))=aa (.elem 1 (bf b) 3 0):=i3;clear ix;refine cL rfl Tryz.func223 rfl ?_
 repeat' (first|simp(maxSteps:=999999)(disch:=first|exact dZ|fail)only[gW,reduceIte,aZ,aQ,aqE,cvw,arW,o8, *]|(refine dX ?_ ?_<;>(intro _;try omega))|refine dR TR aw ?_)
def aqB:Tryz.f210.results.toList=[.tmp 2]:=aw
def arT{t}{x y}{n}(hn:n<=4611686018427387903):cZ aq .shl t x y (.v (.int .u64 (n:Nat))) (.v (.int .u64 1))=aa (.v (.int .u64 ((2 * n:Nat):Int))):=by rw[Nd aO];congr 3;show IntKind.u64.wrap (((n:Nat):Int) * 2)=_;unfold IntKind.wrap;simp[IntKind.signed,IntKind.bits];omega
def arX{t}{x y}{n}(hn:n<=4611686018427387903):cZ aq .shr t x y (.v (.int .i64 (n:Nat))) (.v (.int .u64 63))=aa (.v (.int .i64 0)):=by rw[Bg aO];congr 3;show((n:Nat):Int).fdiv (2^63)=_;rw[Fz _ aO];omega
def auA{t}{x y}{n}(hn:n<=4611686018427387903):cZ aq .xor t x y (.v (.int .u64 ((2 * n:Nat):Int))) (.v (.int .u64 0))=aa (.v (.int .u64 ((2 * n:Nat):Int))):=by
 rw[Tz];congr 3;have e1:(BitVec.ofInt IntKind.u64.bits ((2 * n:Nat):Int)^^^BitVec.ofInt IntKind.u64.bits 0).toNat=2 * n:=by show(BitVec.ofInt 64 ((2 * n:Nat):Int)^^^0#64).toNat=2 * n;rw[BitVec.xor_zero,BitVec.toNat_ofInt];omega
 rw[e1];unfold IntKind.wrap;simp[IntKind.signed,IntKind.bits];omega
def vT{n}(hn:n<18446744073709551616):IntKind.u64.wrap ((n:Nat):Int)=((n:Nat):Int):=by unfold IntKind.wrap;simp[IntKind.signed,IntKind.bits];omega
def atP(n)(hn:n<=4611686018427387903)(h):W.call 210 [.v (.int .i64 (n:Nat))] h=aa (.ret (.v (.int .u64 (lK n:Nat))),h):=by
 have e:lK (n:Int)=2 * n:=by unfold lK;rw[aG ah,dK]
 rw[e];have e1:=vT (n:=n) ah;have e2:IntKind.u64.wrap 0=0:=rfl;have s1:=λt x y=>arT (t:=t) (x:=x) (y:=y) hn;have s2:=λt x y=>arX (t:=t) (x:=x) (y:=y) hn;have s3:=λt x y=>auA (t:=t) (x:=x) (y:=y) hn;refine cL rfl Tryz.func210 rfl ?_;exact jI @aqB @qR
def L1:List bm:=[28,29,30,46,65,66,69,78,82,94,132,138,140,194,201,210,223,224]
noncomputable def Qy:bm->Option (List AV->ao->Option (AV × ao)):=qb W L1
noncomputable abbrev W1:=whole aq Gt Qy
def uU:pX Qy L1:=xY
def fy{t}(k):rG t (cd k)=ai:=by cases k<;>rfl
def pJ:∀b:List UInt8,eU (bf b)=bf b
 | []=>rfl
 |c::b=>by show cr (j8 c)::eU (bf b)=_;rw[pJ b];rfl
def jS{n l t}:∀b:List UInt8,gL n l t (bf b)=ai
 | []=>rfl
 |c::b=>by show(aW n l t (j8 c)&&gL n l t (bf b))=ai;rw[jS b];rfl
def Ke:∀l:List Int,eU (ints l)=ints l
 | []=>rfl
 |c::b=>by show cr (yL c)::eU (ints b)=_;rw[Ke b];rfl
def nL{n l t}:∀b:List Int,gL n l t (ints b)=ai
 | []=>rfl
 |c::b=>by show(aW n l t (yL c)&&gL n l t (ints b))=ai;rw[nL b];rfl
section
variable (a b n x:Int)
def adh:∀h,W1.call 28 [im a,im b] h=aa (.ret (im (cQ a b)),h):=br (L:=L1) rfl rfl rfl (adk a b _) rfl rfl
def alB:∀h,W1.call 29 [im a,im b] h=aa (.ret (im (bX a b)),h):=br (L:=L1) rfl rfl rfl (P8 a b _) rfl rfl
def aki:∀h,W1.call 201 [im n] h=aa (.ret (.tuple [im (if fmod n=0 then 0 else eE n),im (if fmod n=0 then 90 else 0)]),h):=br (L:=L1) rfl rfl rfl (akk n _) rfl rfl
def atY:∀h,W1.call 46 [im x] h=aa (.ret (.v (.bool (bN x))),h):=br (L:=L1) rfl rfl rfl (LQ x _) rfl rfl
def aid:∀h,W1.call 69 [im a,im b] h=aa (.ret (.tuple [im (jx a b),im (me a b)]),h):=br (L:=L1) rfl rfl rfl (aii a b _) rfl rfl
def aij:∀h,W1.call 30 [im a,im n] h=aa (.ret (.tuple [im (ft a n),im (mJ a)]),h):=by obtain⟨h',hc,-⟩:=aim a n ⟨[],[],0,[]⟩;exact br (L:=L1) rfl rfl rfl hc rfl rfl
def anN:∀h,W1.call 65 [im a,im b] h=aa (.ret (im (cQ a b)),h):=br (L:=L1) rfl rfl rfl (anS a b _) rfl rfl
def apt:∀h,W1.call 66 [im a,im b] h=aa (.ret (im (bX a b)),h):=br (L:=L1) rfl rfl rfl (QN a b _) rfl rfl
def aoL:∀h,W1.call 194 [im n] h=aa (.ret (.tuple [im (if fmod n=0 then 0 else eE n),im (if fmod n=0 then 90 else 0)]),h):=br (L:=L1) rfl rfl rfl (aoQ n _) rfl rfl
def arn:∀h,W1.call 94 [im x] h=aa (.ret (.v (.bool (bN x))),h):=br (L:=L1) rfl rfl rfl (Lt x _) rfl rfl
def aol:∀h,W1.call 140 [im a,im b] h=aa (.ret (.tuple [im (jx a b),im (me a b)]),h):=br (L:=L1) rfl rfl rfl (aor a b _) rfl rfl
def aos:∀h,W1.call 132 [im a,im n] h=aa (.ret (.tuple [im (ft a n),im (mJ a)]),h):=br (L:=L1) rfl rfl rfl (aox a n _) rfl rfl
end
def atO(n)(hn:n<=4611686018427387903):∀h,W1.call 210 [.v (.int .i64 (n:Nat))] h=aa (.ret (.v (.int .u64 (lK n:Nat))),h):=br (L:=L1) rfl rfl rfl (atP n hn _) rfl rfl
def xj(v)(n)(h0:0<n)(hn:n<32):∀h,W1.call 224 [aU v,im (n:Nat)] h=aa (.ret (aU (NT.dL v n)),h):=br (L:=L1) rfl rfl rfl (apA v n h0 hn _) rfl rfl
def art(b)(hb:4<=b.length)(k):∀h,W1.call 223 [.list k 1 (bf b)] h=aa (.ret (aU (pV b 0)),h):=
 br (L:=L1) (cA:=[.list (cd k) 1 (bf b)]) rfl (by rw[cr,aD,pJ];rfl) (by simp[aW,aL,fy,jS]) (aru b hb _ _) rfl rfl
def ah8(bu b)(k)(hb:b.length<=1099511620000)(ht:bu.length<=1099511620000):∀h,W1.call 78 [.v (.string (bs bu)),.list k 1 (bf b)] h=aa (.ret (im (mK (gi bu b):Nat)),h):=by obtain⟨h',hc,-⟩:=aic bu b (.list (cd k) 1 (bf b)) ⟨[],[],0,[]⟩ (dQ.list (zL _) λ_=>rfl) hb ht;exact br (L:=L1) (cA:=[.v (.string (bs bu)),.list (cd k) 1 (bf b)]) rfl (by rw[cr,cr,aD.eq_1,pJ];rfl) (by simp[aW,aL,fy,jS]) hc rfl rfl
def sv(s:List UInt8):AV:=.v (.string (bs s))
def aJ(k n:Int)(s:List UInt8)(t:Tok)(sz:Nat)(ae:List (List AV)):List AV:=[im k,im n,sv s,.list t sz ae]
inductive cY:Vl->List AV->Prop
 |int (n:Int) (hn:0<=n/\n<=4611686018427387903):cY (.int n) (aJ 1 n [] .nil 0 [])
 |text (s:List UInt8) (hs:s.length<=1099511620000):cY (.text s) (aJ 2 0 s .nil 0 [])
 |list (l:List Vl) (k:Tok) (sz:Nat) (ae:List (List AV)) (hl:ae.length=l.length) (hs:ae≠[]->sz=4) (hm:ae.length<=1000000) (h:∀(i:Nat) v r,l[i]?=aa v->ae[i]?=aa r->cY v r):cY (.list l) (aJ 3 0 [] k sz ae)
def cY.len{v}{r}(h:cY v r):r.length=4:=by cases h<;>rfl
def jV{k n}{s}{t}{sz}{ae}:(AV.agg (aJ k n s t sz ae)).cD=aa (aJ k n s t sz ae):=rfl
def cY.cells{v}{r}(h:cY v r):(AV.agg r).cD=aa r:=by cases h<;>rfl
def Ig:Tryz.f207.results.toList=[.tmp 2,.tmp 3]:=aw
def MW:gU aq 96=aa ai:=aw
def pS:dC aq 96=aa 4:=aw
def Th:gU aq 94=aa az:=aw
def ag9:gU aq 9=aa az:=aw
def ag4:gU aq 4=aa az:=aw
def atl:dC aq 246=aa 4:=aw
section
variable {H:ao} {b:Nat} {k n:Int} {s:List UInt8} {t:Tok} {sz:Nat} {ae:List (List AV)}
def sG(hb:H.boxes[b]?=aa (aJ k n s t sz ae)):aI aq Gt H 3 (.ptr (.box b) 0)=aa (.v (.int .i64 k)):=by rw[mw fa hb];rfl
def vx(hb:H.boxes[b]?=aa (aJ k n s t sz ae)):aI aq Gt H 3 (.ptr (.box b) 1)=aa (.v (.int .i64 n)):=by rw[mw fa hb];rfl
def tF(hb:H.boxes[b]?=aa (aJ k n s t sz ae)):aI aq Gt H 9 (.ptr (.box b) 2)=aa (.v (.string (bs s))):=by rw[mw ag9 hb];rfl
def nV(hb:H.boxes[b]?=aa (aJ k n s t sz ae)):aI aq Gt H 94 (.ptr (.box b) 3)=aa (.list t sz ae):=by rw[mw Th hb];rfl
def pP{r:List AV}(hr:r.length=4)(hb:H.boxes[b]?=aa r):aI aq Gt H 96 (.ptr (.box b) 0)=aa (.agg r):=by rw[iC MW pS hb ah,iX,<-hr,fI]
end
def fO:(∀b,iy aq 96 (.ptr (.box b) 0) 0=aa (.ptr (.box b) 0))/\(∀b,iy aq 96 (.ptr (.box b) 0) 1=aa (.ptr (.box b) 1))/\(∀b,iy aq 96 (.ptr (.box b) 0) 2=aa (.ptr (.box b) 2))/\∀b,iy aq 96 (.ptr (.box b) 0) 3=aa (.ptr (.box b) 3):=⟨λ_=>aw,λ_=>aw,λ_=>aw,λ_=>aw⟩
def b4(a b c:Bool):List AV:=[.v (.bool az),.v (.bool a),.v (.bool b),.v (.bool c)]
def M5(a b c):mW aq 246 [(1,.v (.bool a)),(2,.v (.bool b)),(3,.v (.bool c))]=aa (.agg (b4 a b c)):=aw
def auE:(jf aq 246).bind AV.cD=aa (b4 az az az):=aw
def xD:(jf aq 96).bind AV.cD=aa (aJ 0 0 [] .nil 0 []):=aw
def Rv(H:ao)(a b c):cI aq (H.push (b4 az az az)) 246 (.ptr (.box H.boxes.length) 0) (.agg (b4 a b c))=aa (H.push (b4 a b c)):=l9 rfl atl rfl rfl
def PF{b n}{k}(hn:n<4):dG aq 246 (.ptr (.box b) 0) (.v (.int k (n:Nat)))=aa (.ptr (.box b) n):=by have h1:aq.underlying 246=aa (.array 4 4):=Tryz.underlying246;have sz4:dC aq 4=aa 1:=aw;unfold dG;simp only[h1,sz4];rw[aG ⟨ah,by omega⟩];simp
def PG{b}:dG aq 246 (.ptr (.box b) 0) (.v (.int .i64 1))=aa (.ptr (.box b) 1)/\dG aq 246 (.ptr (.box b) 0) (.v (.int .i64 2))=aa (.ptr (.box b) 2)/\dG aq 246 (.ptr (.box b) 0) (.v (.int .i64 3))=aa (.ptr (.box b) 3):=⟨PF (n:=1) aO,PF (n:=2) aO,PF (n:=3) aO⟩
def ldb{H}{b}{x y z}(hb:H.boxes[b]?=aa (b4 x y z)):aI aq Gt H 4 (.ptr (.box b) 1)=aa (.v (.bool x))/\aI aq Gt H 4 (.ptr (.box b) 2)=aa (.v (.bool y))/\aI aq Gt H 4 (.ptr (.box b) 3)=aa (.v (.bool z)):=by refine⟨?_,?_,?_⟩<;>(rw[mw ag4 hb];rfl)
def PI{H:ao}{x}{p q r}:aI aq Gt ((H.push x).push (b4 p q r)) 4 (.ptr (.box (H.push x).boxes.length) 1)=aa (.v (.bool p))/\aI aq Gt ((H.push x).push (b4 p q r)) 4 (.ptr (.box (H.push x).boxes.length) 2)=aa (.v (.bool q))/\aI aq Gt ((H.push x).push (b4 p q r)) 4 (.ptr (.box (H.push x).boxes.length) 3)=aa (.v (.bool r)):=ldb (bh _ _)
def RF{H:ao}{v}{r}(hv:cY v r):cI aq (H.push (aJ 0 0 [] .nil 0 [])) 96 (.ptr (.box H.boxes.length) 0) (.agg r)=aa (H.push r):=l9 hv.cells pS hv.len rfl
def Hr{H}{ae}{i}{r}(hl:r.length=4)(hr:ae[i]?=aa r):aI aq Gt H 96 (.elem 4 ae i 0)=aa (.agg r):=by rw[Kw MW pS hr ah,iX,<-hl,fI]
def NA:∀l m:List Vl,hJ (l++m)=max (hJ l) (hJ m)
 | [],m=>by simp[hJ]
 |v::l,m=>by rw[lN,hJ,hJ,NA l m,Nat.max_assoc]
def NB{l:List Vl}{i}{v}(h:l[i]?=aa v):hJ (l.take (i+1))=max (hJ (l.take i)) (gq v):=by rw[fW h,NA];simp[hJ]
def NC(l)(i):hJ (l.take i)<=hJ l:=by have:=NA (l.take i) (l.drop i);rw[xR] at this;omega
def UH{l}{i:Nat}{v}(h:l[i]?=aa v):gq v<=hJ l:=by have h1:=NB h;have h2:=NC l (i+1);omega
def ahW{v:Vl}{r:List AV}(hv:cY v r):gq v<=100->∀h,∃h',W1.call 207 [.agg r] h=aa (.ret (.tuple [.v (.int .i64 (gq v:Nat)),.v (.bool ai)]),h')/\Ext h h':=by
 have u9:=Dm;have u94:=py;have z:=auE
 induction hv with
 |int n hn=>
  intro _ h;refine iu rfl S0 rfl ?_;show bM _ _ _ _ (zS _ _ _ _ (.ret (.tuple [.v (.int .i64 0),.v (.bool ai)])) _)
  repeat' (first|simp(maxSteps:=999999)(disch:=first|exact dZ|fail)only[gW,reduceIte,aZ,aQ,Ig,M5,Rv,jV,sG,vx,tF,nV,PG,fO,PI,jY,sQ,decide_true, *]|refine dX ?_ ?_<;>(intro _;try omega))
  all_goals exact⟨_,rfl,(Ext.push _ _).trans (Ext.push _ _)⟩
 |text s hs=>
  intro _ h;refine iu rfl S0 rfl ?_;show bM _ _ _ _ (zS _ _ _ _ (.ret (.tuple [.v (.int .i64 0),.v (.bool ai)])) _)
  repeat' (first|simp(maxSteps:=999999)(disch:=first|exact dZ|fail)only[gW,reduceIte,aZ,aQ,Ig,M5,Rv,jV,sG,vx,tF,nV,PG,fO,PI,jY,sQ,decide_true, *]|refine dX ?_ ?_<;>(intro _;try omega))
  all_goals exact⟨_,rfl,(Ext.push _ _).trans (Ext.push _ _)⟩
 |list l k sz ae hl hs hm hr ih=>
  intro hd h;have kd:=al.mk hd;have kr:=al.mk hr;have kih:=al.mk ih;have kh:=al.mk hs;have kl:=al.mk hl;refine iu rfl S0 rfl ?_;clear hr ih hs hd hl;by_cases h0:(ae.length:Int)=0
  all_goals
   repeat' (first|simp(maxSteps:=999999)(disch:=first|exact dZ|fail)only[gW,reduceIte,aZ,aQ,Ig,M5,Rv,jV,sG,vx,tF,nV,PG,fO,PI,sQ,decide_true, *]|refine dX ?_ ?_<;>(intro _;try omega))
   refine cE (λm e H=>∃i:Nat,i<=ae.length/\m=ae.length - i/\e.get 55=.list k sz ae/\e.get 56=.v (.int .i64 (ae.length:Nat))/\e.get 57=.v (.int .i64 i)/\e.get 2=.v (.int .i64 (hJ (l.take i):Nat))/\e.defers=[]/\Ext h H) ?_ ae.length _ _ ?_;rotate_left 1
   ·refine⟨0,cG _,rfl,?_,?_,?_,?_,?_,(Ext.push _ _).trans (Ext.push _ _)⟩<;>(first|assumption|(simp only[gW,reduceIte,aZ,aQ]<;>first|rfl|(rw[h0])))
   rintro m e H ⟨i,hi,rfl,g55,g56,g57,g2,hd,hX⟩;have kX:=al.mk hX;clear hX;by_cases aB:i<ae.length
   ·obtain⟨r,hr⟩:∃r,ae[i]?=aa r:=⟨_,aT aB⟩;obtain⟨v,hv⟩:∃v,l[i]?=aa v:=⟨_,aT (by have:=kl.out;omega)⟩;have dJ:=kr.out i v r hv hr;have h4:sz=4:=kh.out (by rintro rfl;simp at aB);subst h4;have wN:gq (.list l)=hJ l+1:=rfl;have hdv:=UH hv;have BM:=NC l i;have GC:=kd.out;obtain⟨H2,c1,x1⟩:=kih.out i v r hv hr ah (H.push r);have ld:=Hr (H:=H) dJ.len hr;have st:=RF (H:=H) dJ;have l2:aI aq Gt (H.push r) 96 (.ptr (.box H.boxes.length) 0)=aa (.agg r):=pP dJ.len (bh _ _);have zz:=xD;have s96:=pS;have kX2:=al.mk (kX.out.trans ((Ext.push H r).trans x1));have kst:=al.mk (NB hv);have GN:(i:Int)<(ae.length:Int):=(by omega);clear kX dJ hv hr x1 wN GC;have qs:(if ((hJ (l.take i):Nat):Int)<((gq v:Nat):Int) then ((gq v:Nat):Int) else ((hJ (l.take i):Nat):Int))=((max (hJ (l.take i)) (gq v):Nat):Int):=by split<;>omega
    repeat' (first|simp(maxSteps:=999999)(disch:=first|exact dZ|fail)only[gW,reduceIte,aZ,aQ,Ig,a9,Cq, *]|refine dX ?_ ?_<;>(intro _;try omega))
    all_goals exact⟨ae.length - (i+1),by omega,i+1,by omega,rfl,by trivial,by trivial,by simp,by rw[kst.out],by trivial,kX2.out⟩
   ·have:i=ae.length:=(by omega);subst this;have GC:=kd.out;have e1:l.take ae.length=l:=(by rw[kl.out];exact fI);rw[e1] at g2;have wN:gq (.list l)=hJ l+1:=rfl;rw[wN] at GC ⊢;have e2:((hJ l+1:Nat):Int)=((hJ l:Nat):Int)+1:=by omega
    repeat' (first|simp(maxSteps:=999999)(disch:=first|exact dZ|fail)only[gW,reduceIte,aZ,aQ,Ig, *]|refine dX ?_ ?_<;>(intro _;try omega))
    all_goals exact⟨_,rfl,kX.out⟩
def Q5:Tryz.f209.results.toList=[.tmp 4]:=aw
def Jd{H}{k}{n0 sz}{es new}{x}{t1}(h1:(∃e,aq.underlying t1=aa (.slice e))∨aq.underlying t1=aa .string)(hx:mM H 1 x=aa (bf new))(bO:new≠[])(hl:es.length+new.length<=8796093022208)(hs:sz=1∨(es=[]/\k=.nil))(hk:dD n0 H k):
 gP aq H #[28,t1] (.list k sz (bf es)) x=aa (.list (.free H.tn) 1 (bf (es++new)),H.app k):=by
 obtain⟨i,q1,q2,q3,q4⟩:=Cj;have hb:=p7 hl q3;have:=F8 (t0:=28) (n0:=n0) (i:=i) (sz:=sz) (es:=bf es) (new:=bf new) jv h1 q1 ah (by rw[q2];exact q4) (by rw[q2];exact hx) (by simpa using bO)
  (by rw[bE,bE];omega) (by rw[bE,bE];omega) (hs.imp (λq=>q.trans q2.symm) λq=>⟨by rw[q.1];rfl,q.2⟩) hk
 rw[this,q2];simp[bf]
def zI{H}{k k'}{n0 sz}{es}{c}(hl:es.length<8796093022208)(hs:sz=1∨(es=[]/\k=.nil))(hk:dD n0 H k):
 gP aq H #[28,28] (.list k sz (bf es)) (.list k' 1 [[cq c]])=aa (.list (.free H.tn) 1 (bf (es++[c])),H.app k):=
 Jd (new:=[c]) (.inl ⟨_,jv⟩) rfl bH (by simp;omega) hs hk
def zK(c):fX aq 28 1 [(0,cq c)]=aa (.list .tight 1 [[cq c]]):=aw
def amd(c):c%256|||128=c%128+128:=by
 have h:∀d:Fin 256,(d.val|||128)=d.val%128+128:=by decide+kernel
 have:=h ⟨c%256,mV _ aO⟩;simp only at this;rw[this];omega
def ame{t}{x y}(c):cZ aq .or t x y (.v (.int .u8 (IntKind.u8.wrap (c:Nat)))) (.v (.int .u8 128))=aa (cq (UInt8.ofNat (c%128+128))):=by
 have hw:IntKind.u8.wrap ((c:Nat):Int)=((c%256:Nat):Int):=by unfold IntKind.wrap;simp[IntKind.signed,IntKind.bits]
 have ht:(UInt8.ofNat (c%128+128)).toNat=c%128+128:=by have:(UInt8.ofNat (c%128+128)).toNat=(c%128+128)%256:=UInt8.toNat_ofNat';omega
 unfold cq;rw[hw,Nc,ht];congr 3;have e1:BitVec.ofInt IntKind.u8.bits ((c%256:Nat):Int)=BitVec.ofNat 8 (c%256):=by apply BitVec.eq_of_toNat_eq;show(BitVec.ofInt 8 ((c%256:Nat):Int)).toNat=(BitVec.ofNat 8 (c%256)).toNat;rw[BitVec.toNat_ofInt,BitVec.toNat_ofNat];omega
 have e3:(BitVec.ofInt IntKind.u8.bits ((c%256:Nat):Int)|||BitVec.ofInt IntKind.u8.bits 128).toNat=c%128+128:=by rw[e1];show(BitVec.ofNat 8 (c%256)|||128#8).toNat=_;rw[BitVec.toNat_or,BitVec.toNat_ofNat,nI (ah:c%256<2^8)];exact amd c
 rw[e3,NM ah ah]
def arY{t}{x y}{n}:cZ aq .shr t x y (.v (.int .u64 (n:Nat))) (.v (.int .u64 7))=aa (.v (.int .u64 ((n/128:Nat):Int))):=by rw[Bg aO];congr 3;show((n:Nat):Int).fdiv (2^7)=_;rw[Fz _ aO];simp
def nW:∀(k u:Nat),(fL k u).length<=k+1
 |0,u=>by simp[fL]
 |k+1,u=>by
  rw[fL];split
  ·simp
  ·have:=nW k (u/128);simp;omega
def Qf(u:Nat)(hu:u<18446744073709551616)(es:List UInt8)(k:Tok)(sz n0:Nat)(h:ao)(ho:cO h=ai)(hk:dD n0 h k)(hn:n0<=h.tn)(hs:sz=1∨(es=[]/\k=.nil))(hl:es.length<=1099511627776):
 ∃r h',W1.call 209 [.list k sz (bf es),.v (.int .u64 (u:Nat))] h=aa (r,h')/\∃t,r=.ret (.list t 1 (bf (es++fL 9 u)))/\Grown n0 h h' t:=by
 have kG:=al.mk (Grown.refl hk ho);clear hk ho;refine da rfl Tryz.func209 rfl ?_;refine bI @Q5 ?_;refine cE (λm e H=>∃(j:Nat) (t:Tok) (cur:List UInt8) (s:Nat),j<=9/\m<2 * 128^j/\cur++fL j m=es++fL 9 u/\cur.length+j=es.length+9/\(s=1∨(cur=[]/\t=.nil))/\e.get 0=.list t s (bf cur)/\e.get 1=.v (.int .u64 (m:Nat))/\e.defers=[]/\Grown n0 h H t) ?_ u _ _ ?_;rotate_left 1
 ·exact⟨9,k,es,sz,aM _,by simpa using hu,rfl,rfl,hs,by exact gR,by exact gR,by exact gR,kG.out⟩
 clear kG hu;rintro m e H ⟨j,t,cur,s,hj,hm,hq,dF,hs,g0,g1,hd,hG⟩;have kG:=al.mk hG;have can:=al.mk hG.can;clear hG;by_cases Gl:m<128
 ·have GW:=Yt (k:=j) Gl;rw[GW] at hq;have uv:cq (UInt8.ofNat m)=.v (.int .u8 ((m:Nat):Int)):=by have:(UInt8.ofNat m).toNat=m%256:=UInt8.toNat_ofNat';unfold cq;rw[this,nI ah]
  have ec:¬((128:Int)<=((m:Nat):Int)):=by omega
  have ap:=zI (k':=.tight) (c:=UInt8.ofNat m) (ah:cur.length<8796093022208) hs can.out;rw[hq] at ap;have bl:=zK (UInt8.ofNat m);rw[uv] at ap bl;clear hm Gl GW hq uv;refine bV @Q5 @DD ?_;exact⟨_,_,rfl,_,rfl,kG.out.app hn⟩
 ·obtain⟨j',rfl⟩:∃j',j=j'+1:=⟨j - 1,by
   rcases j with _|j
   ·omega
   ·omega⟩
  have GW:=Yu (k:=j') (ah:128<=m);rw[GW] at hq;have ec:(128:Int)<=((m:Nat):Int):=by omega
  have bl:=zK (UInt8.ofNat (m%128+128));have ap:=zI (k':=.tight) (c:=UInt8.ofNat (m%128+128)) (ah:cur.length<8796093022208) hs can.out;have kq:=al.mk hq;have km:=al.mk hm;clear GW hq hm;refine bG @Q5 @DD @ame @arY ?_;refine⟨m/128,by omega,j',.free H.tn,cur++[UInt8.ofNat (m%128+128)],1,by omega,?_,?_,by simp;omega,.inl rfl,by trivial,by trivial,by trivial,kG.out.app hn⟩
  ·have:=km.out;rw[A8] at this;omega
  ·rw[sR];exact kq.out
def aqw:Tryz.f184.results.toList=[.tmp 0]:=aw
def Q4:Tryz.f208.results.toList=[.tmp 4]:=aw
def Q6:Tryz.f211.results.toList=[.tmp 4]:=aw
def EX:Tryz.f212.results.toList=[.tmp 5]:=aw
def iz:AV:=.v .nilFunc
def vS(a:Nat):List AV:=[iz,.func (.func 208) [] [],.func (.func 211) [] [],.func (.func 212) [] [.ptr (.box a) 0]]
def ati:dC aq 207=aa 1:=aw
def adr:gU aq 207=aa az:=aw
def ads:gU aq 210=aa az:=aw
def atj:dC aq 210=aa 1:=aw
def ad5:mW aq 237 []=aa (.agg [iz,iz,iz,iz]):=aw
def auB:(jf aq 210).bind AV.cD=aa [.v (.pointer ar)]:=aw
def Kq{b n}{k}(hn:n<4):dG aq 237 (.ptr (.box b) 0) (.v (.int k (n:Nat)))=aa (.ptr (.box b) n):=by have h1:aq.underlying 237=aa (.array 4 209):=Tryz.underlying237;have sz:dC aq 209=aa 1:=aw;unfold dG;simp only[h1,sz];rw[aG ⟨ah,by omega⟩];simp
def XE{b}:dG aq 237 (.ptr (.box b) 0) (.v (.int .i64 1))=aa (.ptr (.box b) 1)/\dG aq 237 (.ptr (.box b) 0) (.v (.int .i64 2))=aa (.ptr (.box b) 2)/\dG aq 237 (.ptr (.box b) 0) (.v (.int .i64 3))=aa (.ptr (.box b) 3):=⟨Kq (n:=1) aO,Kq (n:=2) aO,Kq (n:=3) aO⟩
def Br{r}{o}:iy aq 209 (.ptr r o) 0=aa (.ptr r o):=aw
def stw{h:ao}{c q}{k}{f}{a b}(hc:c.length=4)(hk:k<4):cI aq ((h.push c).push q) 207 (.ptr (.box h.boxes.length) k) (.func f a b)=aa ((h.push (c.set k (.func f a b))).push q):=by rw[ig (xs:=[.func f a b]) rfl ati (bA (bh _ _)) rfl ah];congr 1;rw[anF (by rw[cX];omega),pg];congr 2;unfold eT;rw[List.set_eq_take_append_cons_drop,aG ah];simp
def XK{H}{a b}(hb:H.boxes[a]?=aa [.ptr (.box b) 0]):aI aq Gt H 210 (.ptr (.box a) 0)=aa (.ptr (.box b) 0):=by rw[mw ads hb];rfl
def akA{h:ao}{c}:aI aq Gt ((h.push c).push [.ptr (.box h.boxes.length) 0]) 210 (.ptr (.box (h.push [iz,iz,iz,iz]).boxes.length) 0)=aa (.ptr (.box h.boxes.length) 0):=by refine XK ?_;rw[cX,<-cX h c];exact bh _ _
def asv{H:ao}{b}:cI aq (H.push [.v (.pointer ar)]) 210 (.ptr (.box H.boxes.length) 0) (.ptr (.box b) 0)=aa (H.push [.ptr (.box b) 0]):=l9 rfl atj rfl rfl
def auw(h:ao):W1.call 184 [] h=aa (.ret (.ptr (.box h.boxes.length) 0),(h.push (vS (h.boxes.length+1))).push [.ptr (.box h.boxes.length) 0]):=by
 have z:=auB;have cs:(AV.agg [iz,iz,iz,iz]).cD=aa [iz,iz,iz,iz]:=rfl;have e:vS (h.boxes.length+1)=(([iz,iz,iz,iz].set 1 (.func (.func 208) [] [])).set 2 (.func (.func 211) [] [])).set 3 (.func (.func 212) [] [.ptr (.box (h.push [iz,iz,iz,iz]).boxes.length) 0]):=by rw[cX];rfl
 rw[e];have l0:[iz,iz,iz,iz].length=4:=rfl;have l1:([iz,iz,iz,iz].set 1 (.func (.func 208) [] [])).length=4:=rfl;have l2:(([iz,iz,iz,iz].set 1 (.func (.func 208) [] [])).set 2 (.func (.func 211) [] [])).length=4:=rfl;refine cL rfl Tryz.func184 rfl ?_;exact mf @aqw @ad5 @asv (av @akA (av @XE (av @Br @stw)))
def ID:Vl->bm
 | .int _=>208
 | .text _=>211
 | .list _=>212
def IC(a:Nat):Vl->List AV
 | .list _=>[.ptr (.box a) 0]
 |_=>[]
def rQ:fX aq 28 1 [(0,.v (.int .u8 1))]=aa (.list .tight 1 [[cq 1]])/\fX aq 28 1 [(0,.v (.int .u8 2))]=aa (.list .tight 1 [[cq 2]])/\fX aq 28 1 [(0,.v (.int .u8 3))]=aa (.list .tight 1 [[cq 3]]):=⟨zK 1,zK 2,zK 3⟩
def auu(n:Nat)(hn:n<=4611686018427387903)(es:List UInt8)(k:Tok)(sz n0:Nat)(H:ao)(ho:cO H=ai)(hk:dD n0 H k)(h0:n0<=H.tn)(hs:sz=1∨(es=[]/\k=.nil))(hl:es.length<=1099511627000):
 ∃r' H',W1.call 208 [.list k sz (bf es),.agg (aJ 1 (n:Nat) [] .nil 0 [])] H=aa (r',H')/\∃t,r'=.ret (.list t 1 (bf (es++dI (.int (n:Nat)))))/\Grown n0 H H' t:=by
 have g1:Grown n0 H (H.push (aJ 1 (n:Nat) [] .nil 0 [])) k:=(Grown.refl hk ho).push _;have ap:=zI (H:=H.push (aJ 1 (n:Nat) [] .nil 0 [])) (k':=.tight) (c:=1) (ah:es.length<8796093022208) hs g1.can;have g2:=g1.app h0;have hu:lK ((n:Nat):Int)<18446744073709551616:=by unfold lK;rw[aG ah];omega
 obtain⟨r3,H3,c3,t3,rfl,g3⟩:=Qf (lK ((n:Nat):Int)) hu (es++[1]) _ 1 n0 _ g2.ok g2.can (fJ h0 g2.tn) (.inl rfl) (by simp;omega);have kG:=al.mk (g2.trans g3);have ee:es++[1]++fL 9 (lK ((n:Nat):Int))=es++dI (.int (n:Nat)):=by rw[dI];simp
 rw[ee] at c3;clear g1 g2 g3 ho hk hs ee hu;refine da rfl Tryz.func208 rfl ?_;have cu:=atO n hn;refine bG @Q4 @rQ @jV (av @vx (av @fO @eL)) ?_;refine my [(2,4)] uU aw (λp hp=>?_) ?_
 ·simp only[lu] at hp;subst hp;refine rD (x:=.ptr (.box H.boxes.length) 1) (v:=.v (.int .i64 (n:Nat))) aw rfl rfl rfl aw (by simp[fe,lY]) ?_ ?_<;>(simp only[gl,fm];exact mf @Q4 @rQ @jV (av @vx (av @fO (av @eL @and_self))))
 refine bG @Q4 @rQ @jV (av @vx (av @fO @eL)) ?_;exact⟨_,_,rfl,_,rfl,kG.out⟩
def Ys(H)(s):mM H 1 (.v (.string (bs s)))=aa (bf s):=by unfold mM;simp[bs]
def Tm{H}{k}{n0}{es s}(hl:es.length+s.length<=8796093022208)(hk:dD n0 H k)(ho:cO H=ai)(hn:n0<=H.tn):
 ∃t H',gP aq H #[28,9] (.list k 1 (bf es)) (.v (.string (bs s)))=aa (.list t 1 (bf (es++s)),H')/\Grown n0 H H' t:=by
 by_cases hs:s=[]
 ·subst hs;obtain⟨i,q1,q2,q3,q4⟩:=Cj;refine⟨k,H,?_,Grown.refl hk ho⟩;rw[To jv (.inr Dm) q1 ah (by rw[q2];exact q4) (by rw[q2];exact Ys H []) (.inl q2.symm),jX]
 ·exact⟨_,_,Jd (.inr Dm) (Ys H s) hs hl (.inl rfl) hk,Grown.one hk ho hn⟩
def aaN(s):dW aq 9 (.v (.string (bs s)))=aa (.v (.int .i64 (s.length:Nat))):=by rw[XW Dm,Bi]
def auv(s:List UInt8)(kK:s.length<=1099511620000)(es:List UInt8)(k:Tok)(sz n0:Nat)(H:ao)(ho:cO H=ai)(hk:dD n0 H k)(h0:n0<=H.tn)(hs:sz=1∨(es=[]/\k=.nil))(hl:es.length<=1099511627000):
 ∃r' H',W1.call 211 [.list k sz (bf es),.agg (aJ 2 0 s .nil 0 [])] H=aa (r',H')/\∃t,r'=.ret (.list t 1 (bf (es++dI (.text s))))/\Grown n0 H H' t:=by
 have g1:Grown n0 H (H.push (aJ 2 0 s .nil 0 [])) k:=(Grown.refl hk ho).push _;have ap:=zI (H:=H.push (aJ 2 0 s .nil 0 [])) (k':=.tight) (c:=2) (ah:es.length<8796093022208) hs g1.can;have g2:=g1.app h0;obtain⟨r3,H3,c3,t3,rfl,g3⟩:=Qf s.length ah (es++[2]) _ 1 n0 _ g2.ok g2.can (fJ h0 g2.tn) (.inl rfl) (by simp;omega);have g4:=g2.trans g3;have nl:=nW 9 s.length;obtain⟨t4,H4,ap4,g5⟩:=Tm (es:=es++[2]++fL 9 s.length) (s:=s) (by simp;omega) g3.can g3.ok (fJ h0 (fJ g2.tn g3.tn));have kG:=al.mk (g4.trans g5);have ee:es++[2]++fL 9 s.length++s=es++dI (.text s):=by rw[dI];simp
 rw[ee] at ap4;have b0:(H.push (aJ 2 0 s .nil 0 [])).boxes[H.boxes.length]?=aa (aJ 2 0 s .nil 0 []):=bh _ _;have b1:((H.push (aJ 2 0 s .nil 0 [])).app k).boxes[H.boxes.length]?=aa (aJ 2 0 s .nil 0 []):=by rw[eL];exact b0
 have b3:H3.boxes[H.boxes.length]?=aa (aJ 2 0 s .nil 0 []):=g3.box _ _ b1;have l1:=tF b1;have l3:=tF b3;have l0:=tF b0;have sl:=aaN s;have hw:=vT (n:=s.length) ah;clear g1 g2 g3 g4 g5 ho hk hs ee b0 b1 b3 nl;refine da rfl Tryz.func211 rfl ?_;refine bG @Q6 @rQ @jV (av @fO @qR) ?_;refine my [(2,4),(2,9),(7,9)] uU aw (λp hp=>?_) ?_
 ·simp only[iq,uM,or_false] at hp;rcases hp with rfl|rfl|rfl
  all_goals
   refine rD (x:=.ptr (.box H.boxes.length) 2) (v:=.v (.string (bs s))) aw rfl rfl rfl aw (by simp[fe,lY]) ?_ ?_<;>(simp only[gl,fm];exact mf @Q6 @rQ @jV (av @fO (av @qR @and_self)))
 refine bG @Q6 @rQ @jV (av @fO @qR) ?_;exact⟨_,_,rfl,_,rfl,kG.out⟩
def Cm:Vl->Nat
 | .int _=>1
 | .text _=>2
 | .list _=>3
def PJ{H}{x}{v}{r}(hv:cY v r)(hb:H.boxes[x]?=aa r):aI aq Gt H 3 (.ptr (.box x) 0)=aa (.v (.int .i64 (Cm v:Nat))):=by cases hv<;>exact sG hb
def Eu{b}{v}:dG aq 237 (.ptr (.box b) 0) (.v (.int .i64 (Cm v:Nat)))=aa (.ptr (.box b) (Cm v)):=by exact Kq (by cases v<;>simp[Cm])
def XP{H}{a b}{v}(hb:H.boxes[b]?=aa (vS a)):aI aq Gt H 207 (.ptr (.box b) (Cm v))=aa (.func (.func (ID v)) [] (IC a v)):=by rw[mw adr hb];cases v<;>rfl
def UO{l:List Vl}{i}{v}(h:l[i]?=aa v):iY (l.take (i+1))=iY (l.take i)++dI v:=by rw[fW h,UM];simp[iY]
def UN(l)(i):(iY (l.take i)).length<=(iY l).length:=by have:=UM (l.take i) (l.drop i);rw[xR] at this;rw[this,dE];omega
mutual
def aab(v:Vl):∀r,cY v r->oF r r=ai:=by
 intro r h;cases h with|int n hn=>simp[aJ,oF,fe,lY,im,sv,xv,qF]|text s hs=>simp[aJ,oF,fe,lY,im,sv,xv,qF]|list l k sz ae hl hs hm hr=>have:=Rq l ae hl hr;simp[aJ,oF,fe,lY,im,sv,this];cases k<;>simp[xv]
def Rq(l:List Vl):∀ae:List (List AV),ae.length=l.length->(∀(i:Nat) v r,l[i]?=aa v->ae[i]?=aa r->cY v r)->qF ae ae=ai:=by
 intro ae hl h
 match l,ae,hl,h with
 | [],[],_,_=>rfl
 |v::l,r::ae,hl,h=>rw[qF,aab v r (h 0 v r rfl rfl),Rq l ae (by simpa using hl) λi v r hv hr=>h (i+1) v r (by simpa using hv) (by simpa using hr)];rfl
end
def aut{v:Vl}{r:List AV}(hv:cY v r):∀(a b:Nat) (es:List UInt8) (k:Tok) (sz n0:Nat) (H:ao),H.boxes[a]?=aa [.ptr (.box b) 0]->H.boxes[b]?=aa (vS a)->cO H=ai->dD n0 H k->n0<=H.tn->(sz=1∨(es=[]/\k=.nil))->es.length+(dI v).length<=1099511627000->
 ∃r' H',W1.call (ID v) (.list k sz (bf es)::.agg r::IC a v) H=aa (r',H')/\∃t,r'=.ret (.list t 1 (bf (es++dI v)))/\Grown n0 H H' t:=by
 induction hv with
 |int n hn=>intro a b es k sz n0 H _ _ ho hk h0 hs hl;obtain⟨m,rfl⟩:∃m:Nat,n=m:=⟨n.toNat,by omega⟩;exact auu m ah es k sz n0 H ho hk h0 hs ah
 |text s kK=>intro a b es k sz n0 H _ _ ho hk h0 hs hl;exact auv s kK es k sz n0 H ho hk h0 hs ah|list l kl szl ae eO kK hm hr ih=>
  intro a b es k sz n0 H ha hb ho hk h0 hs hl;have sr:=Rq l ae eO hr;have kr:=al.mk hr;have kih:=al.mk ih;have ksl:=al.mk kK;have kll:=al.mk eO;have enc:dI (.list l)=3::(fL 9 l.length++iY l):=by rw[dI]
  rw[enc] at hl ⊢;have g1:Grown n0 H (H.push (aJ 3 0 [] kl szl ae)) k:=(Grown.refl hk ho).push _;have ap:=zI (H:=H.push (aJ 3 0 [] kl szl ae)) (k':=.tight) (c:=3) (ah:es.length<8796093022208) hs g1.can;have g2:=g1.app h0;simp only[jn,dE] at hl;obtain⟨r3,H3,c3,t3,rfl,g3⟩:=Qf l.length ah (es++[3]) _ 1 n0 _ g2.ok g2.can (fJ h0 g2.tn) (.inl rfl) (by simp;omega);have g4:=g2.trans g3;have b0:(H.push (aJ 3 0 [] kl szl ae)).boxes[H.boxes.length]?=aa (aJ 3 0 [] kl szl ae):=bh _ _;have b1:((H.push (aJ 3 0 [] kl szl ae)).app k).boxes[H.boxes.length]?=aa (aJ 3 0 [] kl szl ae):=by rw[eL];exact b0
  have b3:H3.boxes[H.boxes.length]?=aa (aJ 3 0 [] kl szl ae):=g3.box _ _ b1;have l0:=nV b0;have l1:=nV b1;have l3:=nV b3;have u94:=py;have hw:=vT (n:=l.length) ah;have GN:((ae.length:Nat):Int)=((l.length:Nat):Int):=by rw[eO]
  have kG:=al.mk g4;have kha:=al.mk ha;have khb:=al.mk hb;have kl2:=al.mk hl;have sv0:fe (.list kl szl ae) (.list kl szl ae)=ai:=by rw[fe,sr,CO];cases kl<;>simp[xv]
  clear g1 g2 g3 g4 ho hk hs b0 b1 b3 hr ih kK eO sr ha hb hl;show ∃r' H',W1.call 212 [.list k sz (bf es),.agg (aJ 3 0 [] kl szl ae),.ptr (.box a) 0] H=aa (r',H')/\_;refine da rfl Tryz.func212 rfl ?_;refine bG @EX @rQ @jV (av @fO @qR) ?_;refine my [(2,4)] uU aw (λp hp=>?_) ?_
  ·simp only[lu] at hp;subst hp;refine rD (x:=.ptr (.box H.boxes.length) 3) (v:=.list kl szl ae) aw rfl rfl rfl aw (sv0) ?_ ?_<;>(simp only[gl,fm];exact mf @EX @rQ @jV (av @fO (av @qR @and_self)))
  refine bG @EX @rQ @jV (av @fO @qR) ?_;refine cE (λm e H1=>∃(i:Nat) (t:Tok),i<=l.length/\m=l.length - i/\e.get 0=.list t 1 (bf (es++[3]++fL 9 l.length++iY (l.take i)))/\e.get 2=.ptr (.box a) 0/\e.get 17=.list kl szl ae/\e.get 18=.v (.int .i64 (l.length:Nat))/\e.get 19=.v (.int .i64 i)/\e.defers=[]/\Grown n0 H H1 t) ?_ l.length _ _ ?_;rotate_left 1
  ·refine⟨0,t3,cG _,rfl,?_,?_,?_,?_,?_,?_,kG.out⟩<;>(first|assumption|(simp only[gW,reduceIte,aZ,aQ,fm,iY,jX]<;>first|rfl|(rw[GN])))
  clear c3 ap l0 l1 l3 kG hw;rintro m e H1 ⟨i,t,hi,rfl,g0,g2,g17,g18,g19,hd,hG⟩;have kG:=al.mk hG;clear hG;by_cases aB:i<l.length
  ·obtain⟨v,hv⟩:∃v,l[i]?=aa v:=⟨_,aT aB⟩;obtain⟨r,hr⟩:∃r,ae[i]?=aa r:=⟨_,aT ah⟩;have dJ:=kr.out i v r hv hr;have h4:szl=4:=ksl.out (by rintro rfl;simp at hr);subst h4;have gp:=kG.out.push r;have es1:=UO hv;have el:=UN l (i+1);rw[es1,dE] at el;have hl:=kl2.out;have nl:=nW 9 l.length;obtain⟨r2,H2,c2,t2,rfl,g3⟩:=kih.out i v r hv hr a b (es++[3]++fL 9 l.length++iY (l.take i)) t 1 n0 (H1.push r) (gp.box _ _ kha.out) (gp.box _ _ khb.out) gp.ok gp.can (fJ h0 gp.tn) (.inl rfl) (by simp;omega);rw[show es++[3]++fL 9 l.length++iY (l.take i)++dI v=es++[3]++fL 9 l.length++iY (l.take (i+1)) by rw[es1];simp] at c2;have kG2:=al.mk (gp.trans g3);have ld:=Hr (H:=H1) dJ.len hr;have st:=RF (H:=H1) dJ;have l2:aI aq Gt (H1.push r) 96 (.ptr (.box H1.boxes.length) 0)=aa (.agg r):=pP dJ.len (bh _ _);have l5:=PJ dJ (bh H1 r);have l6:=XK (gp.box _ _ kha.out);have l7:=XP (v:=v) (gp.box _ _ khb.out);have ik:=Eu (b:=b) (v:=v);have zz:=xD;have s96:=pS;have au9:(i:Int)<(ae.length:Int):=(by omega);generalize ID v=fv at *
   generalize IC a v=cv at *
   generalize Cm v=kv at *
   clear gp g3 es1 el hl nl hv hr dJ kG;refine bG @EX @a9 @fO @Br ?_;refine dR uU aw ?_;refine bG @EX @a9 @fO (av @Br (av @mC.{0} @lN.{0})) ?_;exact⟨l.length - (i+1),by omega,i+1,t2,by omega,rfl,by trivial,by trivial,by trivial,by trivial,by simp,by trivial,kG2.out⟩
  ·have:i=l.length:=(by omega);subst this;rw[fI] at g0;have ee:es++[3]++fL 9 l.length++iY l=es++3::(fL 9 l.length++iY l):=(by simp);rw[ee] at g0;refine bI @EX ?_;exact⟨_,_,rfl,_,rfl,kG.out⟩
def aqv:Tryz.f183.results.toList=[.tmp 2]:=aw
def Ld:Tryz.f146.results.toList=[.tmp 2,.tmp 3]:=aw
def afM{v:Vl}{r:List AV}(hv:cY v r)(hd:gq v<=16)(h:ao):∃h',W1.call 183 [.agg r] h=aa (.ret (im 0),h')/\Ext h h':=by
 obtain⟨h1,c1,x1⟩:=ahW hv ah (h.push r);have cs:=hv.cells;have ld:=pP hv.len (bh h r);have kx:=al.mk ((Ext.push h r).trans x1);have eI:¬((16:Int)<((gq v:Nat):Int)):=by omega
 clear hv x1 hd;unfold im;refine iu rfl Tryz.func183 rfl ?_;refine bI @aqv ?_;exact⟨_,rfl,kx.out⟩
def ahd{v:Vl}{r:List AV}(hv:cY v r)(hd:gq v<=16)(hl:(dI v).length<=1099511627000)(h:ao)(ho:cO h=ai):
 ∃r' h',W1.call 146 [.agg r] h=aa (r',h')/\∃t,r'=.ret (.tuple [.list t 1 (bf (dI v)),.v (.int .i64 0)])/\Ext h h':=by
 obtain⟨h1,c1,x1⟩:=afM hv hd (h.push r);unfold im at c1;have x2:=(Ext.push h r).trans x1;have cs:=hv.cells;have b0:=bh h r;have b1:=x1.box _ _ b0;have c2:=auw h1;have b2:((h1.push (vS (h1.boxes.length+1))).push [.ptr (.box h1.boxes.length) 0]).boxes[h.boxes.length]?=aa r:=bA (bA b1);have bb:((h1.push (vS (h1.boxes.length+1))).push [.ptr (.box h1.boxes.length) 0]).boxes[h1.boxes.length]?=aa (vS (h1.boxes.length+1)):=bA (bh _ _);have ba:((h1.push (vS (h1.boxes.length+1))).push [.ptr (.box h1.boxes.length) 0]).boxes[h1.boxes.length+1]?=aa [.ptr (.box h1.boxes.length) 0]:=nb (by rw[cX]);have x3:Ext h1 ((h1.push (vS (h1.boxes.length+1))).push [.ptr (.box h1.boxes.length) 0]):=(Ext.push _ _).trans (.push _ _);have ok3:=(x2.trans x3).ok ho;obtain⟨r4,h4,c4,t,rfl,g4⟩:=aut hv (h1.boxes.length+1) h1.boxes.length [] .nil 0 h.tn _ ba bb ok3 (.inl rfl) (x2.trans x3).tn (.inr ⟨rfl,rfl⟩) (by simpa using hl);rw[mC] at c4;have kX:=al.mk (g4.ext (x2.trans x3) (aM _));have ld0:=pP hv.len b0;have ld1:=pP hv.len b1;have ld2:=pP hv.len b2;have lk1:=PJ hv b1;have lk2:=PJ hv b2;have lf:=XP (v:=v) bb;have ik:=Eu (b:=h1.boxes.length) (v:=v);have WW:=aab v r hv;have c4:W1.call (ID v) (.list .nil 0 []::.agg r::IC (h1.boxes.length+1) v) ((h1.push (vS (h1.boxes.length+1))).push [.ptr (.box h1.boxes.length) 0])=aa (.ret (.list t 1 (bf (dI v))),h4):=c4;generalize ID v=fv at *
 generalize IC (h1.boxes.length+1) v=cv at *
 generalize hkv:Cm v=kv at *
 generalize wH:(h1.push (vS (h1.boxes.length+1))).push [.ptr (.box h1.boxes.length) 0]=H3 at *
 have sv0:fe (.agg r) (.agg r)=ai:=by rw[fe,WW]
 clear hv x1 hd x2 b0 b1 b2 bb ba x3 ok3 g4 ho hl WW wH;refine da rfl Tryz.func146 rfl ?_;refine bG @Ld @fO @Br (av @mC.{0} @lN.{0}) ?_;refine my [(0,2),(0,7)] uU aw (λp hp=>?_) ?_
 ·simp only[iq,uM,or_false] at hp;rcases hp with rfl|rfl
  ·refine rD (x:=.ptr (.box h.boxes.length) 0) (v:=.v (.int .i64 (kv:Nat))) aw rfl rfl rfl aw (by simp[fe,lY]) ?_ ?_<;>(simp only[gl,fm];exact mf @Ld @fO @Br @and_self)
  ·refine rD (x:=.ptr (.box h.boxes.length) 0) (v:=.agg r) aw rfl rfl rfl aw (sv0) ?_ ?_<;>(simp only[gl,fm];exact mf @Ld @fO @Br @and_self)
 refine bG @Ld @fO @Br (av @mC.{0} @lN.{0}) ?_;exact⟨_,_,rfl,_,rfl,kX.out⟩
mutual
def cY.hold(v:Vl):∀r,cY v r->cY v (cr r)/\aW 0 0 0 (cr r)=ai:=by
 intro r h;cases h with|int n hn=>exact⟨.int n hn,rfl⟩|text s hs=>exact⟨.text s hs,rfl⟩|list l k sz ae hl hs hm hr=>obtain⟨h1,h2⟩:=cY.holds l ae hl hr;have e:cr (aJ 3 0 [] k sz ae)=aJ 3 0 [] (cd k) sz (eU ae):=rfl;rw[e];refine⟨.list l _ sz _ (by rw[GY];exact hl) (λq=>hs λq2=>q (by rw[q2];rfl)) (by rw[GY];exact hm) h1,?_⟩;unfold aJ;simp[aW,aL,im,sv,fy,h2]
def cY.holds(l:List Vl):∀ae:List (List AV),ae.length=l.length->(∀(i:Nat) v r,l[i]?=aa v->ae[i]?=aa r->cY v r)->(∀(i:Nat) v r,l[i]?=aa v->(eU ae)[i]?=aa r->cY v r)/\gL 0 0 0 (eU ae)=ai:=by
 intro ae hl h
 match l,ae,hl,h with
 | [],[],_,_=>exact⟨λi v r hv=>by simp at hv,rfl⟩
 |v::l,r::ae,hl,h=>
  obtain⟨h1,h2⟩:=cY.hold v r (h 0 v r rfl rfl);obtain⟨h3,h4⟩:=cY.holds l ae (by simpa using hl) λi v r hv hr=>h (i+1) v r (by simpa using hv) (by simpa using hr);refine⟨λi v' r' hv hr=>?_,by rw[eU,gL,h2,h4];rfl⟩;cases i with
  |zero=>injection hv with hv;injection hr with hr;subst hv;subst hr;exact h1
  |succ i=>exact h3 i v' r' hv hr
end
def H8:Tryz.f186.results.toList=[.tmp 2]:=aw
def H9:Tryz.f187.results.toList=[.tmp 2]:=aw
def aqp:Tryz.f163.results.toList=[.tmp 2]:=aw
def aok{v:Vl}{r:List AV}(hv:cY v r):∀h,∃h',W1.call 186 [.agg r] h=aa (.ret (.v (.bool ai)),h')/\Ext h h':=by
 have u9:=Dm;have u94:=py;have s96:=pS
 induction hv with
 |int n hn=>
  intro h;refine iu rfl SY rfl ?_
  repeat' (first|simp(maxSteps:=999999)(disch:=first|exact dZ|fail)only[gW,reduceIte,aZ,aQ,H8,jV,sG,vx,tF,nV,fO,jY,sQ,decide_true, *]|refine dX ?_ ?_<;>(intro _;try omega))
  all_goals exact⟨_,rfl,Ext.push _ _⟩
 |text s hs=>
  intro h;refine iu rfl SY rfl ?_
  repeat' (first|simp(maxSteps:=999999)(disch:=first|exact dZ|fail)only[gW,reduceIte,aZ,aQ,H8,jV,sG,vx,tF,nV,fO,jY,sQ,decide_true, *]|refine dX ?_ ?_<;>(intro _;try omega))
  all_goals exact⟨_,rfl,Ext.push _ _⟩
 |list l k sz ae hl hs hm hr ih=>
  intro h;have kr:=al.mk hr;have kih:=al.mk ih;have kh:=al.mk hs;have kl:=al.mk hl;refine iu rfl SY rfl ?_;clear hr ih hs hl;refine bG @H8 @jV @sG (av @vx (av @tF (av @nV (av @fO (av @sQ @decide_true))))) ?_;refine cE (λm e H=>∃i:Nat,i<=ae.length/\m=ae.length - i/\e.get 1=.ptr (.box h.boxes.length) 0/\e.get 3=.v (.int .i64 i)/\e.defers=[]/\H.boxes[h.boxes.length]?=aa (aJ 3 0 [] k sz ae)/\Ext h H) ?_ ae.length _ _ ?_;rotate_left 1
  ·refine⟨0,cG _,rfl,?_,?_,?_,bh _ _,Ext.push _ _⟩<;>(first|assumption|(exact gR))
  rintro m e H ⟨i,hi,rfl,g1,g3,hd,hb,hX⟩;have kX:=al.mk hX;have kb:=al.mk hb;have l0:=sG hb;have l1:=vx hb;have l2:=tF hb;have l3:=nV hb;clear hX hb;by_cases aB:i<ae.length
  ·obtain⟨r,hr⟩:∃r,ae[i]?=aa r:=⟨_,aT aB⟩;obtain⟨v,hv⟩:∃v,l[i]?=aa v:=⟨_,aT (by have:=kl.out;omega)⟩;have dJ:=kr.out i v r hv hr;have h4:sz=4:=kh.out (by rintro rfl;simp at aB);subst h4;obtain⟨H2,c1,x1⟩:=kih.out i v r hv hr H;have ld:=Hr (H:=H) dJ.len hr;have kX2:=al.mk (kX.out.trans x1);have kb2:=al.mk (x1.box _ _ kb.out);have GN:(i:Int)<(ae.length:Int):=(by omega);clear kX dJ hv hr x1;refine cR @H8 @a9 @fO ?_;exact⟨ae.length - (i+1),by omega,i+1,by omega,rfl,by trivial,by simp,by trivial,kb2.out,kX2.out⟩
  ·have:i=ae.length:=(by omega);subst this;refine cR @H8 @fO @decide_true ?_;exact⟨_,rfl,kX.out⟩
def anX{v:Vl}{r:List AV}(hv:cY v r):gq v<=100->∀h,∃h',W1.call 187 [.agg r] h=aa (.ret (.v (.int .i64 (gq v:Nat))),h')/\Ext h h':=by
 have u9:=Dm;have u94:=py;have s96:=pS
 induction hv with
 |int n hn=>intro _ h;refine iu rfl SZ rfl ?_;show bM _ _ _ _ (zS _ _ _ _ (.ret (.v (.int .i64 0))) _);refine bG @H9 @jV @sG @fO ?_;exact⟨_,rfl,Ext.push _ _⟩|text s hs=>intro _ h;refine iu rfl SZ rfl ?_;show bM _ _ _ _ (zS _ _ _ _ (.ret (.v (.int .i64 0))) _);refine bG @H9 @jV @sG @fO ?_;exact⟨_,rfl,Ext.push _ _⟩|list l k sz ae hl hs hm hr ih=>
  intro hd h;have kd:=al.mk hd;have kr:=al.mk hr;have kih:=al.mk ih;have kh:=al.mk hs;have kl:=al.mk hl;refine iu rfl SZ rfl ?_;clear hr ih hs hl hd;refine bG @H9 @jV @sG @fO ?_;refine cE (λm e H=>∃i:Nat,i<=ae.length/\m=ae.length - i/\e.get 1=.ptr (.box h.boxes.length) 0/\e.get 3=.v (.int .i64 (hJ (l.take i):Nat))/\e.get 4=.v (.int .i64 i)/\e.defers=[]/\H.boxes[h.boxes.length]?=aa (aJ 3 0 [] k sz ae)/\Ext h H) ?_ ae.length _ _ ?_;rotate_left 1
  ·refine⟨0,cG _,rfl,?_,?_,?_,?_,bh _ _,Ext.push _ _⟩<;>(first|assumption|(exact gR))
  rintro m e H ⟨i,hi,rfl,g1,g3,g4,hd,hb,hX⟩;have kX:=al.mk hX;have kb:=al.mk hb;have l3:=nV hb;have wN:gq (.list l)=hJ l+1:=rfl;have GC:=kd.out;rw[wN] at GC;clear hX hb;by_cases aB:i<ae.length
  ·obtain⟨r,hr⟩:∃r,ae[i]?=aa r:=⟨_,aT aB⟩;obtain⟨v,hv⟩:∃v,l[i]?=aa v:=⟨_,aT (by have:=kl.out;omega)⟩;have dJ:=kr.out i v r hv hr;have h4:sz=4:=kh.out (by rintro rfl;simp at aB);subst h4;have hdv:=UH hv;have BM:=NC l i;obtain⟨H2,c1,x1⟩:=kih.out i v r hv hr ah H;have ld:=Hr (H:=H) dJ.len hr;have kX2:=al.mk (kX.out.trans x1);have kb2:=al.mk (x1.box _ _ kb.out);have kst:=al.mk (NB hv);have GN:(i:Int)<(ae.length:Int):=(by omega);have qs:(if ((hJ (l.take i):Nat):Int)<((gq v:Nat):Int) then ((gq v:Nat):Int) else ((hJ (l.take i):Nat):Int))=((max (hJ (l.take i)) (gq v):Nat):Int):=(by split<;>omega);clear kX dJ hv hr x1 wN;refine bG @H9 @a9 @fO @Cq ?_;exact⟨ae.length - (i+1),by omega,i+1,by omega,rfl,by trivial,by rw[kst.out],by simp,by trivial,kb2.out,kX2.out⟩
  ·have:i=ae.length:=(by omega);subst this;have e1:l.take ae.length=l:=(by rw[kl.out];exact fI);rw[e1] at g3;rw[wN];have e2:((hJ l+1:Nat):Int)=((hJ l:Nat):Int)+1:=(by omega);refine bV @H9 @fO ?_;exact⟨_,rfl,kX.out⟩
def anW{v:Vl}{r:List AV}(hv:cY v r)(hd:gq v<=16)(h:ao):∃h',W1.call 163 [.agg r] h=aa (.ret (im 0),h')/\Ext h h':=by
 obtain⟨h1,c1,x1⟩:=aok hv (h.push r);obtain⟨h2,c2,x2⟩:=anX hv ah h1;have cs:=hv.cells;have ld:=pP hv.len (bh h r);have ld2:=pP hv.len (x1.box _ _ (bh h r));have kx:=al.mk (((Ext.push h r).trans x1).trans x2);have eI:¬((16:Int)<((gq v:Nat):Int)):=by omega
 clear hv x1 x2 hd;unfold im;refine iu rfl Tryz.func163 rfl ?_;refine bI @aqp ?_;exact⟨_,rfl,kx.out⟩
def ZT:Tryz.f188.results.toList=[.tmp 2]:=aw
def aqx:Tryz.f189.results.toList=[.tmp 2]:=aw
def Cy:Tryz.f164.results.toList=[.tmp 2]:=aw
def aqc:Tryz.f118.results.toList=[.tmp 2,.tmp 3]:=aw
def LN(c:Nat)(hc:c<256):cq (UInt8.ofNat c)=.v (.int .u8 (c:Nat)):=by have:(UInt8.ofNat c).toNat=c%256:=UInt8.toNat_ofNat';unfold cq;rw[this,nI hc]
def KE(k u):fL k u≠[]:=by
 cases k with|zero=>simp[fL]|succ k=>rw[fL];split<;>simp
def F7{H}{k t}{n0}{es new}(bO:new≠[])(hl:es.length+new.length<=8796093022208)(hk:dD n0 H k):
 gP aq H #[28,28] (.list k 1 (bf es)) (.list t 1 (bf new))=aa (.list (.free H.tn) 1 (bf (es++new)),H.app k):=
 Jd (.inl ⟨_,jv⟩) Qc bO hl (.inl rfl) hk
def QP:∀(k u:Nat),k<=9->u<2 * 128^k->∀h,cO h=ai->∃r h',W1.call 188 [.v (.int .u64 (u:Nat))] h=aa (r,h')/\∃t,r=.ret (.list t 1 (bf (fL k u)))/\Grown h.tn h h' t:=by
 have cW:∀(k u:Nat),u<128->∀h,cO h=ai->∃r h',W1.call 188 [.v (.int .u64 (u:Nat))] h=aa (r,h')/\∃t,r=.ret (.list t 1 (bf (fL k u)))/\Grown h.tn h h' t:=by
  intro k u hu h ho;rw[Yt hu];have bl:=zK (UInt8.ofNat u);rw[LN u ah] at bl;have e:bf [UInt8.ofNat u]=[[.v (.int .u8 (u:Nat))]]:=by show[[cq (UInt8.ofNat u)]]=_;rw[LN u ah]
  rw[e];have aB:((u:Nat):Int)<128:=by omega
  have kG:=al.mk (Grown.refl (n0:=h.tn) (k:=.tight) (.inr (.inl rfl)) ho);clear ho hu e;refine da rfl acT rfl ?_;refine bV @ZT @DD ?_;exact⟨_,_,rfl,_,rfl,kG.out⟩
 intro k
 induction k with
 |zero=>intro u _ hu;exact cW 0 u (by simpa using Nat.lt_trans hu aO)|succ k ih=>
  intro u hk hu h ho;by_cases Gl:u<128
  ·exact cW _ u Gl h ho
  ·rw[Yu ah];obtain⟨r1,h1,c1,t,rfl,g1⟩:=ih (u/128) ah (by rw[A8] at hu;omega) h ho;have bl:=zK (UInt8.ofNat (u%128+128));have nl:=nW k (u/128);have ap:=F7 (H:=h1) (k:=.tight) (t:=t) (n0:=h.tn) (es:=[UInt8.ofNat (u%128+128)]) (KE k (u/128)) (by simp;omega) (.inr (.inl rfl));have e:bf [UInt8.ofNat (u%128+128)]=[[.v (.int .u8 ((u%128+128:Nat):Int))]]:=(by show[[cq (UInt8.ofNat (u%128+128))]]=_;rw[LN _ ah]);rw[e] at ap;rw[LN (u%128+128) ah] at bl;have g2:Grown h.tn h h1 .tight:=⟨g1.box,g1.loop,.inr (.inl rfl),g1.ok,g1.tn,g1.dead⟩;have kG:=al.mk (g2.app (aM _));have aB:¬((u:Nat):Int)<128:=(by omega);have m1:((u:Nat):Int).tmod 128=((u%128:Nat):Int):=oH u 128;have m2:((u:Nat):Int).tdiv 128=((u/128:Nat):Int):=Iy u 128;have w1:IntKind.u64.wrap (((u%128:Nat):Int)+128)=((u%128+128:Nat):Int):=(by rw[show((u%128:Nat):Int)+128=((u%128+128:Nat):Int) by omega,vT ah]);have w2:IntKind.u64.wrap ((u/128:Nat):Int)=((u/128:Nat):Int):=(by have:2 * 128^(k+1)<=2 * 128^9:=Nat.mul_le_mul_left _ (acF aO hk);exact vT ah);clear ho hu Gl ih g1 g2 e nl;refine da rfl acT rfl ?_;refine bV @ZT @DD ?_;exact⟨_,_,rfl,_,rfl,kG.out⟩
def arl(n:Nat)(hn:n<=4611686018427387903)(h:ao):W1.call 189 [.v (.int .i64 (n:Nat))] h=aa (.ret (.v (.int .u64 (lK n:Nat))),h):=by
 have e:lK (n:Int)=2 * n:=by unfold lK;rw[aG ah,dK]
 rw[e];have e1:=vT (n:=n) ah;have e2:IntKind.u64.wrap (2 * ((n:Nat):Int))=((2 * n:Nat):Int):=by rw[show 2 * ((n:Nat):Int)=((2 * n:Nat):Int) by omega,vT ah]
 have e3:(0:Int)<=((n:Nat):Int):=by omega
 refine cL rfl Tryz.func189 rfl ?_;exact jI @aqx @qR
def aha(v):dI v≠[]:=by cases v<;>simp[dI]
def _root_.Go.AE.Grown.re{n0:Nat}{h h':ao}{t k:Tok}(g:Grown n0 h h' t)(hk:dD n0 h' k):Grown n0 h h' k:=⟨g.box,g.loop,hk,g.ok,g.tn,g.dead⟩
def _root_.Go.AE.Grown.tN{n0 n1:Nat}{h h':ao}{t:Tok}(g:Grown n1 h h' t)(hn:n0<=n1):Grown n0 h h' t:=⟨g.box,g.loop,g.can.mono hn,g.ok,g.tn,λn hl hd=>g.dead n (mU hl hn) hd⟩
def _root_.Go.AE.Grown.beside{n0:Nat}{h h':ao}{t k:Tok}(g:Grown h.tn h h' t)(hk:dD n0 h k):dD n0 h' k:=by
 rcases hk with rfl|rfl|⟨m,rfl,hm,ha⟩
 ·exact .inl rfl
 ·exact .inr (.inl rfl)
 ·refine .inr (.inr ⟨m,rfl,hm,?_⟩);have aB:=uQ ha;unfold alive at ha ⊢;simp only[bL,decide_eq_true_eq,zj,List.contains_eq_mem,decide_eq_false_iff_not] at ha ⊢;exact⟨mU aB g.tn,λhd=>ha.2 (g.dead m aB hd)⟩
def an9{v:Vl}{r:List AV}(hv:cY v r):(dI v).length<=1099511627000->∀h,cO h=ai->∃r' h',W1.call 164 [.agg r] h=aa (r',h')/\∃t,r'=.ret (.list t 1 (bf (dI v)))/\Grown h.tn h h' t:=by
 induction hv with
 |int n hn=>
  intro _ h ho;obtain⟨m,rfl⟩:∃m:Nat,n=m:=⟨n.toNat,by omega⟩;have hu:lK ((m:Nat):Int)<2 * 128^9:=by unfold lK;rw[aG ah];omega
  have g0:Grown h.tn h (h.push (aJ 1 (m:Nat) [] .nil 0 [])) .tight:=(Grown.refl (.inr (.inl rfl)) ho).push _;obtain⟨r1,h1,c1,t,rfl,g1⟩:=QP 9 (lK ((m:Nat):Int)) (aM _) hu _ g0.ok;have nl:=nW 9 (lK ((m:Nat):Int));have ap:=F7 (H:=h1) (k:=.tight) (t:=t) (n0:=h.tn) (es:=[1]) (KE 9 (lK ((m:Nat):Int))) (by simp;omega) (.inr (.inl rfl));have kG:=al.mk ((g0.trans (g1.re (.inr (.inl rfl)))).app (aM _));have cu:=arl m ah;have ap:gP aq h1 #[28,28] (.list .tight 1 [[cq 1]]) (.list t 1 (bf (fL 9 (lK ((m:Nat):Int)))))=aa (.list (.free h1.tn) 1 (bf (dI (.int (m:Nat)))),h1.app .tight):=by rw[dI];exact ap
  clear g0 g1 hu hn ho nl;refine da rfl SX rfl ?_;refine bG @Cy @rQ @jV (av @sG (av @vx @fO)) ?_;exact⟨_,_,rfl,_,rfl,kG.out⟩
 |text s hs=>
  intro hl h ho;have enc:dI (.text s)=2::(fL 9 s.length++s):=by rw[dI]
  rw[enc] at hl ⊢;simp only[jn,dE] at hl;have g0:Grown h.tn h (h.push (aJ 2 0 s .nil 0 [])) .tight:=(Grown.refl (.inr (.inl rfl)) ho).push _;obtain⟨r1,h1,c1,t,rfl,g1⟩:=QP 9 s.length (aM _) ah _ g0.ok;have ap:=F7 (H:=h1) (k:=.tight) (t:=t) (n0:=h.tn) (es:=[2]) (KE 9 s.length) (by simp;omega) (.inr (.inl rfl));have g2:=(g0.trans (g1.re (.inr (.inl rfl)))).app (aM _);obtain⟨t4,h4,ap4,g5⟩:=Tm (es:=[2]++fL 9 s.length) (s:=s) (by simp;omega) g2.can g2.ok g2.tn;have kG:=al.mk (g2.trans g5);have ap:gP aq h1 #[28,28] (.list .tight 1 [[cq 2]]) (.list t 1 (bf (fL 9 s.length)))=aa (.list (.free h1.tn) 1 (bf ([2]++fL 9 s.length)),h1.app .tight):=ap;have e4:[2]++fL 9 s.length++s=2::(fL 9 s.length++s):=by simp
  rw[e4] at ap4;have b0:=bh h (aJ 2 0 s .nil 0 []);have b1:=g1.box _ _ b0;have b2:(h1.app .tight).boxes[h.boxes.length]?=aa (aJ 2 0 s .nil 0 []):=by rw[eL];exact b1
  have l0:=tF b0;have l1:=tF b1;have l2:=tF b2;have sl:=aaN s;have hw:=vT (n:=s.length) ah;clear g0 g1 g2 g5 ho enc e4 b0 b1 b2 hl;refine da rfl SX rfl ?_;refine bG @Cy @rQ @jV (av @sG (av @fO @qR)) ?_;refine my [(5,8),(6,8)] uU aw (λp hp=>?_) ?_
  ·simp only[iq,uM,or_false] at hp;rcases hp with rfl|rfl
   all_goals
    refine rD (x:=.ptr (.box h.boxes.length) 2) (v:=.v (.string (bs s))) aw rfl rfl rfl aw (by simp[fe,lY]) ?_ ?_<;>(simp only[gl,fm];exact mf @Cy @rQ @jV (av @fO (av @qR @and_self)))
  refine bG @Cy @rQ @jV (av @fO @qR) ?_;exact⟨_,_,rfl,_,rfl,kG.out⟩
 |list l kl sz ae hl hs hm hr ih=>
  intro bZ h ho;have kr:=al.mk hr;have kih:=al.mk ih;have kh:=al.mk hs;have kl2:=al.mk hl;have enc:dI (.list l)=3::(fL 9 l.length++iY l):=by rw[dI]
  rw[enc] at bZ ⊢;simp only[jn,dE] at bZ;have g0:Grown h.tn h (h.push (aJ 3 0 [] kl sz ae)) .tight:=(Grown.refl (.inr (.inl rfl)) ho).push _;obtain⟨r1,h1,c1,t,rfl,g1⟩:=QP 9 l.length (aM _) ah _ g0.ok;have nl:=nW 9 l.length;have ap:=F7 (H:=h1) (k:=.tight) (t:=t) (n0:=h.tn) (es:=[3]) (KE 9 l.length) (by simp;omega) (.inr (.inl rfl));have g2:=(g0.trans (g1.re (.inr (.inl rfl)))).app (aM _);have ap:gP aq h1 #[28,28] (.list .tight 1 [[cq 3]]) (.list t 1 (bf (fL 9 l.length)))=aa (.list (.free h1.tn) 1 (bf ([3]++fL 9 l.length)),h1.app .tight):=ap;have b0:=bh h (aJ 3 0 [] kl sz ae);have b1:=g1.box _ _ b0;have b2:(h1.app .tight).boxes[h.boxes.length]?=aa (aJ 3 0 [] kl sz ae):=by rw[eL];exact b1
  have l0:=nV b0;have u94:=py;have hw:=vT (n:=ae.length) ah;have c1:W1.call 188 [.v (.int .u64 ((ae.length:Nat):Int))] (h.push (aJ 3 0 [] kl sz ae))=aa (.ret (.list t 1 (bf (fL 9 l.length))),h1):=by rw[hl];exact c1
  have kG:=al.mk g2;have kb:=al.mk b2;have klen:=al.mk bZ;clear g0 g1 g2 ho enc hr ih hs hl bZ b0 b1 b2;refine da rfl SX rfl ?_;refine bG @Cy @rQ @jV (av @sG (av @fO @qR)) ?_;refine cE (λm e H1=>∃(i:Nat) (t:Tok),i<=ae.length/\m=ae.length - i/\e.get 1=.ptr (.box h.boxes.length) 0/\e.get 3=.list t 1 (bf ([3]++fL 9 l.length++iY (l.take i)))/\e.get 4=.v (.int .i64 i)/\e.defers=[]/\H1.boxes[h.boxes.length]?=aa (aJ 3 0 [] kl sz ae)/\Grown h.tn h H1 t) ?_ ae.length _ _ ?_;rotate_left 1
  ·refine⟨0,.free h1.tn,cG _,rfl,?_,?_,?_,?_,kb.out,kG.out⟩<;>(first|assumption|(simp only[gW,reduceIte,aZ,aQ,fm,iY,jX]<;>rfl))
  clear c1 ap l0 kG kb hw;rintro m e H1 ⟨i,t,hi,rfl,g1,g3,g4,hd,hb,hG⟩;have kG:=al.mk hG;have kb:=al.mk hb;have l3:=nV hb;clear hG hb;by_cases aB:i<ae.length
  ·obtain⟨r,hr⟩:∃r,ae[i]?=aa r:=⟨_,aT aB⟩;obtain⟨v,hv⟩:∃v,l[i]?=aa v:=⟨_,aT (by have:=kl2.out;omega)⟩;have dJ:=kr.out i v r hv hr;have h4:sz=4:=kh.out (by rintro rfl;simp at aB);subst h4;have es1:=UO hv;have el:=UN l (i+1);rw[es1,dE] at el;have hl:=klen.out;obtain⟨r2,H2,c2,t2,rfl,g5⟩:=kih.out i v r hv hr ah H1 kG.out.ok;have can2:=g5.beside kG.out.can;have ap2:=F7 (H:=H2) (k:=t) (t:=t2) (n0:=h.tn) (es:=[3]++fL 9 l.length++iY (l.take i)) (aha v) (by simp;omega) can2;rw[show[3]++fL 9 l.length++iY (l.take i)++dI v=[3]++fL 9 l.length++iY (l.take (i+1)) by rw[es1];simp] at ap2;have kG2:=al.mk ((kG.out.trans ((g5.tN kG.out.tn).re can2)).app (aM _));have kb2:al ((H2.app t).boxes[h.boxes.length]?=aa (aJ 3 0 [] kl 4 ae)):=⟨by rw[eL];exact g5.box _ _ kb.out⟩;have ld:=Hr (H:=H1) dJ.len hr;have s96:=pS;have GN:(i:Int)<(ae.length:Int):=(by omega);clear kG dJ hv hr g5 can2 es1 el hl nl;refine cR @Cy @a9 @fO ?_;exact⟨ae.length - (i+1),by omega,i+1,.free H2.tn,by omega,rfl,by trivial,by trivial,by simp,by trivial,kb2.out,kG2.out⟩
  ·have:i=ae.length:=(by omega);subst this;rw[show l.take ae.length=l by rw[kl2.out];exact fI] at g3;have ee:[3]++fL 9 l.length++iY l=3::(fL 9 l.length++iY l):=(by simp);rw[ee] at g3;refine bV @Cy @fO ?_;exact⟨_,_,rfl,_,rfl,kG.out⟩
def anL{v:Vl}{r:List AV}(hv:cY v r)(hd:gq v<=16)(hl:(dI v).length<=1099511627000)(h:ao)(ho:cO h=ai):
 ∃r' h',W1.call 118 [.agg r] h=aa (r',h')/\∃t,r'=.ret (.tuple [.list t 1 (bf (dI v)),.v (.int .i64 0)])/\Ext h h':=by
 obtain⟨h1,c1,x1⟩:=anW hv hd (h.push r);unfold im at c1;have x2:=(Ext.push h r).trans x1;obtain⟨r2,h2,c2,t,rfl,g2⟩:=an9 hv hl h1 (x2.ok ho);have cs:=hv.cells;have ld:=pP hv.len (bh h r);have ld2:=pP hv.len (x1.box _ _ (bh h r));have kX:=al.mk (g2.ext x2 x2.tn);clear hv x1 x2 hd g2 ho hl;refine da rfl Tryz.func118 rfl ?_;refine bI @aqc ?_;exact⟨_,_,rfl,_,rfl,kX.out⟩
def AM:Tryz.f214.results.toList=[.cell 4 229]:=aw
def Te:gU aq 229=aa ai:=aw
def Iw:dC aq 229=aa 8:=aw
def adv:gU aq 242=aa ai:=aw
def LK:dC aq 242=aa 64:=aw
def abd:(jf aq 229).bind AV.cD=aa (b8 (bg 8 0#32)):=aw
def kW:List eQ:=(bR 64).map yQ
def aks{t}(ht:t<64):df kW t=yQ t:=by unfold df kW;rw[dS,ev,FI ht];rfl
def Kr:kW.length=64:=rfl
def CG{l}:(AV.agg (b8 l)).cD=aa (b8 l):=by
 have:(b8 l).all AV.ek=ai:=by rw[ej];intro x hx;obtain⟨b,-,rfl⟩:=ju.1 hx;rfl
 unfold AV.cD;simp[this]
def PN{H}{b n}{t}{l}(ha:gU aq t=aa ai)(hs:dC aq t=aa n)(hb:H.boxes[b]?=aa (b8 l))(hl:l.length=n):aI aq Gt H t (.ptr (.box b) 0)=aa (.agg (b8 l)):=by rw[iC ha hs hb (by rw[bE];omega),iX,gO (by rw[bE];omega)]
def alS(h:ao):W1.call 225 [] h=aa (.ret (.agg (b8 kW)),h.push (b8 kW)):=by have z:=LV;have st:cI aq (h.push (bg 64 (aU 0#32))) 242 (.ptr (.box h.boxes.length) 0) (.agg (b8 kW))=aa (h.push (b8 kW)):=l9 CG LK (by rw[bE,Kr]) bH;have ld:aI aq Gt (h.push (b8 kW)) 242 (.ptr (.box h.boxes.length) 0)=aa (.agg (b8 kW)):=PN adv LK (bh _ _) Kr;refine cL rfl Tryz.func225 rfl ?_;refine bI @ZZ ?_;generalize hb:mW aq 242 _=z;rw[show z=aa (.agg (b8 kW)) from hb.symm.trans aw];clear hb;exact lP @ZZ
def yO{b n}{k}(hn:n<8):dG aq 229 (.ptr (.box b) 0) (.v (.int k (n:Nat)))=aa (.ptr (.box b) n):=by have hu:=Tryz.underlying229;unfold dG;rw[hu];simp only[xC];rw[aG ⟨ah,by omega⟩];simp
def aue{a b c d e f g h}:df [a,b,c,d,e,f,g,h] 0=a/\df [a,b,c,d,e,f,g,h] 1=b/\df [a,b,c,d,e,f,g,h] 2=c/\df [a,b,c,d,e,f,g,h] 3=d/\df [a,b,c,d,e,f,g,h] 4=e/\df [a,b,c,d,e,f,g,h] 5=f/\df [a,b,c,d,e,f,g,h] 6=g/\df [a,b,c,d,e,f,g,h] 7=h:=⟨rfl,rfl,rfl,rfl,rfl,rfl,rfl,rfl⟩
def ad4(a b c d e f g h:eQ):mW aq 229 [(0,aU a),(1,aU b),(2,aU c),(3,aU d),(4,aU e),(5,aU f),(6,aU g),(7,aU h)]=aa (.agg (b8 [a,b,c,d,e,f,g,h])):=aw
def atW(s)(b):vF s b 0=s:=rfl
def apO(w)(t)(a b c d e f g i):HS w [a,b,c,d,e,f,g,i] t=
 [i+(NT.dL e 6^^^NT.dL e 11^^^NT.dL e 25)+((e&&&f)^^^(~~~e&&&g))+yQ t+df w t+((NT.dL a 2^^^NT.dL a 13^^^NT.dL a 22)+((a&&&b)^^^(a&&&c)^^^(b&&&c))),
  a,b,c,d+(i+(NT.dL e 6^^^NT.dL e 11^^^NT.dL e 25)+((e&&&f)^^^(~~~e&&&g))+yQ t+df w t),e,f,g]:=rfl
def alO{u}:CF aq .xor (aU u)=aa (aU (~~~u)):=by
 have e:CF aq .xor (aU u)=aa (.v (.int .u32 (IntKind.u32.wrap ((BitVec.ofInt 32 4294967295^^^BitVec.ofInt 32 (u.toNat:Int)).toNat:Int)))):=by rfl
 rw[e,ofInt32];have h1:BitVec.ofInt 32 4294967295^^^u= ~~~u:=by
  apply BitVec.eq_of_getLsbD_eq;intro i hi;rw[BitVec.getLsbD_xor,BitVec.getLsbD_not];have:(BitVec.ofInt 32 4294967295).getLsbD i=ai:=by have h:∀j:Fin 32,(BitVec.ofInt 32 4294967295).getLsbD j.val=ai:=(by decide);exact h ⟨i,hi⟩
  rw[this];simp[hi]
 rw[h1,LU];rfl
def aap{k}{b}{lo hi}(h1:lo<=hi)(h2:hi<=b.length):∃k',gY aq 28 (.list k 1 (bf b)) (aa (.v (.int .i64 (lo:Nat)))) (aa (.v (.int .i64 (hi:Nat)))) ar=aa (.list k' 1 (bf ((b.take hi).drop lo))):=by
 have kj:gE (bf b).length ar (bf b).length=aa (bf b).length:=rfl;have fP:gE (bf b).length (aa (.v (.int .i64 (hi:Nat)))) (bf b).length=aa hi:=by show(if 0<=(hi:Int)/\(hi:Int)<=((bf b).length:Int) then aa (hi:Int).toNat else ar)=_;rw[aG ⟨ah,by rw[bE];omega⟩,dK]
 have yn:gE hi (aa (.v (.int .i64 (lo:Nat)))) 0=aa lo:=by show(if 0<=(lo:Int)/\(lo:Int)<=(hi:Int) then aa (lo:Int).toNat else ar)=_;rw[aG ⟨ah,by omega⟩,dK]
 refine⟨qg k (decide (hi=(bf b).length)) az (hi - lo),?_⟩;unfold gY;simp only[jv,sO,kj,fP,yn,Option.isSome_none,Bool.false_and,Bool.false_eq_true,if_false,true_or,if_true,Option.isNone_none,CO];simp only[List.map_drop,List.map_take]
def auo{b}{i}(hi:4 * i+4<=b.length):pV ((b.take (4 * i+4)).drop (4 * i)) 0=pV b (4 * i):=by
 have key:∀k,k<4->dz ((b.take (4 * i+4)).drop (4 * i)) k=dz b (4 * i+k):=λk hk=>by unfold dz;rw[dS,oN,oh,aG ah,dS]
 unfold pV;rw[key 0 aO,key (0+1) aO,key (0+2) aO,key (0+3) aO,Nat.add_zero,po,po,po]
def anT(s:List eQ)(b:List UInt8)(k:Tok)(h:ao)(hs:s.length=8)(hb:b.length=64):
 ∃h',W1.call 214 [.agg (b8 s),.list k 1 (bf b)] h=aa (.ret (.agg (b8 (wm s b))),h')/\Ext h h':=by
 have z1:=abd;have z2:=LV;have c8:(AV.agg (b8 s)).cD=aa (b8 s):=CG;have kwz:=al.mk (abb b);refine iu rfl Tryz.func214 rfl ?_;refine bI @AM ?_;generalize mh:mW aq 242 []=z;rw[show z=aa (.agg (bg 64 (aU 0#32))) from mh.symm.trans aw];clear mh;generalize ua:(h.push (b8 s)).push (b8 (bg 8 0#32))=H0;have kX0:al (Ext h H0):=⟨by rw[<-ua];exact(Ext.push _ _).trans (.push _ _)⟩;have kS0:al (H0.boxes[h.boxes.length]?=aa (b8 s)):=⟨by rw[<-ua];exact bA (bh _ _)⟩;have kR0:al (H0.boxes[h.boxes.length+1]?=aa (b8 (bg 8 0#32))):=⟨by rw[<-ua];exact nb (by rw[cX])⟩;have N4:H0.boxes.length=h.boxes.length+2:=by rw[<-ua,cX,cX]
 have kl:=al.mk N4;clear N4 ua;have st0:cI aq (H0.push (bg 64 (aU 0#32))) 242 (.ptr (.box H0.boxes.length) 0) (.agg (bg 64 (aU 0#32)))=aa (H0.push (b8 (wl b 0))):=by rw[kwz.out,<-RV];exact l9 CG LK bH bH
 refine bI @AM ?_;refine cE (λm e H=>∃i:Nat,i<=16/\m=16 - i/\e.get 1=.list k 1 (bf b)/\e.get 2=.ptr (.box h.boxes.length) 0/\e.get 4=.ptr (.box (h.boxes.length+1)) 0/\e.get 5=.ptr (.box H0.boxes.length) 0/\e.get 6=.v (.int .i64 i)/\e.defers=[]/\H=H0.push (b8 (wl b i))) ?_ 16 _ _ ?_;rotate_left 1
 ·refine⟨0,by decide,rfl,?_,?_,?_,?_,?_,?_,rfl⟩<;>(first|assumption|(simp only[gW,reduceIte,aZ,aQ,cX]<;>rfl))
 clear z1 z2 c8 kwz st0;rintro m e H ⟨i,hi,rfl,g1,g2,g4,g5,g6,hd,rfl⟩;by_cases hc:i<16
 ·refine qV λQ=>?_;have ix:=rf (b:=H0.boxes.length) (n:=i) (k:=.i64) ah;have e4:IntKind.i64.wrap (4 * ((i:Nat):Int))=((4 * i:Nat):Int):=by rw[gF ah ah];omega
  have e5:IntKind.i64.wrap (((4 * i:Nat):Int)+4)=((4 * i+4:Nat):Int):=by rw[gF ah ah];omega
  obtain⟨k',sl⟩:=aap (k:=k) (b:=b) (lo:=4 * i) (hi:=4 * i+4) ah ah;have cw:=art ((b.take (4 * i+4)).drop (4 * i)) (by rw[hD,fj];omega) k';rw[auo ah] at cw;have st:cI aq (H0.push (b8 (wl b i))) 42 (.ptr (.box H0.boxes.length) i) (aU (pV b (4 * i)))=aa (H0.push (b8 (wl b (i+1)))):=by rw[Iq (bh _ _) (by rw[uE ah];omega),pg,LS ah (by rw[aG hc])]
  refine bI @AM ?_;exact⟨16 - (i+1),by omega,i+1,by omega,rfl,by trivial,by trivial,by trivial,by trivial,rfl,by trivial,rfl⟩
 have:i=16:=by omega
 subst this;clear hc hi;refine bI @AM ?_;refine cE (λm e H=>∃i:Nat,16<=i/\i<=64/\m=64 - i/\e.get 2=.ptr (.box h.boxes.length) 0/\e.get 4=.ptr (.box (h.boxes.length+1)) 0/\e.get 5=.ptr (.box H0.boxes.length) 0/\e.get 7=.v (.int .i64 i)/\e.defers=[]/\H=H0.push (b8 (wl b i))) ?_ 48 _ _ ?_;rotate_left 1
 ·refine⟨16,by decide,by decide,rfl,?_,?_,?_,?_,?_,rfl⟩<;>(first|assumption|(exact gR))
 clear g1 g2 g4 g5 g6 hd;rintro m e H ⟨i,Oy,hi,rfl,g2,g4,g5,g7,hd,rfl⟩;by_cases hc:i<64
 ·refine qV λQ=>?_;have hw:=bh H0 (b8 (wl b i));have l0:=rh hw (n:=i - 16) (by rw[uE hi];omega);have l1:=rh hw (n:=i - 15) (by rw[uE hi];omega);have l2:=rh hw (n:=i - 7) (by rw[uE hi];omega);have l3:=rh hw (n:=i - 2) (by rw[uE hi];omega);rw[aba ah] at l0 l1 l2 l3;have i0:=rf (b:=H0.boxes.length) (n:=i - 16) (k:=.i64) ah;have i1:=rf (b:=H0.boxes.length) (n:=i - 15) (k:=.i64) ah;have i2:=rf (b:=H0.boxes.length) (n:=i - 7) (k:=.i64) ah;have i3:=rf (b:=H0.boxes.length) (n:=i - 2) (k:=.i64) ah;have i4:=rf (b:=H0.boxes.length) (n:=i) (k:=.i64) ah;have e0:IntKind.i64.wrap (((i:Nat):Int) - 16)=((i - 16:Nat):Int):=by rw[gF ah ah];omega
  have e1:IntKind.i64.wrap (((i:Nat):Int) - 15)=((i - 15:Nat):Int):=by rw[gF ah ah];omega
  have e2:IntKind.i64.wrap (((i:Nat):Int) - 7)=((i - 7:Nat):Int):=by rw[gF ah ah];omega
  have e3:IntKind.i64.wrap (((i:Nat):Int) - 2)=((i - 2:Nat):Int):=by rw[gF ah ah];omega
  have st:cI aq (H0.push (b8 (wl b i))) 42 (.ptr (.box H0.boxes.length) i) (aU (EC (iE b i) i))=aa (H0.push (b8 (wl b (i+1)))):=by rw[Iq hw (by rw[uE ah];omega),pg,LS ah (by rw[aH ah])]
  unfold EC at st;have r7:=xj (df (iE b i) (i - 15)) 7 aO aO;have r18:=xj (df (iE b i) (i - 15)) 18 aO aO;have r17:=xj (df (iE b i) (i - 2)) 17 aO aO;have r19:=xj (df (iE b i) (i - 2)) 19 aO aO;have r7:∀h,W1.call 224 [aU (df (iE b i) (i - 15)),.v (.int .i64 7)] h=aa (.ret (aU (NT.dL (df (iE b i) (i - 15)) 7)),h):=r7;have r18:∀h,W1.call 224 [aU (df (iE b i) (i - 15)),.v (.int .i64 18)] h=aa (.ret (aU (NT.dL (df (iE b i) (i - 15)) 18)),h):=r18;have r17:∀h,W1.call 224 [aU (df (iE b i) (i - 2)),.v (.int .i64 17)] h=aa (.ret (aU (NT.dL (df (iE b i) (i - 2)) 17)),h):=r17;have r19:∀h,W1.call 224 [aU (df (iE b i) (i - 2)),.v (.int .i64 19)] h=aa (.ret (aU (NT.dL (df (iE b i) (i - 2)) 19)),h):=r19;clear hw
  repeat' (first|simp(maxSteps:=999999)(disch:=first|exact dZ|fail)only[gW,reduceIte,aZ,aQ,AM,oI,ot,xx,xw, *]|(refine dX ?_ ?_<;>(intro _;try omega))|refine dR uU aw ?_)
  exact⟨64 - (i+1),by omega,i+1,by omega,by omega,rfl,by trivial,by trivial,by trivial,rfl,by trivial,rfl⟩
 have:i=64:=by omega
 subst this;clear hc hi Oy;have kwl:=al.mk (RX b);have kK:=E7 b 64;rw[RX];generalize hW:iE b 64=w at *
 have nn:=alS (H0.push (b8 w));have z2:=LV;generalize jJ:H0.push (b8 w)=H1 at *
 have kw1:al (H1.boxes[H0.boxes.length]?=aa (b8 w)):=⟨by rw[<-jJ];exact bh _ _⟩;have kl1:al (H1.boxes.length=H0.boxes.length+1):=⟨by rw[<-jJ,cX]⟩;have kX1:al (Ext H0 H1):=⟨by rw[<-jJ];exact Ext.push _ _⟩;clear jJ;have st2:cI aq ((H1.push (b8 kW)).push (bg 64 (aU 0#32))) 242 (.ptr (.box (H1.push (b8 kW)).boxes.length) 0) (.agg (b8 kW))=aa ((H1.push (b8 kW)).push (b8 kW)):=l9 CG LK (by rw[bE,Kr]) bH;have xH:Ext H1 ((H1.push (b8 kW)).push (b8 kW)):=(Ext.push _ _).trans (.push _ _);have kN:=bh (H1.push (b8 kW)) (b8 kW);have b1:=xH.box _ _ (kX1.out.box _ _ kS0.out);obtain⟨s0,s1,s2,s3,s4,s5,s6,s7,rfl⟩:=eight hs;have ld:=λn hn=>rh b1 (n:=n) hn;have l0:=ld 0 bH;have l1:=ld 1 bH;have l2:=ld 2 bH;have l3:=ld 3 bH;have l4:=ld 4 bH;have l5:=ld 5 bH;have l6:=ld 6 bH;have l7:=ld 7 bH;have j0:dG aq 229 (.ptr (.box h.boxes.length) 0) (.v (.int .i64 0))=aa (.ptr (.box h.boxes.length) 0):=yO (n:=0) aO;have j1:dG aq 229 (.ptr (.box h.boxes.length) 0) (.v (.int .i64 1))=aa (.ptr (.box h.boxes.length) 1):=yO (n:=1) aO;have j2:dG aq 229 (.ptr (.box h.boxes.length) 0) (.v (.int .i64 2))=aa (.ptr (.box h.boxes.length) 2):=yO (n:=2) aO;have j3:dG aq 229 (.ptr (.box h.boxes.length) 0) (.v (.int .i64 3))=aa (.ptr (.box h.boxes.length) 3):=yO (n:=3) aO;have j4:dG aq 229 (.ptr (.box h.boxes.length) 0) (.v (.int .i64 4))=aa (.ptr (.box h.boxes.length) 4):=yO (n:=4) aO;have j5:dG aq 229 (.ptr (.box h.boxes.length) 0) (.v (.int .i64 5))=aa (.ptr (.box h.boxes.length) 5):=yO (n:=5) aO;have j6:dG aq 229 (.ptr (.box h.boxes.length) 0) (.v (.int .i64 6))=aa (.ptr (.box h.boxes.length) 6):=yO (n:=6) aO;have j7:dG aq 229 (.ptr (.box h.boxes.length) 0) (.v (.int .i64 7))=aa (.ptr (.box h.boxes.length) 7):=yO (n:=7) aO;simp only[aue] at l0 l1 l2 l3 l4 l5 l6 l7;have lw:=λn hn=>rh (xH.box _ _ kw1.out) (n:=n) hn;have lk:=λn hn=>rh kN (n:=n) hn;have b2:=xH.box _ _ (kX1.out.box _ _ kR0.out);have kX2:=al.mk (kX0.out.trans (kX1.out.trans xH));have klw:=al.mk lw;have klk:=al.mk lk;have kb2:=al.mk b2;clear ld lw lk b1 b2 xH kN
 repeat' (first|simp(maxSteps:=999999)(disch:=first|exact dZ|fail)only[gW,reduceIte,aZ,aQ,AM, *]|(refine dX ?_ ?_<;>(intro _;try omega))|refine dR uU aw ?_)
 generalize hN:(H1.push (b8 kW)).boxes.length=N at *
 generalize (H1.push (b8 kW)).push (b8 kW)=H2 at *
 clear hN;refine bM.gen λe2 q2 qd2 _ _=>?_;have f2:e2.get 2=.ptr (.box h.boxes.length) 0:=by rw[q2];simp only[gW,reduceIte,aZ,aQ,g2]
 have f4:e2.get 4=.ptr (.box (h.boxes.length+1)) 0:=by rw[q2];simp only[gW,reduceIte,aZ,aQ,g4]
 have f5:e2.get 5=.ptr (.box H0.boxes.length) 0:=by rw[q2];simp only[gW,reduceIte,aZ,aQ,g5]
 have f10:e2.get 10=.ptr (.box N) 0:=by rw[q2];exact gS
 have f11:e2.get 11=aU s0:=by rw[q2];exact gS
 have f12:e2.get 12=aU s1:=by rw[q2];exact gS
 have f13:e2.get 13=aU s2:=by rw[q2];exact gS
 have f14:e2.get 14=aU s3:=by rw[q2];exact gS
 have f15:e2.get 15=aU s4:=by rw[q2];exact gS
 have f16:e2.get 16=aU s5:=by rw[q2];exact gS
 have f17:e2.get 17=aU s6:=by rw[q2];exact gS
 have f18:e2.get 18=aU s7:=by rw[q2];exact gS
 have f19:e2.get 19=.v (.int .i64 (0:Nat)):=by rw[q2];simp only[gW,reduceIte,aZ,aQ];rfl
 have fd:e2.defers=[]:=by rw[qd2];simp only[gW,reduceIte,aZ,aQ,hd]
 clear q2 qd2;refine cE (λm e H=>∃(i:Nat) (a b' c d e' f g j:eQ),i<=64/\m=64 - i/\vF [s0,s1,s2,s3,s4,s5,s6,s7] b i=[a,b',c,d,e',f,g,j]/\e.get 2=.ptr (.box h.boxes.length) 0/\e.get 4=.ptr (.box (h.boxes.length+1)) 0/\e.get 5=.ptr (.box H0.boxes.length) 0/\e.get 10=.ptr (.box N) 0/\
  e.get 11=aU a/\e.get 12=aU b'/\e.get 13=aU c/\e.get 14=aU d/\e.get 15=aU e'/\e.get 16=aU f/\e.get 17=aU g/\e.get 18=aU j/\e.get 19=.v (.int .i64 i)/\e.defers=[]/\H=H2) ?_ 64 _ _ ?_
 rotate_left 1
 ·refine⟨0,s0,s1,s2,s3,s4,s5,s6,s7,by decide,rfl,atW _ _,f2,f4,f5,f10,f11,f12,f13,f14,f15,f16,f17,f18,f19,fd,rfl⟩
 clear f2 f4 f5 f10 f11 f12 f13 f14 f15 f16 f17 f18 f19 fd g2 g4 g5 g7 hd nn z2 st2;rintro m e H ⟨i,a,b',c,d,e',f,g,j,hi,rfl,hv,g2,g4,g5,g10,g11,g12,g13,g14,g15,g16,g17,g18,g19,hd,rfl⟩;by_cases hc:i<64
 ·refine qV λQ=>?_;have lk:=klk.out i (by rw[Kr];exact hc);have lw:=klw.out i (by rw[kK];exact hc);rw[aks hc] at lk;have XE:=rf (b:=H0.boxes.length) (n:=i) (k:=.i64) hc;have Eu:=rf (b:=N) (n:=i) (k:=.i64) hc;have jA:=RU [s0,s1,s2,s3,s4,s5,s6,s7] b i;rw[hv,hW,apO] at jA;have kv:=al.mk jA;have r6:∀h,W1.call 224 [aU e',.v (.int .i64 6)] h=aa (.ret (aU (NT.dL e' 6)),h):=xj e' 6 aO aO;have r11:∀h,W1.call 224 [aU e',.v (.int .i64 11)] h=aa (.ret (aU (NT.dL e' 11)),h):=xj e' 11 aO aO;have r25:∀h,W1.call 224 [aU e',.v (.int .i64 25)] h=aa (.ret (aU (NT.dL e' 25)),h):=xj e' 25 aO aO;have r2:∀h,W1.call 224 [aU a,.v (.int .i64 2)] h=aa (.ret (aU (NT.dL a 2)),h):=xj a 2 aO aO;have r13:∀h,W1.call 224 [aU a,.v (.int .i64 13)] h=aa (.ret (aU (NT.dL a 13)),h):=xj a 13 aO aO;have r22:∀h,W1.call 224 [aU a,.v (.int .i64 22)] h=aa (.ret (aU (NT.dL a 22)),h):=xj a 22 aO aO;clear jA hv l0 l1 l2 l3 l4 l5 l6 l7 j0 j1 j2 j3 j4 j5 j6 j7
  repeat' (first|simp(maxSteps:=999999)(disch:=first|exact dZ|fail)only[gW,reduceIte,aZ,aQ,AM,oI,ot,Dp,alO, *]|(refine dX ?_ ?_<;>(intro _;try omega))|refine dR uU aw ?_)
  refine⟨64 - (i+1),by omega,i+1,_,a,b',c,_,e',f,g,by omega,rfl,kv.out,?_⟩;refine⟨?_,?_,?_,?_,rfl,?_,?_,?_,rfl,?_,?_,?_,?_,?_,?_⟩<;>first|exact aX|exact rfl
 ·have:i=64:=by omega
  subst this;have hbF:wm [s0,s1,s2,s3,s4,s5,s6,s7] b=[s0+a,s1+b',s2+c,s3+d,s4+e',s5+f,s6+g,s7+j]:=by unfold wm;show List.zipWith (·+·) [s0,s1,s2,s3,s4,s5,s6,s7] (vF [s0,s1,s2,s3,s4,s5,s6,s7] b 64)=_;rw[hv];rfl
  rw[hbF];have AO:cI aq H 229 (.ptr (.box (h.boxes.length+1)) 0) (.agg (b8 [s0+a,s1+b',s2+c,s3+d,s4+e',s5+f,s6+g,s7+j]))=aa (H.put (h.boxes.length+1) (b8 [s0+a,s1+b',s2+c,s3+d,s4+e',s5+f,s6+g,s7+j])):=by rw[ig CG Iw kb2.out rfl bH,xz bH]
  have jN:aI aq Gt (H.put (h.boxes.length+1) (b8 [s0+a,s1+b',s2+c,s3+d,s4+e',s5+f,s6+g,s7+j])) 229 (.ptr (.box (h.boxes.length+1)) 0)=aa (.agg (b8 [s0+a,s1+b',s2+c,s3+d,s4+e',s5+f,s6+g,s7+j])):=PN Te Iw (eP (aV.1 kb2.out).1) rfl;clear hv;simp only[eK,uK] at AO jN
  repeat' (first|simp(maxSteps:=999999)(disch:=first|exact dZ|fail)only[gW,reduceIte,aZ,aQ,AM,oI,ot,ad4, *]|(refine dX ?_ ?_<;>(intro _;try omega))|refine dR uU aw ?_)
  exact⟨_,rfl,kX2.out.gh ah _⟩
def Ih:Tryz.f213.results.toList=[.tmp 2]:=aw
def MY{H}{k}{n0}{es new}{x}(hx:mM H 1 x=aa (bf new))(hl:es.length+new.length<=8796093022208)(hk:dD n0 H k)(ho:cO H=ai)(hn:n0<=H.tn):
 ∃t H',gP aq H #[28,28] (.list k 1 (bf es)) x=aa (.list t 1 (bf (es++new)),H')/\Grown n0 H H' t:=by
 by_cases hs:new=[]
 ·subst hs;obtain⟨i,q1,q2,q3,q4⟩:=Cj;refine⟨k,H,?_,Grown.refl hk ho⟩;rw[To jv (.inl ⟨_,jv⟩) q1 ah (by rw[q2];exact q4) (by rw[q2];exact hx) (.inl q2.symm),jX]
 ·exact⟨_,_,Jd (.inl ⟨_,jv⟩) hx hs hl (.inl rfl) hk,Grown.one hk ho hn⟩
def TC:fX aq 28 0 []=aa (.list .tight 1 []):=aw
def aeL:fX aq 28 1 [(0,.v (.int .u8 128))]=aa (.list .tight 1 [[cq 128]]):=aw
def aez:fX aq 28 1 [(0,.v (.int .u8 0))]=aa (.list .tight 1 [[cq 0]]):=aw
def ar0{t}{x y}{n k}(hk:k<=7):cZ aq .shr t x y (.v (.int .u64 (n:Nat))) (.v (.int .i64 ((8 * k:Nat):Int)))=aa (.v (.int .u64 ((n/2^(8 * k):Nat):Int))):=by rw[Bg ah,dK,show IntKind.u64.bits=64 from rfl,Nat.min_eq_left ah];congr 3;rw[Fz _ (by have:(0:Int)<2^(8 * k):=Int.pow_pos aO;omega)];simp
def akK{n c}(hc:c<8):(oD n).take (c+1)=(oD n).take c++[UInt8.ofNat (n * 8/2^(8 * (7 - c)))]:=by refine fW ?_;unfold oD;rw[ev,FI hc];rfl
def tG(b:List UInt8)(j:Nat):List UInt8:=b++0x80::bg j 0
def amo(b)(j):tG b j++[0]=tG b (j+1):=by unfold tG;rw[List.replicate_succ'];simp
def Qp(b)(j):(tG b j).length=b.length+1+j:=by unfold tG;simp;omega
def ap7(b:List UInt8)(k:Tok)(h:ao)(ho:cO h=ai)(hb:b.length<=1099511620000):
 ∃r h',W1.call 213 [.list k 1 (bf b)] h=aa (r,h')/\∃t,r=.ret (.list t 1 (bf (qD b)))/\Grown h.tn h h' t:=by
 obtain⟨t1,h1,a1,g1⟩:=MY (H:=h) (k:=.tight) (n0:=h.tn) (es:=[]) (new:=b) (x:=.list k 1 (bf b)) Qc (by simp;omega) (.inr (.inl rfl)) ho (aM _);rw[mC] at a1;replace a1:gP aq h #[28,28] (.list .tight 1 []) (.list k 1 (bf b))=aa (.list t1 1 (bf b),h1):=a1;have a2:=zI (H:=h1) (k:=t1) (k':=.tight) (es:=b) (c:=128) ah (.inl rfl) g1.can;have g2:=g1.app (aM _);have kG:=al.mk g2;have e0:b++[128]=tG b 0:=rfl;rw[e0] at a2;have u28:=jv;have bl:=TC;have bl1:=aeL;have nx:(bf b).length=b.length:=bE _;clear g1 g2 ho e0;refine da rfl Tryz.func213 rfl ?_;refine bI @Ih ?_;refine cE (λm e H=>∃(j:Nat) (t:Tok),j<=oJ b.length/\m=oJ b.length - j/\e.get 0=.list k 1 (bf b)/\e.get 3=.list t 1 (bf (tG b j))/\e.defers=[]/\Grown h.tn h H t) ?_ (oJ b.length) _ _ ?_;rotate_left 1
 ·refine⟨0,.free h1.tn,cG _,rfl,?_,?_,?_,kG.out⟩<;>(first|assumption|(exact gR))
 clear kG a1 a2;rintro m e H ⟨j,t,hj,rfl,g0,g3,hd,hG⟩;have kG:=al.mk hG;have hz:oJ b.length=(119 - b.length%64)%64:=rfl;have eO:(bf (tG b j)).length=b.length+1+j:=by rw[bE,Qp]
 have hm:((b.length+1+j:Nat):Int).tmod 64=(((b.length+1+j)%64:Nat):Int):=oH _ 64;by_cases aB:j<oJ b.length
 ·have bO:¬((((b.length+1+j)%64:Nat):Int)=56):=by omega
  have ap:=zI (H:=H) (k:=t) (k':=.tight) (es:=tG b j) (c:=0) (by rw[Qp];omega) (.inl rfl) hG.can;rw[amo] at ap;have bl2:=aez;clear hG;refine bI @Ih ?_;exact⟨oJ b.length - (j+1),by omega,j+1,.free H.tn,by omega,rfl,by trivial,by trivial,by trivial,kG.out.app (aM _)⟩
 have:j=oJ b.length:=by omega
 subst this;have mi:(b.length+1+oJ b.length)%64=56:=by omega
 rw[mi] at hm;have w1:=vT (n:=b.length) ah;have w2:IntKind.u64.wrap (((b.length:Nat):Int) * 8)=((b.length * 8:Nat):Int):=by rw[show((b.length:Nat):Int) * 8=((b.length * 8:Nat):Int) by omega,vT ah]
 have kll:=al.mk eO;have avc:((56:Nat):Int)=56:=rfl;clear hG hz;refine bV @Ih @qR ?_;refine cE (λm e H=>∃(c:Nat) (t:Tok),c<=8/\m=8 - c/\e.get 3=.list t 1 (bf (tG b (oJ b.length)++(oD b.length).take c))/\e.get 4=.v (.int .u64 ((b.length * 8:Nat):Int))/\e.get 5=.v (.int .i64 (7 - (c:Int)))/\e.defers=[]/\Grown h.tn h H t) ?_ 8 _ _ ?_;rotate_left 1
 ·refine⟨0,t,cG _,rfl,?_,?_,?_,?_,kG.out⟩<;>(first|assumption|(simp only[gW,reduceIte,aZ,aQ,fm,jX]<;>first|assumption|rfl))
 clear kG g0 g3 hd;rintro m e H ⟨c,t,hc,rfl,g3,g4,g5,hd,hG⟩;have kG:=al.mk hG;by_cases aB:c<8
 ·have ec:(0:Int)<=7 - (c:Int):=by omega
  have e8:IntKind.i64.wrap (8 * (7 - (c:Int)))=((8 * (7 - c):Nat):Int):=by rw[gF ah ah];omega
  have e1:IntKind.i64.wrap (7 - (c:Int) - 1)=7 - ((c+1:Nat):Int):=by rw[gF ah ah];omega
  have sh:=λt x y=>ar0 (t:=t) (x:=x) (y:=y) (n:=b.length * 8) (k:=7 - c) ah;have uv:=RQ (b.length * 8/2^(8 * (7 - c)));have bl3:=zK (UInt8.ofNat (b.length * 8/2^(8 * (7 - c))));have VB:(oD b.length).length=8:=by simp[oD]
  have ap:=zI (H:=H) (k:=t) (k':=.tight) (es:=tG b (oJ b.length)++(oD b.length).take c) (c:=UInt8.ofNat (b.length * 8/2^(8 * (7 - c)))) (by rw[dE,Qp,fj];have:oJ b.length<64:=mV _ aO;omega) (.inl rfl) hG.can;rw[sR,<-akK aB] at ap;clear hG;refine bV @Ih @DD ?_;exact⟨8 - (c+1),by omega,c+1,.free H.tn,by omega,rfl,by trivial,by trivial,by trivial,by trivial,kG.out.app (aM _)⟩
 ·have:c=8:=by omega
  subst this;have VB:(oD b.length).take 8=oD b.length:=gO (by simp[oD]);have hp:tG b (oJ b.length)++oD b.length=qD b:=by unfold tG qD;simp
  rw[VB,hp] at g3;have OO:¬((0:Int)<=7 - ((8:Nat):Int)):=by omega
  clear hG;refine bI @Ih ?_;exact⟨_,_,rfl,_,rfl,kG.out⟩
def aqq:Tryz.f166.results.toList=[.cell 4 177]:=aw
def QS:Tryz.f123.results.toList=[.tmp 4]:=aw
def amq(b):(qD b).length=64 * ((qD b).length/64):=by
 have:(qD b).length=b.length+1+oJ b.length+8:=by unfold qD;simp[oD];omega
 have hz:oJ b.length=(119 - b.length%64)%64:=rfl;omega
def YB:∀(s:List eQ) (i:Nat),i<4 * s.length->(jE s)[i]?=aa (UInt8.ofNat ((df s (i/4)).toNat/256^(3 - i%4)))
 | [],i,h=>by simp at h
 |x::s,i,h=>by
  have e:jE (x::s)=[UInt8.ofNat (x.toNat/16777216),UInt8.ofNat (x.toNat/65536),UInt8.ofNat (x.toNat/256),UInt8.ofNat x.toNat]++jE s:=by unfold jE;rw[List.flatMap_cons]
  rw[e];rcases dV i 4 with q|q
  ·have:i=0∨i=1∨i=2∨i=3:=(by omega);rcases this with rfl|rfl|rfl|rfl<;>simp[df]
  ·rw[zC (by simpa using q)];have:=YB s (i - 4) (by simp at h;omega);simp only[jn,jY];rw[(ah:i - (0+1+1+1+1)=i - 4),this];have h1:i/4=(i - 4)/4+1:=(by omega);have h2:i%4=(i - 4)%4:=(by omega);rw[h1,h2];rfl
def ad3:mW aq 177 []=aa (.agg (bg 32 (cq 0))):=aw
def aec:mW aq 229 [(0,.v (.int .u32 1779033703)),(1,.v (.int .u32 3144134277)),(2,.v (.int .u32 1013904242)),(3,.v (.int .u32 2773480762)),(4,.v (.int .u32 1359893119)),(5,.v (.int .u32 2600822924)),(6,.v (.int .u32 528734635)),(7,.v (.int .u32 1541459225))]=aa (.agg (b8 NT.start)):=aw
def aoa:(AV.agg (bg 32 (cq 0))).cD=aa (bg 32 (cq 0)):=aw
def ar1{t}{x y}{v:eQ}{r}(hr:r<4):cZ aq .shr t x y (aU v) (.v (.int .i64 (24 - ((8 * r:Nat):Int))))=aa (.v (.int .u32 ((v.toNat/256^(3 - r):Nat):Int))):=by
 have e:(24 - ((8 * r:Nat):Int))=((24 - 8 * r:Nat):Int):=by omega
 rw[e,sN ah];unfold aU;rw[BitVec.toNat_ushiftRight,Nat.shiftRight_eq_div_pow];have:2^(24 - 8 * r)=256^(3 - r):=by rw[show(256:Nat)=2^8 from rfl,<-Nat.pow_mul];congr 1;omega
 rw[this]
def agG(n)(h):nm aq h 42 5 (.v (.int .u32 n))=aa (.v (.int .u8 (IntKind.u8.wrap n)),h):=aw
def akp{b}{n}(hn:n<32):dG aq 177 (.ptr (.box b) 0) (.v (.int .i64 (n:Nat)))=aa (.ptr (.box b) n):=Hq hn
def Z7(b:List UInt8)(k:Tok)(h:ao)(ho:cO h=ai)(hb:b.length<=1099511620000):∃h',W1.call 190 [.list k 1 (bf b)] h=aa (.ret (.agg (b7 (eV b))),h')/\Ext h h':=by
 have z1:=Fi;have z2:=abd;have bst:=aec;have x0:Ext h ((h.push (bg 32 (cq 0))).push (b8 NT.start)):=(Ext.push _ _).trans (.push _ _);have st0:cI aq ((h.push (bg 32 (cq 0))).push (b8 (bg 8 0#32))) 229 (.ptr (.box (h.push (bg 32 (cq 0))).boxes.length) 0) (.agg (b8 NT.start))=aa ((h.push (bg 32 (cq 0))).push (b8 NT.start)):=l9 CG Iw rfl rfl;obtain⟨r1,h1,c1,t,rfl,g1⟩:=ap7 b k _ (x0.ok ho) hb;have wU:(qD b).length=b.length+1+oJ b.length+8:=by unfold qD;simp[oD];omega
 have tD:oJ b.length<64:=mV _ aO;have hpm:=amq b;have kSh:al (eV b=jE (gJ ((qD b).length/64) NT.start (qD b))):=⟨rfl⟩;generalize qD b=p at *
 generalize hn:p.length/64=n at *
 have kX:=al.mk (g1.ext x0 x0.tn);have kd:=al.mk (g1.box _ _ (bA (bh h (bg 32 (cq 0)))));have ks:al (h1.boxes[h.boxes.length+1]?=aa (b8 NT.start)):=⟨g1.box _ _ (nb (by rw[cX]))⟩;have O7:(bf p).length=p.length:=bE _;have u28:=jv;clear x0 g1 ho;refine iu rfl Tryz.func190 rfl ?_;refine bI @Ia ?_;refine cE (λm e H=>∃i:Nat,i<=n/\m=n - i/\e.get 2=.ptr (.box h.boxes.length) 0/\e.get 3=.ptr (.box (h.boxes.length+1)) 0/\e.get 4=.list t 1 (bf p)/\e.get 5=.v (.int .i64 ((64 * i:Nat):Int))/\e.defers=[]/\H.boxes[h.boxes.length]?=aa (bg 32 (cq 0))/\H.boxes[h.boxes.length+1]?=aa (b8 (gJ i NT.start p))/\Ext h H) ?_ n _ _ ?_;rotate_left 1
 ·refine⟨0,cG _,rfl,?_,?_,?_,?_,?_,kd.out,ks.out,kX.out⟩<;>(first|assumption|(simp only[gW,reduceIte,aZ,aQ,cX]<;>rfl))
 clear kd ks kX st0 z2 bst c1;rintro m e H ⟨i,hi,rfl,g2,g3,g4,g5,hd,nu,wL,hX⟩;have h8:=uT i NT.start p rfl;by_cases aB:i<n
 ·refine qV λQ=>?_;have e1:IntKind.i64.wrap (((64 * i:Nat):Int)+64)=((64 * i+64:Nat):Int):=by rw[gF ah ah];omega
  obtain⟨k',sl⟩:=aap (k:=t) (b:=p) (lo:=64 * i) (hi:=64 * i+64) ah ah;have ep:(p.take (64 * i+64)).drop (64 * i)=(p.drop (64 * i)).take 64:=by rw[List.drop_take];congr 1;omega
  rw[ep] at sl;obtain⟨H2,c2,x2⟩:=anT (gJ i NT.start p) ((p.drop (64 * i)).take 64) k' H h8 (by rw[fj,hD];omega);rw[<-Ga] at c2;have l0:aI aq Gt H 229 (.ptr (.box (h.boxes.length+1)) 0)=aa (.agg (b8 (gJ i NT.start p))):=PN Te Iw wL h8;have Od:=x2.box _ _ wL;have st:cI aq H2 229 (.ptr (.box (h.boxes.length+1)) 0) (.agg (b8 (gJ (i+1) NT.start p)))=aa (H2.put (h.boxes.length+1) (b8 (gJ (i+1) NT.start p))):=by rw[ig CG Iw Od (by rw[bE,uT _ _ _ rfl]) (by rw[bE,h8];decide),xz (by rw[bE,bE,uT _ _ _ rfl,h8])]
  have kd:al ((H2.put (h.boxes.length+1) (b8 (gJ (i+1) NT.start p))).boxes[h.boxes.length]?=aa (bg 32 (cq 0))):=⟨by rw[dg ah];exact x2.box _ _ nu⟩;have ks:al ((H2.put (h.boxes.length+1) (b8 (gJ (i+1) NT.start p))).boxes[h.boxes.length+1]?=aa (b8 (gJ (i+1) NT.start p))):=⟨eP (aV.1 Od).1⟩;have kX:=al.mk ((hX.trans x2).gh (ah:h.boxes.length<=h.boxes.length+1) (b8 (gJ (i+1) NT.start p)));have VZ:((64 * i:Nat):Int)<(p.length:Int):=by omega
  clear nu wL Od hX x2 ep
  repeat' (first|simp(maxSteps:=999999)(disch:=first|exact dZ|fail)only[gW,reduceIte,aZ,aQ,Ia, *]|(refine dX ?_ ?_<;>(intro _;try omega))|refine dR uU aw ?_)
  exact⟨n - (i+1),by omega,i+1,by omega,rfl,by trivial,by trivial,by trivial,by simp;omega,by trivial,kd.out,ks.out,kX.out⟩
 have:i=n:=by omega
 subst this;have VZ:¬((64 * i:Nat):Int)<(p.length:Int):=by omega
 generalize gJ i NT.start p=s at *
 have c32:=aoa;have bd:=ad3;have st1:cI aq (H.push (bg 32 (cq 0))) 177 (.ptr (.box H.boxes.length) 0) (.agg (bg 32 (cq 0)))=aa (H.push (bg 32 (cq 0))):=l9 c32 qH rfl rfl;have kX:=al.mk (hX.trans (Ext.push H (bg 32 (cq 0))));have kd:al ((H.push (bg 32 (cq 0))).boxes[h.boxes.length]?=aa (bg 32 (cq 0))):=⟨bA nu⟩;have ks:al ((H.push (bg 32 (cq 0))).boxes[h.boxes.length+1]?=aa (b8 s)):=⟨bA wL⟩;have nx:=(aV.1 wL).1;have ajq:(jE s).length=32:=by rw[Cu,h8]
 clear hX nu wL;refine bI @Ia ?_;refine cE (λm e H1=>∃j:Nat,j<=32/\m=32 - j/\e.get 2=.ptr (.box h.boxes.length) 0/\e.get 3=.ptr (.box (h.boxes.length+1)) 0/\e.get 6=.ptr (.box H.boxes.length) 0/\e.get 7=.v (.int .i64 j)/\e.defers=[]/\H1=H.push (b7 ((jE s).take j)++bg (32 - j) (cq 0))) ?_ 32 _ _ ?_;rotate_left 1
 ·refine⟨0,cG _,rfl,?_,?_,?_,?_,?_,rfl⟩<;>(first|assumption|(exact gR))
 clear g2 g3 g4 g5 hd st1 bd c32 VZ;rintro m e H1 ⟨j,hj,rfl,g2,g3,g6,g7,hd,rfl⟩;by_cases aB:j<32
 ·refine qV λQ=>?_;have m1:((j:Nat):Int).tdiv 4=((j/4:Nat):Int):=Iy j 4;have m2:((j:Nat):Int).tmod 4=((j%4:Nat):Int):=oH j 4;have w1:IntKind.i64.wrap ((j/4:Nat):Int)=((j/4:Nat):Int):=gF ah ah;have w2:IntKind.i64.wrap (8 * ((j%4:Nat):Int))=((8 * (j%4):Nat):Int):=by rw[gF ah ah];omega
  have w3:IntKind.i64.wrap (24 - ((8 * (j%4):Nat):Int))=24 - ((8 * (j%4):Nat):Int):=gF ah ah;have ixs:=yO (b:=h.boxes.length+1) (n:=j/4) (k:=.i64) ah;have l1:aI aq Gt (H.push (b7 ((jE s).take j)++bg (32 - j) (cq 0))) 42 (.ptr (.box (h.boxes.length+1)) (j/4))=aa (aU (df s (j/4))):=by refine rh ?_ ah;have:=ks.out;rw[JL ah] at this ⊢;exact this
  have sh:=λt x y=>ar1 (t:=t) (x:=x) (y:=y) (v:=df s (j/4)) (r:=j%4) ah;have uv:=RQ ((df s (j/4)).toNat/256^(3 - j%4));have ixd:=akp (b:=H.boxes.length) aB;have ho:=YB s j ah;have stp:cI aq (H.push (b7 ((jE s).take j)++bg (32 - j) (cq 0))) 5 (.ptr (.box H.boxes.length) j) (cq (UInt8.ofNat ((df s (j/4)).toNat/256^(3 - j%4))))=aa (H.push (b7 ((jE s).take (j+1))++bg (32 - (j+1)) (cq 0))):=by have bZ:(b7 ((jE s).take j)).length=j:=(by rw[ma,fj];omega);rw[LG (bh _ _) (by rw[dE,bZ,mB];omega),pg];congr 2;obtain⟨q,hq⟩:∃q,32 - j=q+1:=⟨31 - j,by omega⟩;rw[hq,A1,List.set_append_right _ _ (by rw[bZ];exact aM _),bZ,tU,List.set_cons_zero,fW ho,(ah:32 - (j+1)=q)];unfold b7;rw[List.map_append,sR];rfl
  clear ho;refine bV @Ia @agG ?_;exact⟨32 - (j+1),by omega,j+1,by omega,rfl,by trivial,by trivial,by trivial,rfl,by trivial,rfl⟩
 ·have:j=32:=by omega
  subst this;have et:b7 ((jE s).take 32)++bg (32 - 32) (cq 0)=b7 (eV b):=by rw[gO ah,tU,ach,jX,kSh.out]
  have hL:(b7 (eV b)).length=32:=by rw[ma,kSh.out];exact ajq
  have wN:=(aV.1 kd.out).1;have kd2:(H.push (b7 (eV b))).boxes[h.boxes.length]?=aa (bg 32 (cq 0)):=by have:=kd.out;rw[JL ah] at this ⊢;exact this
  have l1:aI aq Gt (H.push (b7 (eV b))) 177 (.ptr (.box H.boxes.length) 0)=aa (.agg (b7 (eV b))):=by rw[iC Dn qH (bh _ _) (by rw[hL];exact aM _),iX,gO (by rw[hL];exact aM _)]
  have st:cI aq (H.push (b7 (eV b))) 177 (.ptr (.box h.boxes.length) 0) (.agg (b7 (eV b)))=aa ((H.push (b7 (eV b))).put h.boxes.length (b7 (eV b))):=by rw[ig (zd _) qH kd2 hL bH,xz (by rw[hL];rfl)]
  have l2:aI aq Gt ((H.push (b7 (eV b))).put h.boxes.length (b7 (eV b))) 177 (.ptr (.box h.boxes.length) 0)=aa (.agg (b7 (eV b))):=by rw[iC Dn qH (eP (aV.1 kd2).1) (by rw[hL];exact aM _),iX,gO (by rw[hL];exact aM _)]
  have xh:Ext h (H.push (b7 (eV b))):=by have fP:∀(c:Nat) cs,h.boxes[c]?=aa cs->(H.push (b7 (eV b))).boxes[c]?=aa cs:=λc cs hc=>(by have:=kX.out.box c cs hc;rw[JL (by have:=(aV.1 hc).1;omega)] at this ⊢;exact this);exact⟨fP,kX.out.loop,kX.out.tn,kX.out.dead,kX.out.ok⟩
  have kX2:=al.mk (xh.gh (aM _) (b7 (eV b)));rw[et];clear kd2 xh et;refine bI @Ia ?_;exact⟨_,rfl,kX2.out⟩
def aqU(bu b)(k)(h)(ho:cO h=ai)(hb:b.length<=1099511610000)(ht:bu.length<=1099511610000):
 ∃h',W1.call 166 [.v (.string (bs bu)),.list k 1 (bf b)] h=aa (.ret (.agg (b7 (gi bu b))),h')/\Ext h h':=by
 have z177:=Fi;have x0:Ext h ((h.push (bg 32 (cq 0))).app .nil):=(Ext.push _ _).trans (Ext.app (Ext.refl _) (.inl rfl));have e0:((h.push (bg 32 (cq 0))).app .nil).boxes=(h.push (bg 32 (cq 0))).boxes:=eL _ _;obtain⟨H2,c2,x2⟩:=Z7 bu (.free (h.push (bg 32 (cq 0))).tn) ((h.push (bg 32 (cq 0))).app .nil) (x0.ok ho) ah;have d0:H2.boxes[h.boxes.length]?=aa (bg 32 (cq 0)):=x2.box _ _ (by rw[e0];exact bh _ _);have tl:(b7 (eV bu)).length=32:=by rw[ma,tJ]
 have st1:cI aq (H2.push (bg 32 (cq 0))) 177 (.ptr (.box H2.boxes.length) 0) (.agg (b7 (eV bu)))=aa (H2.push (b7 (eV bu))):=l9 (zd _) qH tl rfl;have x3:Ext h (H2.push (b7 (eV bu))):=(x0.trans x2).trans (Ext.push _ _);have nr:mM (H2.push (b7 (eV bu))) 1 (.arr H2.boxes.length 0 32 32)=aa (bf (eV bu)):=
  dQ.news (dQ.box (zL _) (by rw[bE,tJ]) (by rw[IA];exact bh _ _))
 obtain⟨t4,H4,a4,g4⟩:=MY (H:=H2.push (b7 (eV bu))) (k:=.tight) (n0:=h.tn) (es:=[]) nr (by rw[tJ];simp) (.inr (.inl rfl)) (x3.ok ho) x3.tn;rw[mC] at a4;replace a4:gP aq (H2.push (b7 (eV bu))) #[28,28] (.list .tight 1 []) (.arr H2.boxes.length 0 32 32)=aa (.list t4 1 (bf (eV bu)),H4):=a4;have x4:=g4.ext x3 (aM _);obtain⟨t5,H5,a5,g5⟩:=MY (H:=H4) (k:=t4) (n0:=h.tn) (es:=eV bu) (new:=b) (x:=.list k 1 (bf b)) Qc (by rw[tJ];omega) g4.can g4.ok x4.tn;have x5:=g5.ext x4 (aM _);obtain⟨H6,c6,x6⟩:=Z7 (eV bu++b) t5 H5 g5.ok (by rw[dE,tJ];omega);have d6:H6.boxes[h.boxes.length]?=aa (bg 32 (cq 0)):=x6.box _ _ (g5.box _ _ (g4.box _ _ (bA d0)));have tl2:(b7 (gi bu b)).length=32:=by rw[ma];exact tJ _
 have st2:cI aq H6 177 (.ptr (.box h.boxes.length) 0) (.agg (b7 (gi bu b)))=aa (H6.put h.boxes.length (b7 (gi bu b))):=by rw[ig (zd _) qH d6 tl2 bH,xz (by rw[tl2];simp)]
 have ld2:aI aq Gt (H6.put h.boxes.length (b7 (gi bu b))) 177 (.ptr (.box h.boxes.length) 0)=aa (.agg (b7 (gi bu b))):=by rw[iC Dn qH (eP (aV.1 d6).1) (by rw[tl2];exact aM _),iX,gO (by rw[tl2];exact aM _)]
 replace c6:W1.call 190 [.list t5 1 (bf (eV bu++b))] H5=aa (.ret (.agg (b7 (gi bu b))),H6):=c6;have kX:=al.mk ((x5.trans x6).gh (aM _) (b7 (gi bu b)));have bl:=TC;clear e0 x0 x2 x3 x4 x5 x6 g4 g5 d0 d6 tl tl2 nr;refine iu rfl Tryz.func166 rfl ?_;refine cR @aqq @UD @aao ?_;exact⟨_,rfl,kX.out⟩
def anM{b}:jw (mask b) 1=(dz b 0).toNat%128∨b=[]:=by
 by_cases hb:b=[]
 ·exact .inr hb
 ·refine .inl ?_;have:0<b.length:=List.length_pos_iff.2 hb;show 0 * 256+(dz (mask b) 0).toNat=_;rw[KA this,aG rfl,MX];omega
def aoC(bu b:List UInt8)(k:Tok)(h:ao)(ho:cO h=ai)(hb:b.length<=1099511610000)(ht:bu.length<=1099511610000):
 ∃h',W1.call 123 [.v (.string (bs bu)),.list k 1 (bf b)] h=aa (.ret (im (mK (gi bu b):Nat)),h')/\Ext h h':=by
 obtain⟨H1,c1,x1⟩:=aqU bu b k h ho hb ht;have hl:(gi bu b).length=32:=tJ _;have dF:(b7 (gi bu b)).length=32:=by rw[ma,hl]
 have he:=hash_eq (b:=gi bu b) ah;generalize gi bu b=d at *
 have bD:0<d.length:=by omega
 have z177:=Fi;have st1:cI aq (H1.push (bg 32 (cq 0))) 177 (.ptr (.box H1.boxes.length) 0) (.agg (b7 d))=aa (H1.push (b7 d)):=l9 (zd _) qH dF rfl;have ix0:dG aq 177 (.ptr (.box H1.boxes.length) 0) (.v (.int .i64 0))=aa (.ptr (.box H1.boxes.length) 0):=Hq (n:=0) aO;have l0:aI aq Gt (H1.push (b7 d)) 5 (.ptr (.box H1.boxes.length) 0)=aa (.v (.int .u8 ((dz d 0).toNat:Nat))):=Ks (bh _ _) bD;have m0:(((dz d 0).toNat:Nat):Int).tmod 128=((jw (mask d) 1:Nat):Int):=by refine(oH (dz d 0).toNat 128).trans ?_;rw[show jw (mask d) 1=(dz d 0).toNat%128 from anM.resolve_right (by rintro rfl;simp at bD)]
 have ew0:IntKind.i64.wrap (((dz d 0).toNat:Nat):Int)=(((dz d 0).toNat:Nat):Int):=by have:=uC (dz d 0);exact gF ah ah
 have hX:=al.mk (x1.trans (Ext.push H1 (b7 d)));have aB:=λi hi=>Yf bD (i:=i) hi;have nh:∀i,i≠0->dz (mask d) i=dz d i:=λi hi=>by rw[KA bD,aH hi]
 have kB:=al.mk (bh H1 (b7 d));have klt:=al.mk aB;have ke:=al.mk he;have kl:=al.mk hl;have kml:=al.mk nh;clear dF hl aB he nh x1 bD ho;unfold im;refine iu rfl Tryz.func123 rfl ?_;refine bV @QS @Nz ?_;refine cE (λm e H=>∃i:Nat,1<=i/\i<=8/\m=8 - i/\e.get 5=.ptr (.box H1.boxes.length) 0/\e.get 7=.v (.int .i64 i)/\e.get 6=.v (.int .i64 (jw (mask d) i:Nat))/\e.defers=[]/\H=H1.push (b7 d)) ?_ 7 _ _ ?_;rotate_left 1
 ·refine⟨1,by decide,by decide,rfl,?_,?_,?_,?_,rfl⟩<;>(first|assumption|(exact gR))
 clear z177 st1 ix0 l0 c1 m0 ew0;rintro m e H ⟨i,Ox,hi,rfl,g5,g7,g6,hd,rfl⟩;by_cases h8:i=8
 ·subst h8;have e1:(((jw (mask d) 8:Nat):Int)).tmod 1073741789=((mK d:Nat):Int):=by rw[<-ke.out];exact oH _ _
  generalize jw (mask d) 8=A at *
  refine bI @QS ?_;exact⟨_,rfl,hX.out⟩
 ·have aB:i<8:=by omega
  have a1:=klt.out i aB;have u1:=uC (dz d i);have ix:=Hq (b:=H1.boxes.length) (n:=i) (k:=.i64) ah;have ld:aI aq Gt (H1.push (b7 d)) 5 (.ptr (.box H1.boxes.length) i)=aa (.v (.int .u8 ((dz d i).toNat:Nat))):=Ks kB.out (by have:=kl.out;omega);have ew:IntKind.i64.wrap (((dz d i).toNat:Nat):Int)=(((dz d i).toNat:Nat):Int):=gF ah ah;have kstep:=al.mk (show jw (mask d) (i+1)=jw (mask d) i * 256+(dz d i).toNat by rw[<-kml.out i ah];rfl);generalize jw (mask d) i=A at *
  generalize (dz d i).toNat=r at *
  have e2:IntKind.i64.wrap (((A:Nat):Int) * 256)=((A * 256:Nat):Int):=by rw[gF ah ah];omega
  have e3:IntKind.i64.wrap (((A * 256:Nat):Int)+((r:Nat):Int))=((A * 256+r:Nat):Int):=by rw[gF ah ah];omega
  refine bV @QS @Nz ?_;exact⟨8 - (i+1),by omega,i+1,by omega,by omega,rfl,by trivial,rfl,by rw[kstep.out],by trivial,by trivial⟩
def aqd:Tryz.f119.results.toList=[.cell 2 96]:=aw
def aqe:Tryz.f120.results.toList=[.cell 2 96]:=aw
def aqf:Tryz.f121.results.toList=[.cell 2 96]:=aw
def M6(n):mW aq 96 [(0,.v (.int .i64 1)),(1,.v (.int .i64 n))]=aa (.agg (aJ 1 n [] .nil 0 [])):=aw
def M7(s):mW aq 96 [(0,.v (.int .i64 2)),(2,.v (.string (bs s)))]=aa (.agg (aJ 2 0 s .nil 0 [])):=aw
def bdl(k)(sz)(ae):mW aq 96 [(0,.v (.int .i64 3)),(3,.list k sz ae)]=aa (.agg (aJ 3 0 [] k sz ae)):=aw
def LH{H:ao}{k n}{s}{t}{sz}{ae}:cI aq (H.push (aJ 0 0 [] .nil 0 [])) 96 (.ptr (.box H.boxes.length) 0) (.agg (aJ k n s t sz ae))=aa (H.push (aJ k n s t sz ae)):=l9 rfl pS rfl rfl
def PM{H:ao}{k n}{s}{t}{sz}{ae}:aI aq Gt (H.push (aJ k n s t sz ae)) 96 (.ptr (.box H.boxes.length) 0)=aa (.agg (aJ k n s t sz ae)):=pP rfl (bh _ _)
def aoK(n:Int)(h:ao):W1.call 120 [.v (.int .i64 n)] h=aa (.ret (.agg (aJ 1 n [] .nil 0 [])),h.push (aJ 1 n [] .nil 0 [])):=by have z:=xD;refine cL rfl Tryz.func120 rfl ?_;exact mf @aqe @M6 @LH @PM
def aqZ(s:List UInt8)(h:ao):W1.call 121 [.v (.string (bs s))] h=aa (.ret (.agg (aJ 2 0 s .nil 0 [])),h.push (aJ 2 0 s .nil 0 [])):=by have z:=xD;refine cL rfl Tryz.func121 rfl ?_;exact mf @aqf @M7 @LH @PM
def aps(k:Tok)(sz:Nat)(ae:List (List AV))(h:ao):W1.call 119 [.list k sz ae] h=aa (.ret (.agg (aJ 3 0 [] k sz ae)),h.push (aJ 3 0 [] k sz ae)):=by have z:=xD;refine cL rfl Tryz.func119 rfl ?_;exact mf @aqd @bdl @LH @PM
def L2:List bm:=[28,29,30,46,65,66,69,78,82,94,118,119,120,121,123,132,138,140,146,194,201]
noncomputable def QA:bm->Option (List AV->ao->Option (AV × ao)):=qb W1 L2
noncomputable abbrev W2:=whole aq Gt QA
def zM:pX QA L2:=xY
section
variable (a b n x:Int)
def Ta:∀h,W2.call 28 [im a,im b] h=aa (.ret (im (cQ a b)),h):=br (L:=L2) rfl rfl rfl (adh a b _) rfl rfl
def P5:∀h,W2.call 29 [im a,im b] h=aa (.ret (im (bX a b)),h):=br (L:=L2) rfl rfl rfl (alB a b _) rfl rfl
def akj:∀h,W2.call 201 [im n] h=aa (.ret (.tuple [im (if fmod n=0 then 0 else eE n),im (if fmod n=0 then 90 else 0)]),h):=br (L:=L2) rfl rfl rfl (aki n _) rfl rfl
def at2:∀h,W2.call 46 [im x] h=aa (.ret (.v (.bool (bN x))),h):=br (L:=L2) rfl rfl rfl (atY x _) rfl rfl
def aie:∀h,W2.call 69 [im a,im b] h=aa (.ret (.tuple [im (jx a b),im (me a b)]),h):=br (L:=L2) rfl rfl rfl (aid a b _) rfl rfl
def aik:∀h,W2.call 30 [im a,im n] h=aa (.ret (.tuple [im (ft a n),im (mJ a)]),h):=br (L:=L2) rfl rfl rfl (aij a n _) rfl rfl
def anO:∀h,W2.call 65 [im a,im b] h=aa (.ret (im (cQ a b)),h):=br (L:=L2) rfl rfl rfl (anN a b _) rfl rfl
def apu:∀h,W2.call 66 [im a,im b] h=aa (.ret (im (bX a b)),h):=br (L:=L2) rfl rfl rfl (apt a b _) rfl rfl
def aoM:∀h,W2.call 194 [im n] h=aa (.ret (.tuple [im (if fmod n=0 then 0 else eE n),im (if fmod n=0 then 90 else 0)]),h):=br (L:=L2) rfl rfl rfl (aoL n _) rfl rfl
def aro:∀h,W2.call 94 [im x] h=aa (.ret (.v (.bool (bN x))),h):=br (L:=L2) rfl rfl rfl (arn x _) rfl rfl
def aom:∀h,W2.call 140 [im a,im b] h=aa (.ret (.tuple [im (jx a b),im (me a b)]),h):=br (L:=L2) rfl rfl rfl (aol a b _) rfl rfl
def aot:∀h,W2.call 132 [im a,im n] h=aa (.ret (.tuple [im (ft a n),im (mJ a)]),h):=br (L:=L2) rfl rfl rfl (aos a n _) rfl rfl
def aoG:∀h,W2.call 120 [im n] h=aa (.ret (.agg (aJ 1 n [] .nil 0 [])),h):=br (L:=L2) rfl rfl rfl (aoK n _) rfl rfl
end
def aqV(s):∀h,W2.call 121 [sv s] h=aa (.ret (.agg (aJ 2 0 s .nil 0 [])),h):=br (L:=L2) rfl rfl rfl (aqZ s _) rfl rfl
def vB:cO ⟨[],[],0,[]⟩=ai:=rfl
def ah9(bu b)(k)(hb:b.length<=1099511620000)(ht:bu.length<=1099511620000):∀h,W2.call 78 [.v (.string (bs bu)),.list k 1 (bf b)] h=aa (.ret (im (mK (gi bu b):Nat)),h):=
 br (L:=L2) (cA:=[.v (.string (bs bu)),.list (cd k) 1 (bf b)]) rfl (by rw[cr,cr,aD.eq_1,pJ];rfl) (by simp[aW,aL,fy,jS]) (ah8 bu b _ hb ht _) rfl rfl
def aoy(bu b)(k)(hb:b.length<=1099511610000)(ht:bu.length<=1099511610000):∀h,W2.call 123 [.v (.string (bs bu)),.list k 1 (bf b)] h=aa (.ret (im (mK (gi bu b):Nat)),h):=by obtain⟨h',hc,-⟩:=aoC bu b (cd k) ⟨[],[],0,[]⟩ vB hb ht;exact br (L:=L2) (cA:=[.v (.string (bs bu)),.list (cd k) 1 (bf b)]) rfl (by rw[cr,cr,aD.eq_1,pJ];rfl) (by simp[aW,aL,fy,jS]) hc rfl rfl
def ahb{v}{r}(hv:cY v r)(hd:gq v<=16)(hl:(dI v).length<=1099511600000):∃t,∀h,W2.call 146 [.agg r] h=aa (.ret (.tuple [.list t 1 (bf (dI v)),.v (.int .i64 0)]),h):=by obtain⟨h1,h2⟩:=cY.hold v r hv;obtain⟨r',h',hc,t,rfl,-⟩:=ahd h1 hd ah ⟨[],[],0,[]⟩ vB;exact⟨cd t,br (L:=L2) (cA:=[.agg (cr r)]) rfl rfl (by simpa [aW,aL] using h2) hc rfl (by simp[aL,aW,fy,jS])⟩
def an5{v}{r}(hv:cY v r)(hd:gq v<=16)(hl:(dI v).length<=1099511600000):∃t,∀h,W2.call 118 [.agg r] h=aa (.ret (.tuple [.list t 1 (bf (dI v)),.v (.int .i64 0)]),h):=by obtain⟨h1,h2⟩:=cY.hold v r hv;obtain⟨r',h',hc,t,rfl,-⟩:=anL h1 hd ah ⟨[],[],0,[]⟩ vB;exact⟨cd t,br (L:=L2) (cA:=[.agg (cr r)]) rfl rfl (by simpa [aW,aL] using h2) hc rfl (by simp[aL,aW,fy,jS])⟩
def nK(l:List Vl)(ae:List (List AV)):Prop:=ae.length=l.length/\∀(i:Nat) v r,l[i]?=aa v->ae[i]?=aa r->cY v r
def aqA:Tryz.f202.results.toList=[.tmp 4]:=aw
def Q7:Tryz.f219.results.toList=[]:=aw
def pC:gU aq 23=aa az:=aw
def adq:gU aq 203=aa az:=aw
def vw{H}{b}{x}(hb:H.boxes[b]?=aa [x]):aI aq Gt H 23 (.ptr (.box b) 0)=aa x:=by rw[mw pC hb];rfl
def wZ{H}{b}{x}(hb:H.boxes[b]?=aa [x]):aI aq Gt H 203 (.ptr (.box b) 0)=aa x:=by rw[mw adq hb];rfl
def yR{H}{b k}{cs}{x}(hb:H.boxes[b]?=aa cs)(hk:cs[k]?=aa x):aI aq Gt H 3 (.ptr (.box b) k)=aa x:=by rw[mw fa hb,IX,hk]
def ri{H}{b k}{cs}{x}(hb:H.boxes[b]?=aa cs)(hk:cs[k]?=aa x):aI aq Gt H 23 (.ptr (.box b) k)=aa x:=by rw[mw pC hb,IX,hk]
def qy{b len aC n}{k}(hn:n<len):dG aq 23 (.arr b 0 len aC) (.v (.int k (n:Nat)))=aa (.ptr (.box b) n):=by rw[Ep dN fH ah ah,dK,oo,po]
def Es{b len aC n}{k}(hn:n<len):dG aq 203 (.arr b 0 len aC) (.v (.int k (n:Nat)))=aa (.ptr (.box b) n):=by rw[Ep Tryz.underlying203 iW ah ah,dK,oo,po]
def Tc(xb w c:Nat)(h:ao):W2.call 202 [.arr xb 0 w w,im (c:Nat)] h=aa (.ret (.func (.func 219) [] [.ptr (.box (h.boxes.length+1)) 0,.ptr (.box h.boxes.length) 0]),(h.push [.arr xb 0 w w]).push [im (c:Nat)]):=by have b1:(AV.arr xb 0 w w).cD=aa [.arr xb 0 w w]:=rfl;have b2:(AV.v (.int .i64 (c:Nat))).cD=aa [.v (.int .i64 (c:Nat))]:=rfl;unfold im;refine cL rfl Tryz.func202 rfl ?_;exact td @aqA @bB @cX
def Td(l cb rb xb w c:Nat)(row:List Int)(Inv:Nat->ao->Prop)
 (h1:∀k H,Inv k H->H.boxes[cb]?=aa [im (c:Nat)]/\H.boxes[rb]?=aa [.arr xb 0 w w]/\(k<w->∃cs,H.boxes[xb]?=aa cs/\cs[k]?=aa (im (ak row k))))
 (hR:∀k H,c<=k->k<w->Inv k H->∃H',W2.round l [im (k:Nat),im (ak row k)] H=aa (.ret (.v (.bool ai)),H')/\Inv (k+1) H')
 (hc:c<=w) (kL:w<=1000000) (H0:ao) (h0:Inv c H0):∃H',W2.call 219 [.yield l,.ptr (.box cb) 0,.ptr (.box rb) 0] H0=aa (.ret (.tuple []),H')/\Inv w H':=by
 have k1:=al.mk h1;have kR:=al.mk hR;have k0:=al.mk h0;obtain⟨b1,b2,-⟩:=h1 c H0 h0;have l1:=jN b1;unfold im at l1;have u23:=dN;clear h1 hR h0 b1 b2;refine iu rfl Tryz.func219 rfl ?_;refine bI @Q7 ?_;refine cE (λm e H=>∃k:Nat,c<=k/\k<=w/\m=w - k/\e.get 0=.yield l/\e.get 1=.ptr (.box cb) 0/\e.get 2=.ptr (.box rb) 0/\e.get 4=.v (.int .i64 k)/\e.defers=[]/\Inv k H) ?_ (w - c) _ _ ?_;rotate_left 1
 ·refine⟨c,aM _,hc,rfl,?_,?_,?_,?_,?_,k0.out⟩<;>(first|assumption|(exact gR))
 clear l1 k0;rintro m e H ⟨k,Ak,D3,rfl,g0,g1,g2,g4,hd,hI⟩;obtain⟨b1,b2,b3⟩:=k1.out k H hI;have l2:=vw b2;have kI:=al.mk hI;clear b1 hI;by_cases aB:k<w
 ·obtain⟨cs,b4,b5⟩:=b3 aB;obtain⟨H',r1,r2⟩:=kR.out k H Ak aB kI.out;have ix:=qy (b:=xb) (len:=w) (aC:=w) (k:=.i64) aB;have l3:=yR b4 b5;have kI2:=al.mk r2;have fA:((k:Nat):Int)<((w:Nat):Int):=by omega
  unfold im at *
  clear b2 b3 b4 b5 r2 kI;refine bV @Q7 @Bk ?_;exact⟨w - (k+1),by omega,k+1,by omega,by omega,rfl,by trivial,by trivial,by trivial,by simp,by trivial,kI2.out⟩
 ·have:k=w:=by omega
  subst this;clear b2 b3;refine bI @Q7 ?_;exact⟨_,rfl,kI.out⟩
end Go.Proofs.YtnfciiiohoafaaaGreatDoor
end
