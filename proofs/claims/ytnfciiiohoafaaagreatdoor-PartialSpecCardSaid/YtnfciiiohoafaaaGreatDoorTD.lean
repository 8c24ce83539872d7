/-
  The engine, part 47: lists that grow.
-/
import Derived.Test.YtnfciiiohoafaaaGreatDoorTC
import Derived.Test.YtnfciiiohoafaaaGreatDoorTB
open True renaming intro->aQ
open List renaming replicate->aY,replicate_succ->zW,flatten_cons->nX,length_nil->jI,getElem?_toArray->jc,getElem?_cons_zero->jv,getElem?_cons_succ->oD,getElem?_map->dW,take_append_drop->wP,flatten_append->p9,length_append->dk,getElem?_eq_getElem->aO,take_length->fA,mem_of_getElem?->de,mem_flatten->La,mem_cons_self->fR,not_mem_nil->tT,getElem?_eq_some_iff->aP,mem_of_mem_take->oa,length_replicate->lT,nil_append->lV,replicate_zero->aaK,append_nil->jH,length_map->bu,drop_zero->iC,take_of_length_le->gm,map_cons->eo,map_nil->tR,head?_drop->HH,getD_eq_getElem?_getD->dP,foldl_append->nY,getElem?_set->lR,length_set->mn,all_eq_true->dU,mem_cons->gO,length_take->eP,length_drop->gE,mem_map->jo,getElem?_take->nC,getElem?_drop->nZ,range->bO,mem_filter->tS,set_set->Ch,ext_getElem?->p8,mem_cons_of_mem->fi,filter_cons_of_neg->aas,filter_cons_of_pos->aat,ext_getElem->HE,getElem_map->qa,getElem_range->zS,mem_range->fY,getElem?_append_right->yu,mem_singleton->mo,mem_or_eq_of_mem_set->u0,getElem_mem->iD,eq_of_mem_replicate->HD,getElem?_replicate->K4,nodup_cons->EH,foldl_cons->wN,contains_iff_mem->aam,mem_iff_getElem->zV,getElem?_mapIdx->aav,map_map->zU,cons_append->kj,append_assoc->rR,take_succ_cons->hJ,take_zero->fB,length_cons->iW,getElem?_range->ED
open Go.Proofs.Tryz renaming prog->al,underlying28->iO,underlying3->Ah,func206->abk,underlying23->dJ,underlying9->Cr,func132->abd,func140->Ry,underlying94->oH,func207->RD,func186->RA,func187->RC,func188->abh,func164->Rz
open Option renaming some->aa,none->aq,bind_some->ph,map_some->eJ,some.injEq->dA,map_map->Lu
open Nat renaming beq->jq,ble->Lk,eq_of_beq_eq_true->jw,le_of_ble_eq_true->lW,mul_le_mul->pg,mul_one->nG,zero_add->oF,le_trans->fe,zero_le->cr,reduceEqDiff->aX,eq_zero_or_pos->EN,le_refl->aJ,sub_self->s9,and_two_pow_sub_one_eq_mod->aaT,pow_succ->Ad,mul_pos->Lp,pow_pos->Lr,mod_lt->mr,add_mul->gg,mod_eq_of_lt->nb,pow_le_pow_right->aa6,shiftLeft_eq->Ae,shiftLeft_add_eq_or_of_lt->Ls,lt_of_lt_of_le->mq,lt_succ_of_lt->u6,lt_or_ge->dI,shiftLeft_add->Ri,shiftLeft_or_distrib->Rj
open Bool renaming false->av,true->ah,and_eq_true->bC,and_true->BT,not_eq_true'->yk
open Int renaming sub_zero->Cc,natCast_zero->rQ,dvd_add->wI,zero_mul->HC,emod_eq_emod_iff_emod_sub_eq_zero->aaa,emod_emod_of_dvd->Ca,dvd_refl->B9,emod_eq_of_lt->KS,zero_add->Ex,toNat_natCast->dL,mul_comm->yo,mul_sub->yp,dvd_mul_of_dvd_right->Et,fdiv_eq_ediv_of_nonneg->Eu
open And renaming intro->ar
open Prod renaming mk.injEq->cX,fst->EV
set_option maxHeartbeats 64000000
set_option maxRecDepth 100000
set_option linter.unusedSimpArgs false
set_option linter.unusedVariables false
set_option linter.constructorNameAsVariable false
set_option linter.defProp false
section
namespace Go.Proofs.YtnfciiiohoafaaaGreatDoor
open Go.AE Go.NT
def Pu(z:AV):∀n:Nat,(aY n [z]).flatten=aY n z
 |0=>rfl|n+1=>by rw[zW,nX,Pu z n,zW];rfl
def Yf:Tryz.f206.results.toList=[.tmp 4]:=au
def zE:Tryz.f182.results.toList=[.tmp 2]:=au
def SF:CC al 28 (.list .nil 0 [])=aa (.v (.int .i64 0)):=au
def YK:gC al 28 (.list .nil 0 []) aq (aa (.v (.int .i64 0))) aq=aa (.list .nil 0 []):=au
def Bn:∃i,al.info? 5=aa i/\i.size=1/\i.bytes<=8/\(i.zero.map λz=>z.cells.size)=aa 1:=by
 have h:(match al.info? 5 with|some i=>jq i.size 1&&Lk i.bytes 8&&decide ((i.zero.map λz=>z.cells.size)=aa 1)|none=>av)=ah:=au;split at h
 ·rename_i i hi;simp only[bC,decide_eq_true_eq] at h;exact⟨i,hi,jw h.1.1,lW h.1.2,h.2⟩
 ·cases h
def zr5:(iN al 5).bind AV.b8=aa [bT 0]:=au
def acm{H}{n}(h0:0<n)(hn:n<=1099511627776):gq al H #[28,3] (.list .nil 0 []) (.v (.int .i64 (n:Nat)))=aa (.arr H.boxes.length 0 n n,H.push (aY n [bT 0]).flatten):=by obtain⟨i,h1,h2,h3,h4⟩:=Bn;have:=pg hn h3;exact R2 iO Ah h1 zr5 h0 ag ag ag h2.symm
def agE(n:Nat)(h0:0<n)(hn:n<=1099511627776)(H:ak):W.call 206 [.list .nil 0 [],.v (.int .i64 (n:Nat))] H=aa (.ret (.arr H.boxes.length 0 0 n),H.push (aY n [bT 0]).flatten):=by
 have u28:=iO;have a:=acm (H:=H) h0 hn;have e1:IntKind.i64.wrap ((0:Int) - 0)=0:=by rfl
 have e2:IntKind.i64.wrap (((n:Nat):Int) - 0)=((n:Nat):Int):=by rw[Cc,gf ag ag]
 have s2:gC al 28 (.arr H.boxes.length 0 n n) aq (aa (.v (.int .i64 (0:Nat)))) aq=aa (.arr H.boxes.length 0 0 n):=YI u28 rN aK aK ag h0;have s2:gC al 28 (.arr H.boxes.length 0 n n) aq (aa (.v (.int .i64 0))) aq=aa (.arr H.boxes.length 0 0 n):=s2;have aA:(0:Int)<(n:Nat):=by omega
 refine cC rfl abk rfl ?_;exact ID @Yf @Fb @SF (ar @YK (ar @jI.{0} (ar @rQ @Cc)))
def agF(H:ak):W.call 206 [.list .nil 0 [],.v (.int .i64 (0:Nat))] H=aa (.ret (.list .nil 0 []),H):=by
 have u28:=iO;refine cC rfl abk rfl ?_;have e1:IntKind.i64.wrap ((0:Int) - 0)=0:=by rfl
 have e2:IntKind.i64.wrap (((0:Nat):Int) - 0)=0:=by rfl
 exact ID @Yf @Fb @SF (ar @YK (ar @jI.{0} (ar @rQ @Cc)))
def abR:gx al 28=aa av:=au
def arq:dm al 28=aa 1:=au
def abu{H}{b len aB}{cs}{new}{x}(s:dE 1 H x new)(hb:H.boxes[b]?=aa cs)(h2:len+new.length<=aB)(h3:aB<=cs.length):
 gq al H #[28,28] (.arr b 0 len aB) x=aa (.arr b 0 (len+new.length) aB,H.put b (eE cs len new.flatten)):=by
 obtain⟨i,h1,q2,-,h4⟩:=Bn;have:=RZ (off:=0) iO iO h1 ag (by rw[q2];exact h4) (by rw[q2];exact s.news) hb h2 (by rw[q2];omega)
 rwa [q2,nG,oF] at this
def abY{H}{x}(s:dE 1 H x []):gq al H #[28,28] (.list .nil 0 []) x=aa (.list .nil 0 [],H):=by
 obtain⟨i,h1,q2,-,h4⟩:=Bn;have hx:me H i.size x=aa []:=by rw[q2];exact s.news
 unfold gq;simp only[jc,jv,oD,ph,iO,h1,hx];rw[aF ⟨ag,by rw[q2];exact h4⟩];simp
def aeF(k:Tok)(xs:List AV)(cW:List (List (List AV)))(hl:xs.length=cW.length)(H:ak)(hs:∀(i:Nat) x rs,xs[i]?=aa x->cW[i]?=aa rs->dE 1 H x rs)(hb:cW.flatten.length<=1099511627776)(dx:xs.length<=1000):
 ∃r H',W.call 182 [.list k 1 (xs.map λx=>[x])] H=aa (r,H')/\∃y,r=.ret y/\Ext H H'/\dE 1 H' y cW.flatten:=by
 have u28:=iO;have u233:=Tryz.underlying233;have aE:=abR;have sE:=arq;have hr:∀(i:Nat) x,xs[i]?=aa x->(xs.map λx=>[x])[i]?=aa [x]:=λi x hx=>by rw[dW,hx];rfl
 have eg:∀i,(cW.take i).flatten.length<=1099511627776:=λi=>by
  refine fe ?_ hb
  conv=>rhs;rw[<-wP i cW,p9,dk]
  omega
 have iH:∀(i:Nat) rs,cW[i]?=aa rs->(cW.take (i+1)).flatten=(cW.take i).flatten++rs:=λi rs hi=>by rw[fH hi,p9];simp
 have kS:=aj.mk hs;have kl:=aj.mk hl;have kr:=aj.mk hr;have kst:=aj.mk iH;have kle:=aj.mk eg;have mE:(xs.map λx=>[x]).length=xs.length:=by simp
 clear hs hr iH eg hl;generalize hM:(xs.map λx=>[x])=M at *
 refine df rfl Tryz.func182 rfl ?_;refine br @zE ?_;refine cq (λm e h'=>∃i:Nat,i<=xs.length/\m=xs.length - i/\e.get 0=.list k 1 M/\e.get 9=.list k 1 M/\e.get 10=.v (.int .i64 (xs.length:Nat))/\e.get 11=.v (.int .i64 i)/\e.get 3=.v (.int .i64 ((cW.take i).flatten.length:Nat))/\e.get 2=.list .nil 0 []/\e.defers=[]/\h'=H) ?_ xs.length _ _ ?_;rotate_left 1
 ·refine⟨0,cr _,rfl,?_,?_,?_,?_,?_,?_,?_,rfl⟩<;>(first|assumption|(simp only[gW,reduceIte,aX,aR,mE]<;>rfl))
 rintro m e h' ⟨i,hi,rfl,g0,g9,g10,g11,g3,g2,hd,rfl⟩;by_cases aA:i<xs.length
 ·obtain⟨x,hx⟩:∃x,xs[i]?=aa x:=⟨_,aO aA⟩;obtain⟨rs,jf⟩:∃rs,cW[i]?=aa rs:=⟨_,aO (by have:=kl.out;omega)⟩;have s1:=kS.out i x rs hx jf;have ls:=s1.len u28;have uw:=kr.out i x hx;have A5:(i:Int)<(M.length:Int):=by omega
  have q:=kst.out i rs jf;have q1:=kle.out (i+1);rw[q,dk] at q1;have ksum:=aj.mk (show(cW.take (i+1)).flatten.length=(cW.take i).flatten.length+rs.length by rw[q,dk]);generalize (cW.take i).flatten.length=n1 at *
  have e1:IntKind.i64.wrap (((n1:Nat):Int)+((rs.length:Nat):Int))=((n1+rs.length:Nat):Int):=by rw[gf ag ag];omega
  have nn:¬(((n1+rs.length:Nat):Int)<0):=by omega
  have ld:aI al Gt h' 28 (.elem 1 M i 0)=aa x:=by rw[qw aE uw];rfl
  clear q q1 s1;refine bM @zE @a8 ?_;exact⟨xs.length - (i+1),by omega,i+1,by omega,rfl,by trivial,by trivial,by trivial,by simp,by rw[ksum.out],by trivial,by trivial,by trivial⟩
 have:i=xs.length:=by omega
 subst this;rw[show cW.take xs.length=cW by rw[kl.out];exact fA] at g3;have hn:=kle.out xs.length;rw[show cW.take xs.length=cW by rw[kl.out];exact fA] at hn;generalize hN:cW.flatten.length=n at *
 rcases EN n with h0|h0
 ·subst h0;have gn:=agF h';have ov:cW.flatten=[]:=List.eq_nil_of_length_eq_zero hN;refine br @zE ?_;refine cq (λm e H1=>∃i:Nat,i<=xs.length/\m=xs.length - i/\e.get 25=.list k 1 M/\e.get 26=.v (.int .i64 (xs.length:Nat))/\e.get 27=.v (.int .i64 i)/\e.get 6=.list .nil 0 []/\e.defers=[]/\H1=h') ?_ xs.length _ _ ?_;rotate_left 1
  ·refine⟨0,cr _,rfl,?_,?_,?_,?_,?_,rfl⟩<;>(first|assumption|(simp only[gW,reduceIte,aX,aR,mE]<;>rfl))
  clear g0 g9 g10 g11 g3 g2 hd gn;rintro m e H1 ⟨i,hi,rfl,g25,g26,g27,g6,hd,rfl⟩;by_cases aA:i<xs.length
  ·obtain⟨x,hx⟩:∃x,xs[i]?=aa x:=⟨_,aO aA⟩;obtain⟨rs,jf⟩:∃rs,cW[i]?=aa rs:=⟨_,aO (by have:=kl.out;omega)⟩;have s1:=kS.out i x rs hx jf;have N0:rs=[]:=by
    have:=de jf;cases rs with|nil=>rfl|cons a l=>exact absurd (La.2 ⟨_,this,fR⟩) (by rw[ov];exact tT)
   subst N0;have an:=abY s1;have uw:=kr.out i x hx;have A5:(i:Int)<(M.length:Int):=(by omega);have ld:aI al Gt H1 28 (.elem 1 M i 0)=aa x:=(by rw[qw aE uw];rfl);clear s1;refine bM @zE @a8 ?_;exact⟨xs.length - (i+1),by omega,i+1,by omega,rfl,by trivial,by trivial,by simp,by trivial,by trivial,by trivial⟩
  ·have:i=xs.length:=(by omega);subst this;refine br @zE ?_;exact⟨_,_,rfl,_,rfl,Ext.refl _,by(try rw[ov]);exact dE.list (λr hr=>by cases hr) (λq=>absurd rfl q)⟩
 ·have gn:=agE n h0 hn h';refine br @zE ?_;rw[Pu];have xA:∀(i:Nat) rs,cW[i]?=aa rs->∀r∈rs,r.length=1:=λi rs hi=>by obtain⟨x,hx⟩:∃x,xs[i]?=aa x:=⟨_,aO (by rw[kl.out];exact(aP.1 hi).1)⟩;exact(kS.out i x rs hx hi).1
  have iS:∀i,∀r∈(cW.take i).flatten,r.length=1:=λi r hr=>by obtain⟨rs,h1,h2⟩:=La.1 hr;obtain⟨j,hj⟩:=List.mem_iff_getElem?.1 (oa h1);exact xA j rs hj r h2
  have nM:∀i,(cW.take i).flatten.flatten.length=(cW.take i).flatten.length:=λi=>by rw[mM (iS i),nG]
  have FM:∀i,(cW.take i).flatten.length<=n:=λi=>by
   rw[<-hN]
   conv=>rhs;rw[<-wP i cW,p9,dk]
   omega
  have kfl:=aj.mk nM;have kmo:=aj.mk FM;have kr2:=aj.mk iS;clear xA nM FM iS gn;refine cq (λm e H1=>∃i:Nat,i<=xs.length/\m=xs.length - i/\e.get 25=.list k 1 M/\e.get 26=.v (.int .i64 (xs.length:Nat))/\e.get 27=.v (.int .i64 i)/\e.get 6=.arr h'.boxes.length 0 (cW.take i).flatten.length n/\e.defers=[]/\H1.boxes[h'.boxes.length]?=aa ((cW.take i).flatten.flatten++aY (n - (cW.take i).flatten.length) (bT 0))/\Ext h' H1) ?_ xs.length _ _ ?_;rotate_left 1
  ·refine⟨0,cr _,rfl,?_,?_,?_,?_,?_,?_,Ext.push _ _⟩<;>(first|assumption|exact a9 _ _|(simp only[gW,reduceIte,aX,aR,mE]<;>rfl))
  clear g0 g9 g10 g11 g3 g2 hd;rintro m e H1 ⟨i,hi,rfl,g25,g26,g27,g6,hd,hB,hX⟩;by_cases aA:i<xs.length
  ·obtain⟨x,hx⟩:∃x,xs[i]?=aa x:=⟨_,aO aA⟩;obtain⟨rs,jf⟩:∃rs,cW[i]?=aa rs:=⟨_,aO (by have:=kl.out;omega)⟩;have s1:=(kS.out i x rs hx jf).ext hX;have q:=kst.out i rs jf;have m1:=kmo.out (i+1);have f0:=kfl.out i;have zl:(cW.take (i+1)).flatten.length=(cW.take i).flatten.length+rs.length:=(by rw[q,dk]);rw[zl] at m1;have N1:rs.flatten.length=rs.length:=(by rw[mM s1.1,nG]);have ap:=abu s1 hB m1 (by rw[dk,lT,f0];omega);have kL:eE ((cW.take i).flatten.flatten++aY (n - (cW.take i).flatten.length) (bT 0)) (cW.take i).flatten.length rs.flatten=(cW.take (i+1)).flatten.flatten++aY (n - (cW.take (i+1)).flatten.length) (bT 0):=(by unfold eE;rw[List.take_left' f0,List.drop_append,List.drop_of_length_le (by rw[f0];omega),lV,f0,List.drop_replicate,q,p9,dk,N1];congr 2;omega);rw[kL] at ap;have uw:=kr.out i x hx;have A5:(i:Int)<(M.length:Int):=(by omega);have ld:aI al Gt H1 28 (.elem 1 M i 0)=aa x:=(by rw[qw aE uw];rfl);have kX:=aj.mk hX;have mR:=(aP.1 hB).1;have ks:=aj.mk zl;clear s1 hX hB kL q f0 zl;refine bM @zE @a8 ?_;refine⟨xs.length - (i+1),by omega,i+1,by omega,rfl,by trivial,by trivial,by simp,by rw[ks.out],by trivial,?_,kX.out.fO (aJ _) _⟩;exact ev mR
  ·have:i=xs.length:=(by omega);subst this;have ht:cW.take xs.length=cW:=(by rw[kl.out];exact fA);have f0:=kfl.out xs.length;have iS:=kr2.out xs.length;rw[ht] at hB g6 f0 iS;rw[hN] at hB g6;rw[s9,aaK,jH] at hB;have kB:=aj.mk hB;have kX:=aj.mk hX;clear hB hX;refine br @zE ?_;exact⟨_,_,rfl,_,rfl,kX.out,dE.box iS hN.symm kB.out⟩
def X9:Tryz.f158.results.toList=[.tmp 4]:=au
def zB:Tryz.f109.results.toList=[.tmp 2]:=au
def SE:CC al 23 (.list .nil 0 [])=aa (.v (.int .i64 0)):=au
def YJ:gC al 23 (.list .nil 0 []) aq (aa (.v (.int .i64 0))) aq=aa (.list .nil 0 []):=au
def Dt:∃i,al.info? 3=aa i/\i.size=1/\i.bytes<=8/\(i.zero.map λz=>z.cells.size)=aa 1:=by
 have h:(match al.info? 3 with|some i=>jq i.size 1&&Lk i.bytes 8&&decide ((i.zero.map λz=>z.cells.size)=aa 1)|none=>av)=ah:=au;split at h
 ·rename_i i hi;simp only[bC,decide_eq_true_eq] at h;exact⟨i,hi,jw h.1.1,lW h.1.2,h.2⟩
 ·cases h
def zr3:(iN al 3).bind AV.b8=aa [im 0]:=au
def ack{H}{n}(h0:0<n)(hn:n<=1099511627776):gq al H #[23,3] (.list .nil 0 []) (.v (.int .i64 (n:Nat)))=aa (.arr H.boxes.length 0 n n,H.push (aY n [im 0]).flatten):=by obtain⟨i,h1,h2,h3,h4⟩:=Dt;have:=pg hn h3;exact R2 dJ Ah h1 zr3 h0 ag ag ag h2.symm
def abQ:gx al 23=aa av:=au
def iM:dm al 23=aa 1:=au
def abt{H}{b len aB}{cs}{new}{x}(s:dE 1 H x new)(hb:H.boxes[b]?=aa cs)(h2:len+new.length<=aB)(h3:aB<=cs.length):
 gq al H #[23,23] (.arr b 0 len aB) x=aa (.arr b 0 (len+new.length) aB,H.put b (eE cs len new.flatten)):=by
 obtain⟨i,h1,q2,-,h4⟩:=Dt;have:=RZ (off:=0) dJ dJ h1 ag (by rw[q2];exact h4) (by rw[q2];exact s.news) hb h2 (by rw[q2];omega)
 rwa [q2,nG,oF] at this
def abX{H}{x}(s:dE 1 H x []):gq al H #[23,23] (.list .nil 0 []) x=aa (.list .nil 0 [],H):=by
 obtain⟨i,h1,q2,-,h4⟩:=Dt;have hx:me H i.size x=aa []:=by rw[q2];exact s.news
 unfold gq;simp only[jc,jv,oD,ph,dJ,h1,hx];rw[aF ⟨ag,by rw[q2];exact h4⟩];simp
def aop:Tryz.f145.results.toList=[.cell 4 177]:=au
def S7(l)(h):mK al h 9 28 (.v (.string (bs l)))=aa (.list (.free h.tn) 1 (aW l),h.app .nil):=by have h1:al.underlying 9=aa .string:=Cr;have h2:al.underlying 28=aa (.slice 5):=iO;have h3:al.underlying 5=aa (.int .u8):=Tryz.underlying5;obtain⟨i,q1,q2,-⟩:=Bn;unfold mK;simp only[h1,h2,h3,q1,q2,if_true];simp[bs,ak.fresh,ak.app]
def acZ(x y)(hx:x.dN=ah)(hy:y.dN=ah):fC al 233 2 [(0,x),(1,y)]=aa (.list .tight 1 [[x],[y]]):=by cases x<;>first|(cases hx;done)|(cases y<;>first|(cases hy;done)|kernel_rfl)
def dE.cell{sz}{h}{x}{ae}(s:dE sz h x ae):x.dN=ah:=by rcases s.2 with⟨k,s',rfl,-⟩|⟨b,off,aB,cs,rfl,-⟩<;>rfl
def sR(b):(eI b).length=32:=by unfold eI;rw[Bw,ua _ _ _ rfl]
def YG(M):gC al 177 (.ptr (.box M) 0) aq aq aq=aa (.arr M 0 32 32):=au
def art(aZ b:List UInt8)(x:AV)(h:ak)(s:dE 1 h x (aW b))(hb:b.length<=1099511620000)(ht:aZ.length<=1099511620000):
 ∃h',W.call 145 [.v (.string (bs aZ)),x] h=aa (.ret (.agg (bP (fQ aZ b))),h')/\Ext h h':=by
 have z177:=Ei;have x0:Ext h ((h.push (aY 32 (bT 0))).app .nil):=(Ext.push _ _).trans (Ext.app (Ext.refl _) (.inl rfl));have e0:((h.push (aY 32 (bT 0))).app .nil).boxes=(h.push (aY 32 (bT 0))).boxes:=eu _ _;obtain⟨H2,c2,x2⟩:=Yz aZ (.list (.free (h.push (aY 32 (bT 0))).tn) 1 (aW aZ)) ((h.push (aY 32 (bT 0))).app .nil) (dE.list (yD _) λ_=>rfl) ag;have d0:H2.boxes[h.boxes.length]?=aa (aY 32 (bT 0)):=x2.box _ _ (by rw[e0];exact a9 _ _);have tl:(bP (eI aZ)).length=32:=by rw[lu,sR]
 have st1:ct al (H2.push (aY 32 (bT 0))) 177 (.ptr (.box H2.boxes.length) 0) (.agg (bP (eI aZ)))=aa (H2.push (bP (eI aZ))):=lq (ye _) pX tl rfl;have sx:dE 1 (H2.push (bP (eI aZ))) x (aW b):=((s.ext x0).ext x2).ext (Ext.push _ _);have sy:dE 1 (H2.push (bP (eI aZ))) (.arr H2.boxes.length 0 32 32) (aW (eI aZ)):=dE.box (yD _) (by rw[bu,sR]) (by rw[Hm];exact a9 _ _);obtain⟨r3,H3,c3,y,rfl,x3,s3⟩:=aeF .tight [.arr H2.boxes.length 0 32 32,x] [aW (eI aZ),aW b] rfl (H2.push (bP (eI aZ))) (λi z rs hz jf=>by
  rcases i with _|_|i
  ·injection hz with hz;injection jf with jf;subst hz;subst jf;exact sy
  ·injection hz with hz;injection jf with jf;subst hz;subst jf;exact sx
  ·cases hz) (by simp[sR];omega) bh
 have ef:[aW (eI aZ),aW b].flatten=aW (eI aZ++b):=by simp[aW]
 rw[ef] at s3;have bl:=acZ _ x (dE.cell sy) (dE.cell sx);obtain⟨H4,c4,x4⟩:=Yz (eI aZ++b) y H3 s3 (by rw[dk,sR];omega);have hX:Ext H2 H4:=(Ext.push _ _).trans (x3.trans x4);have d4:H4.boxes[h.boxes.length]?=aa (aY 32 (bT 0)):=hX.box _ _ d0;have tl2:(bP (fQ aZ b)).length=32:=by rw[lu];exact sR _
 have st2:ct al H4 177 (.ptr (.box h.boxes.length) 0) (.agg (bP (fQ aZ b)))=aa (H4.put h.boxes.length (bP (fQ aZ b))):=by rw[gL (ye _) pX d4 tl2 bh,wx (by rw[tl2];simp)]
 have ld2:aI al Gt (H4.put h.boxes.length (bP (fQ aZ b))) 177 (.ptr (.box h.boxes.length) 0)=aa (.agg (bP (fQ aZ b))):=by rw[ja Cs pX (ev (aP.1 d4).1) (by rw[tl2];exact aJ _),iC,gm (by rw[tl2];exact aJ _)]
 replace c4:W.call 181 [y] H3=aa (.ret (.agg (bP (fQ aZ b))),H4):=c4;have kX:=aj.mk (((x0.trans x2).trans hX).fO (aJ _) (bP (fQ aZ b)));simp only[eo,tR] at c3;clear s sx sy s3 x0 e0 x2 x3 x4 hX d0 d4 ef tl tl2;refine gP rfl Tryz.func145 rfl ?_;refine cY @aop @S7 @YG ?_;exact⟨_,rfl,kX.out⟩
def PX:Tryz.f78.results.toList=[.tmp 4]:=au
def Gc{b n}{k}(hn:n<32):dy al 177 (.ptr (.box b) 0) (.v (.int k (n:Nat)))=aa (.ptr (.box b) n):=by have h1:al.underlying 177=aa (.array 32 5):=Tryz.underlying177;unfold dy;simp only[h1,rN];rw[aF ⟨ag,by omega⟩];simp
def Jn{H}{b i}{l}(hb:H.boxes[b]?=aa (bP l))(hi:i<l.length):aI al Gt H 5 (.ptr (.box b) i)=aa (bT (di l i)):=by rw[lP HT hb,HH,dW,aO hi];unfold di;rw[dP,aO hi];rfl
def Mi(n)(h):mK al h 5 3 (.v (.int .u8 n))=aa (.v (.int .i64 (IntKind.i64.wrap n)),h):=au
def RI(b):∀i,i<=b.length->jd b i=(b.take i).foldl (λn c=>n * 256+c.toNat) 0
 |0,_=>rfl
 |i+1,hi=>by
  rw[jd,RI b i ag];have:b[i]?=aa (di b i):=by unfold di;rw[dP,aO ag];rfl
  rw[fH this,nY];rfl
def mask(b:List UInt8):List UInt8:=b.set 0 (di b 0&&&127)
def Ju{b}{i}(hb:0<b.length):di (mask b) i=if i=0 then di b 0&&&127 else di b i:=by
 unfold mask di;rw[dP,lR];split
 ·rename_i h;subst h;simp[hb]
 ·rename_i h;rw[aG (λq=>h q.symm),dP]
def LF(c:UInt8):(c&&&127).toNat=c.toNat%128:=by rw[UInt8.toNat_and];exact aaT c.toNat 7
def OH{b}(hb:0<b.length):∀i,jd (mask b) (i+1)=jd b (i+1)%(128 * 256^i)
 |0=>by show 0 * 256+(di (mask b) 0).toNat=(0 * 256+(di b 0).toNat)%128;rw[Ju hb,aF rfl,LF];omega
 |i+1=>by
  rw[jd,OH hb i,Ju hb,aG ag,jd.eq_2 b (i+1)];have:=tM (di b (i+1));generalize jd b (i+1)=A at *
  generalize (di b (i+1)).toNat=r at *
  rw[Ad,<-Nat.mul_assoc];have hM:0<128 * 256^i:=Lp aK (Lr aK);generalize 128 * 256^i=M at *
  have h1:=mr A hM;have h2:=Nat.div_add_mod A M;have h3:A * 256+r=M * 256 * (A/M)+(A%M * 256+r):=by rw[Nat.mul_right_comm,<-Nat.add_assoc,<-gg,h2]
  rw[h3,Nat.mul_add_mod,nb (a:=A%M * 256+r) (b:=M * 256) (by have:(A%M+1) * 256<=M * 256:=Nat.mul_le_mul_right _ h1;rw[gg] at this;omega)]
def Wm{b}(hb:0<b.length){i}(hi:i<8):jd (mask b) i<36028797018963968:=by
 cases i with
 |zero=>show 0<_;decide|succ i=>
  rw[OH hb];have h1:=mr (jd b (i+1)) (show 0<128 * 256^i from Lp aK (Lr aK));have h2:256^i<=256^6:=aa6 aK ag;have h3:256^6=281474976710656:=by decide
  omega
def hash_eq{b}(hb:8<=b.length):jd (mask b) 8%Q=mb b:=by unfold mb;rw[OH ag 7,RI b 8 hb]
def apS{t}{x y}{n}(hn:n<36028797018963968):cN al .shl t x y (.v (.int .i64 (n:Nat))) (.v (.int .u64 8))=aa (.v (.int .i64 ((n * 256:Nat):Int))):=by rw[LR aK];congr 3;show IntKind.i64.wrap (((n:Nat):Int) * 256)=_;rw[gf ag ag];omega
def ori{t}{x y}{n m}(hn:n<36028797018963968)(hm:m<256):cN al .or t x y (.v (.int .i64 ((n * 256:Nat):Int))) (.v (.int .i64 (m:Nat)))=aa (.v (.int .i64 ((n * 256+m:Nat):Int))):=by
 rw[LQ];congr 3;have e1:BitVec.ofInt IntKind.i64.bits ((n * 256:Nat):Int)=BitVec.ofNat 64 (n * 256):=by apply BitVec.eq_of_toNat_eq;show(BitVec.ofInt 64 ((n * 256:Nat):Int)).toNat=(BitVec.ofNat 64 (n * 256)).toNat;rw[BitVec.toNat_ofInt,BitVec.toNat_ofNat];omega
 have e2:BitVec.ofInt IntKind.i64.bits ((m:Nat):Int)=BitVec.ofNat 64 m:=by apply BitVec.eq_of_toNat_eq;show(BitVec.ofInt 64 ((m:Nat):Int)).toNat=(BitVec.ofNat 64 m).toNat;rw[BitVec.toNat_ofInt,BitVec.toNat_ofNat];omega
 have e3:(BitVec.ofNat 64 (n * 256)|||BitVec.ofNat 64 m).toNat=n * 256+m:=by
  rw[BitVec.toNat_or,BitVec.toNat_ofNat,BitVec.toNat_ofNat,nb (ag:n * 256<2^64),nb (ag:m<2^64)];have h1:n<<<8=n * 256:=by rw[Ae]
  rw[<-h1,<-Ls (ag:m<2^8)]
 have e4:(BitVec.ofInt IntKind.i64.bits ((n * 256:Nat):Int)|||BitVec.ofInt IntKind.i64.bits ((m:Nat):Int)).toNat=n * 256+m:=by rw[e1,e2];exact e3
 rw[e4,gf ag ag]
def abZ{t}{x y}(c):cN al .and t x y (bT c) (.v (.int .u8 127))=aa (bT (c&&&127)):=by
 unfold bT;rw[rX];congr 3;have hc:=tM c;have e1:BitVec.ofInt IntKind.u8.bits ((c.toNat:Nat):Int)=BitVec.ofNat 8 c.toNat:=by apply BitVec.eq_of_toNat_eq;show(BitVec.ofInt 8 ((c.toNat:Nat):Int)).toNat=(BitVec.ofNat 8 c.toNat).toNat;rw[BitVec.toNat_ofInt,BitVec.toNat_ofNat];omega
 have e3:(BitVec.ofInt IntKind.u8.bits ((c.toNat:Nat):Int)&&&BitVec.ofInt IntKind.u8.bits 127).toNat=c.toNat%128:=by rw[e1];show(BitVec.ofNat 8 c.toNat&&&127#8).toNat=_;rw[BitVec.toNat_and,BitVec.toNat_ofNat,nb (ag:c.toNat<2^8)];exact aaT c.toNat 7
 rw[e3,Mt ag ag,LF]
def ajO(l):(bP l).set 0 (bT (di l 0&&&127))=bP (mask l):=by unfold mask bP;rw[List.map_set]
def ags(aZ b:List UInt8)(x:AV)(h:ak)(s:dE 1 h x (aW b))(hb:b.length<=1099511620000)(ht:aZ.length<=1099511620000):
 ∃h',W.call 78 [.v (.string (bs aZ)),x] h=aa (.ret (im (mb (fQ aZ b):Nat)),h')/\Ext h h':=by
 obtain⟨H1,c1,x1⟩:=art aZ b x h s hb ht;have hl:(fQ aZ b).length=32:=sR _;have dC:(bP (fQ aZ b)).length=32:=by rw[lu,hl]
 have he:=hash_eq (b:=fQ aZ b) ag;generalize fQ aZ b=d at *
 have bI:0<d.length:=by omega
 have z177:=Ei;have st1:ct al (H1.push (aY 32 (bT 0))) 177 (.ptr (.box H1.boxes.length) 0) (.agg (bP d))=aa (H1.push (bP d)):=lq (ye _) pX dC rfl;have ix0:dy al 177 (.ptr (.box H1.boxes.length) 0) (.v (.int .i64 0))=aa (.ptr (.box H1.boxes.length) 0):=Gc (n:=0) aK;have l0:aI al Gt (H1.push (bP d)) 5 (.ptr (.box H1.boxes.length) 0)=aa (bT (di d 0)):=Jn (a9 _ _) bI;have st2:ct al (H1.push (bP d)) 5 (.ptr (.box H1.boxes.length) 0) (bT (di d 0&&&127))=aa (H1.push (bP (mask d))):=by rw[Ku (a9 _ _) (by rw[dC];decide),ajO,oA]
 have mE:(mask d).length=32:=by unfold mask;rw[mn,hl]
 have hX:=aj.mk (x1.trans (Ext.push H1 (bP (mask d))));have hB:=a9 H1 (bP (mask d));have aA:=λi hi=>Wm bI (i:=i) hi;have kB:=aj.mk hB;have klt:=aj.mk aA;have ke:=aj.mk he;have kml:=aj.mk mE;clear s dC hl hB aA he mE x1 bI;unfold im;refine gP rfl Tryz.func78 rfl ?_;refine bM @PX @abZ ?_;refine cq (λm e H=>∃i:Nat,i<=8/\m=8 - i/\e.get 5=.ptr (.box H1.boxes.length) 0/\e.get 14=.v (.int .i64 i)/\e.get 4=.v (.int .i64 (jd (mask d) i:Nat))/\e.defers=[]/\H=H1.push (bP (mask d))) ?_ 8 _ _ ?_;rotate_left 1
 ·refine⟨0,by decide,rfl,?_,?_,?_,?_,rfl⟩<;>(first|assumption|(exact gR))
 clear z177 st1 ix0 l0 st2 c1;rintro m e H ⟨i,hi,rfl,g5,g14,g4,hd,rfl⟩;by_cases h8:i=8
 ·subst h8;have e1:(((jd (mask d) 8:Nat):Int)).tmod 1073741789=((mb d:Nat):Int):=by rw[<-ke.out];exact nU _ _
  generalize jd (mask d) 8=A at *
  refine br @PX ?_;exact⟨_,rfl,hX.out⟩
 ·have aA:i<8:=by omega
  have a1:=klt.out i aA;have u1:=tM (di (mask d) i);have ix:=Gc (b:=H1.boxes.length) (n:=i) (k:=.i64) ag;have ld:aI al Gt (H1.push (bP (mask d))) 5 (.ptr (.box H1.boxes.length) i)=aa (.v (.int .u8 ((di (mask d) i).toNat:Nat))):=Jn kB.out (by have:=kml.out;omega);have ew:IntKind.i64.wrap (((di (mask d) i).toNat:Nat):Int)=(((di (mask d) i).toNat:Nat):Int):=gf ag ag;have s1:=λt x y=>apS (t:=t) (x:=x) (y:=y) a1;have s2:=λt x y=>ori (t:=t) (x:=x) (y:=y) a1 u1;have kstep:=aj.mk (show jd (mask d) (i+1)=jd (mask d) i * 256+(di (mask d) i).toNat from rfl);generalize jd (mask d) i=A at *
  generalize (di (mask d) i).toNat=r at *
  refine bM @PX @Mi ?_;exact⟨8 - (i+1),by omega,i+1,by omega,rfl,by trivial,rfl,by rw[kstep.out],by trivial,by trivial⟩
end Go.Proofs.YtnfciiiohoafaaaGreatDoor
end
section
namespace Go.AE
structure Grown(n0:Nat)(h h':ak)(t:Tok):Prop where
 box:∀(b:Nat) (cs:List AV),h.boxes[b]?=aa cs->h'.boxes[b]?=aa cs
 loop:∀(l:Nat) (r:ij),h.loops[l]?=aa r->h'.loops[l]?=aa r
 can:dj n0 h' t
 ok:cA h'=ah
 tn:h.tn<=h'.tn
 dead:∀n,n<n0->n∈h'.dead->n∈h.dead
section
variable {n0:Nat} {h0 h h' h2:ak} {t k:Tok}
def Grown.refl(hk:dj n0 h k)(ho:cA h=ah):Grown n0 h h k:=⟨λ_ _ q=>q,λ_ _ q=>q,hk,ho,aJ _,λ_ _ q=>q⟩
def Grown.trans(g:Grown n0 h h' t)(g2:Grown n0 h' h2 k):Grown n0 h h2 k:=
 ⟨λb cs q=>g2.box b cs (g.box b cs q),λb cs q=>g2.loop b cs (g.loop b cs q),g2.can,g2.ok,fe g.tn g2.tn,λn hn q=>g.dead n hn (g2.dead n hn q)⟩
def Grown.ext(g:Grown n0 h h' t)(x:Ext h0 h)(hn:h0.tn<=n0):Ext h0 h':=
 ⟨λb cs hb=>g.box b cs (x.box b cs hb),λl r hl=>g.loop l r (x.loop l r hl),fe x.tn g.tn,λn q hd=>x.dead n q (g.dead n (mq q hn) hd),λ_=>g.ok⟩
def Cu(ho:cA h=ah)(hk:dj n0 h k):cA (h.app k)=ah:=by
 unfold cA at *
 rw[dU] at *
 intro n hn;rcases hk with rfl|rfl|⟨m,rfl,-,ha⟩
 ·exact bX (u6 (of_decide_eq_true (ho n hn)))
 ·exact bX (u6 (of_decide_eq_true (ho n hn)))
 ·rcases gO.1 hn with rfl|q
  ·exact bX (u6 (tX ha))
  ·exact bX (u6 (of_decide_eq_true (ho n q)))
def Grown.one(hk:dj n0 h k)(ho:cA h=ah)(hn:n0<=h.tn):Grown n0 h (h.app k) (.free h.tn):=by
 refine⟨λb cs q=>by rw[eu];exact q,λb cs q=>by rw[yB];exact q,hk.next ho hn,Cu ho hk,by rw[Cv];omega,λn q hd=>?_⟩;rcases hk with rfl|rfl|⟨m,rfl,hm,ha⟩
 ·exact hd
 ·exact hd
 ·rcases gO.1 hd with rfl|hd
  ·omega
  ·exact hd
def Grown.push(g:Grown n0 h h' t)(cs:List AV):Grown n0 h (h'.push cs) t:=⟨λb cs q=>bg (g.box b cs q),g.loop,g.can,g.ok,g.tn,g.dead⟩
def Grown.app(g:Grown n0 h h' t)(hn:n0<=h.tn):Grown n0 h (h'.app t) (.free h'.tn):=g.trans (Grown.one g.can g.ok (fe hn g.tn))
variable {P:Program} {t0 t1 elem:TypeId} {i:TypeInfo} {sz:Nat} {es new:List (List AV)} {x:AV}
def E6(h0:P.underlying t0=aa (.slice elem))(h1:(∃e,P.underlying t1=aa (.slice e))∨P.underlying t1=aa .string)(hi:P.info? elem=aa i)(dH:0<i.size)(hz:(i.zero.map λz=>z.cells.size)=aa i.size)
 (hx:me h i.size x=aa new) (kK:new≠[]) (hb:(es.length+new.length) * i.bytes<=140737488355328) (hl:es.length+new.length<=9223372036854775807) (hs:sz=i.size∨(es=[]/\k=.nil)) (hk:dj n0 h k):
 gq P h #[t0,t1] (.list k sz es) x=aa (.list (.free h.tn) i.size (es++new),h.app k):=by
 unfold gq;rcases h1 with⟨e,h1⟩|h1
 all_goals
  simp only[jc,jv,oD,ph,h0,h1,hi,hx];rw[aF ⟨dH,hz⟩,aF (hs.imp_right λq=>q.1),aG kK,aF ⟨hb,hl⟩];rcases hk with rfl|rfl|⟨m,rfl,-,ha⟩
  ·rfl
  ·rfl
  ·have hs:sz=i.size:=by
    rcases hs with hs|⟨-,hs⟩
    ·exact hs
    ·cases hs
   simp only[ha,hs,decide_true,Bool.and_self,if_true];rfl
def R1(h0:P.underlying t0=aa (.slice elem))(h1:(∃e,P.underlying t1=aa (.slice e))∨P.underlying t1=aa .string)(hi:P.info? elem=aa i)(dH:0<i.size)(hz:(i.zero.map λz=>z.cells.size)=aa i.size)
 (hx:me h i.size x=aa []) (hs:sz=i.size∨es=[]):gq P h #[t0,t1] (.list k sz es) x=aa (.list k sz es,h):=by
 unfold gq;rcases h1 with⟨e,h1⟩|h1
 ·simp only[jc,jv,oD,ph,h0,h1,hi,hx];rw[aF ⟨dH,hz⟩,aF hs,aF trivial]
 ·simp only[jc,jv,oD,ph,h0,h1,hi,hx];rw[aF ⟨dH,hz⟩,aF hs,aF trivial]
end
end Go.AE
end
section
namespace Go.AE
open Go.RowKit (Below)
mutual
def ju(h:ak):AV->AV
 | .list k sz es=>.list (bR k) sz es
 | .arr b off len _=>match h.boxes[b]? with
  |some cs=>if off+len<=cs.length then .list .held 1 (((cs.drop off).take len).map λc=>[c]) else .bad
  |none=>.bad
 | .tuple cs=>.tuple (sL h cs)
 | .agg cs=>.agg (sL h cs)
 |x=>x
def sL(h:ak):List AV->List AV
 | []=>[]
 |x::r=>ju h x::sL h r
end
def DG(R:Rec)(g:FuncId)(args:List AV):Option AV:=
 if aU 0 0 0 (bV args)=ah then
  match R.call g (bV args) ⟨[],[],0,[]⟩ with
  |some (.ret y,h2)=>if aL 0 0 0 (ju h2 y)=ah then aa (ju h2 y) else aq
  |_=>aq
 else aq
def Cy(R:Rec)(g:FuncId)(args:List AV)(h:ak):Option (AV × ak):=(DG R g args).map (·,h)
def Ec:∀l:List AV,(l.map λc=>[c]).flatten=l
 | []=>rfl
 |x::l=>by rw[eo,nX,Ec l];rfl
section
variable {P:Program} {G:Nat->Option (List AV)} {ok:FuncId->Nat->Code->Bool} {w0 w w':World} {K K1 K2:aS} {h h2:ak}
mutual
def aT.l9(jl:∀g j c,K1.ic g j=aa c->K2.ic g j=aa c):∀{x:AV} {c:Value},aT K1 x c->aL 0 0 0 x=ah->aT K2 x c
 |_,_,.bad c,_=>.bad c
 |_,_,.v x hx,_=>.v x hx
 |_,_,.nil sz,_=>.nil sz
 |_,_,.jb sz a,_=>.jb sz a
 |_,_,.list k sz es g off m aB cells hn hr hv hc ht ha,h=>by
  rw[aL,bC] at h;refine .list k sz es g off m aB cells hn hr (aM.l9 jl hv (by rw[r9];exact h.2)) (λj c hj=>jl _ _ _ (hc j c hj)) ⟨ht.1,?_⟩ ha;have h1:=h.1;have h2:=ht.2;cases k with|free i=>simp[qJ] at h1|_=>exact h2
 |_,_,.arr _ _ _ _ _ _ _ _ _ _ _ _,h=>by simp[aL] at h
 |_,_,.agg cs vs hv,h=>.agg cs vs (aM.l9 jl hv (by rw[aL] at h;exact h))
 |_,_,.tuple cs vs hv,h=>.tuple cs vs (aM.l9 jl hv (by rw[aL] at h;exact h))
 |_,_,.box _ _ _ _,h=>by simp[aL] at h
 |_,_,.eD g off,_=>.eD g off
 |_,_,.elem sz es i off g o p cells hr hv hc hi hp ha,h=>.elem sz es i off g o p cells hr (aM.l9 jl hv (by rw[r9];rw[aL] at h;exact h)) (λj c hj=>jl _ _ _ (hc j c hj)) hi hp ha
 |_,_,.func fn first aB fs cs h1 h2,h=>.func fn first aB fs cs (aM.l9 jl h1 (by rw[aL,bC] at h;exact h.1)) (aM.l9 jl h2 (by rw[aL,bC] at h;exact h.2))
 |_,_,.yield _ _ _,h=>by simp[aL] at h
 |_,_,.iface t x c hx,h=>.iface t x c (aT.l9 jl hx (by rw[aL] at h;exact h))
def aM.l9(jl:∀g j c,K1.ic g j=aa c->K2.ic g j=aa c):∀{xs:List AV} {cs:List Value},aM K1 xs cs->aU 0 0 0 xs=ah->aM K2 xs cs
 |_,_,.nil,_=>.nil
 |_,_,.cons x c xs cs hx hs,h=>.cons x c xs cs (aT.l9 jl hx (by rw[aU,bC] at h;exact h.1)) (aM.l9 jl hs (by rw[aU,bC] at h;exact h.2))
end
mutual
def aT.Ds(s1:bN K1 G ok w h2 w')(jl:∀g j c,K1.ic g j=aa c->K2.ic g j=aa c)(kK:∀g j c,K1.base<=g->w'.cell? ⟨g,j,aq⟩=aa c->K2.ic g j=aa c):
 ∀{x:AV} {c:Value},aT K1 x c->aL 0 0 0 (ju h2 x)=ah->aT K2 (ju h2 x) c
 |_,_,.bad c,_=>.bad c
 |_,_,.v x hx,_=>.v x hx
 |_,_,.nil sz,_=>.nil sz
 |_,_,.jb sz a,_=>.jb sz a
 |_,_,.list k sz es g off m aB cells hn hr hv hc ht ha,h=>by
  have hf:gj 0 0 0 es=ah:=by simp only[ju,aL,bC] at h;exact h.2
  have mT:aM K2 es.flatten cells:=aM.l9 jl hv (by rw[r9];exact hf);cases k with|nil=>exact ht.2.elim|tight=>exact .list .tight sz es g off m aB cells hn hr mT (λj c hj=>jl _ _ _ (hc j c hj)) ⟨ht.1,ht.2⟩ ha|free i=>exact .list .held sz es g off m aB cells hn hr mT (λj c hj=>jl _ _ _ (hc j c hj)) ⟨ht.1,aQ⟩ ha|held=>exact .list .held sz es g off m aB cells hn hr mT (λj c hj=>jl _ _ _ (hc j c hj)) ⟨ht.1,aQ⟩ ha
 |_,_,.arr b g off len aB fa hY hb hl oo ho hr,h=>by
  simp only[ju] at h ⊢;cases bW:h2.boxes[b]? with
  |none=>exact .bad _|some cs=>
   rw[bW] at h;simp only at h ⊢;split at h
   ·rename_i eg;rw[aF eg];have hf:gj 0 0 0 (((cs.drop off).take len).map λc=>[c])=ah:=(by simp only[aL,bC] at h;exact h.2);obtain⟨q1,q2,q3,cells,e,q4,q5⟩:=s1.box b g cs hb bW;have ahN:=q5.le;by_cases h0:aB=0
    ·have:len=0:=(by omega);subst this;exact .list .held 1 [] g fa 0 hY [] rfl (λ_ h=>by cases h) .nil (λ_ _ h=>by simp at h) ⟨cr _,aQ⟩ rfl
    ·have zh:fa=off:=by rcases ho with p|p<;>omega
     subst zh;have hv:aM K1 ((cs.drop fa).take len) (((cells.toList.take cs.length).drop fa).take len):=(q5.1.drop fa).take len;have hlen:((cs.drop fa).take len).length=len:=(by rw[eP,gE];omega);refine .list .held 1 _ g fa len hY (((cells.toList.take cs.length).drop fa).take len) (by rw[bu,hlen]) (λr hr=>?_) ?_ (λj c hj=>?_) ⟨ag,aQ⟩ ?_
     ·obtain⟨c,-,rfl⟩:=jo.1 hr;rfl
     ·rw[Ec];rw[<-r9,Ec] at hf;exact aM.l9 jl hv hf
     ·refine kK _ _ _ q1 ?_;have ou:j<len:=(by have:=(aP.1 hj).1;rw[eP] at this;omega);rw[nC,aF ou,nZ,nC,aF ag] at hj;rw[qW q4];simpa using hj
     ·rw[Ec];rw[dU] at q3 ⊢;exactλx hx=>q3 x (List.mem_of_mem_drop (oa hx))
   ·rename_i eg;rw[aG eg];exact .bad _
 |_,_,.agg cs vs hv,h=>.agg _ vs (aM.Ds s1 jl kK hv (by simpa only[ju,aL] using h))
 |_,_,.tuple cs vs hv,h=>.tuple _ vs (aM.Ds s1 jl kK hv (by simpa only[ju,aL] using h))
 |_,_,.box b g off hb,h=>by simp[ju,aL] at h
 |_,_,.eD g off,_=>.eD g off
 |_,_,.elem sz es i off g o p cells hr hv hc hi hp ha,h=>.elem sz es i off g o p cells hr (aM.l9 jl hv (by rw[r9];simpa only[ju,aL] using h)) (λj c hj=>jl _ _ _ (hc j c hj)) hi hp ha
 |_,_,.func fn first aB fs cs h1 h2,h=>by simp only[ju,aL,bC] at h;exact .func fn first aB fs cs (aM.l9 jl h1 h.1) (aM.l9 jl h2 h.2)
 |_,_,.yield l g hl,h=>by simp[ju,aL] at h
 |_,_,.iface t x c hx,h=>by simp only[ju,aL] at h;exact .iface t x c (aT.l9 jl hx h)
def aM.Ds(s1:bN K1 G ok w h2 w')(jl:∀g j c,K1.ic g j=aa c->K2.ic g j=aa c)(kK:∀g j c,K1.base<=g->w'.cell? ⟨g,j,aq⟩=aa c->K2.ic g j=aa c):
 ∀{xs:List AV} {cs:List Value},aM K1 xs cs->aU 0 0 0 (sL h2 xs)=ah->aM K2 (sL h2 xs) cs
 |_,_,.nil,_=>.nil
 |_,_,.cons x c xs cs hx hs,h=>by simp only[sL,aU,bC] at h;exact .cons _ c _ cs (aT.Ds s1 jl kK hx h.1) (aM.Ds s1 jl kK hs h.2)
end
def aS.sees(K:aS)(n:Nat)(w:World):aS:={K with ic:=λg j=>if g<n then K.ic g j else w.cell? ⟨g,j,aq⟩}
def aS.Oz(s:bN K G ok w0 h w):K.Le (K.sees w.heap.size w'):=by
 refine⟨rfl,λg j c hc=>?_,λ_ _ h=>h,λ_ _ h=>h,aJ _,λ_ _=>rfl,λ_ h=>h,λ_ _=>rfl,λg j c hc=>?_⟩
 ·simp only[aS.sees,aF (s.zt hc),hc]
 ·simp only[aS.sees] at hc;split at hc
  ·exact .inl hc
  ·exact .inr (by have:=s.size;omega)
def bN.sees(s:bN K G ok w0 h w)(b:Below w.heap.size w w'):bN (K.sees w.heap.size w') G ok w0 h w':=by
 have g:=s.grown b;have le:K.Le (K.sees w.heap.size w'):=aS.Oz s;refine⟨g.cU,g.size,λg1 j c hc=>?_,λg1 cs hg=>?_,g.ki,g.o7,λb1 g1 cs hb hc=>?_,g.nA,g.pY,λl g1 r hl hr=>?_,g.tn,λt ht=>?_,g.oZ,g.md,g.all⟩
 ·simp only[aS.sees] at hc;split at hc
  ·exact g.ic g1 j c hc
  ·exact hc
 ·obtain⟨cells,q1,q2⟩:=g.eD g1 cs hg;exact⟨cells,q1.mono le,λj c hj=>le.ic _ _ _ (q2 j c hj)⟩
 ·obtain⟨q1,q2,q3,cells,e,q4,q5⟩:=g.box b1 g1 cs hb hc;obtain⟨-,-,-,cells0,e0,p4,-⟩:=s.box b1 g1 cs hb hc;refine⟨q1,λj=>?_,q3,cells,e,q4,q5.mono le (aP.1 hb).1⟩;simp only[aS.sees,aF (nS p4)];exact q2 j
 ·obtain⟨q1,fn,tmps,d,q2,q3,q4⟩:=g.loop l g1 r hl hr;exact⟨q1,fn,tmps,d,q2,q3.mono le,q4⟩
 ·obtain⟨q1,q2,q3,q4⟩:=g.tok t ht;obtain⟨-,-,-,cells0,e0,z0,p4,-⟩:=s.tok t ht;refine⟨q1,q2,λj hj=>?_,q4⟩;simp only[aS.sees,aF (nS p4)];exact q3 j hj
def aS.alone(K:aS)(n:Nat):aS:={K with base:=n,β:=[],γ:=[],tn:=0,md:=[]}
def bN.alone(s:bN K G ok w0 h w)(hG:∀g cs,G g=aa cs->aU 0 0 0 cs=ah):bN (K.alone w.heap.size) G ok w ⟨[],[],0,[]⟩ w:=by
 refine⟨Below.refl _ _,aJ _,s.ic,λg cs hg=>?_,rfl,λb b' g hb=>by simp[aS.alone] at hb,λb g cs hb=>by simp[aS.alone] at hb,rfl,λb b' g hb=>by simp[aS.alone] at hb,λl g r hl=>by simp[aS.alone] at hl,rfl,λt ht=>?_,λt t' ht=>?_,λr hr=>by simp[aS.alone] at hr,rfl⟩
 ·obtain⟨cells,q1,q2⟩:=s.eD g cs hg;exact⟨cells,aM.l9 (K1:=K) (K2:=K.alone w.heap.size) (λ_ _ _ h=>h) q1 (hG g cs hg),q2⟩
 ·simp[alive] at ht
 ·simp[alive] at ht
def SC{prims:FuncId->Option (List AV->ak->Option (AV × ak))}(hp:Prog P)(hG:∀g cs,G g=aa cs->aU 0 0 0 cs=ah)(nQ:∀V g p,prims g=aa p->rV P G V g p){g:FuncId}(gG:∃fn,P.funcs[g]?=aa fn/\fn.body.isSome=ah)(V:World):
 rV P G V g (Cy (whole P G prims) g):=by
 refine⟨gG,λargs h x h' hx K w eU hv hs cs=>?_⟩;unfold Cy DG at hx;split at hx
 ·rename_i hf;split at hx
  ·rename_i y h2 hc;split at hx
   ·rename_i y4;simp only[eJ,dA,cX] at hx;obtain⟨rfl,rfl⟩:=hx;obtain⟨-,F3⟩:=(QE hp (nQ w)).call g _ _ _ _ hc;have s0:=bN.alone hs hG;obtain⟨K1,w',fr,le,s1,bZ,vH,v,pP,eg⟩:=F3 (K.alone w.heap.size) w eU (aM.l9 (K1:=K) (K2:=K.alone w.heap.size) (λ_ _ _ h=>h) hv.hold hf) s0 cs;have hb:Below w.heap.size w w':=(by have:=s1.cU;rwa [le.base] at this);refine⟨.returned v,w',fr,⟨v,_,rfl,aS.Oz hs,aT.Ds (K2:=K.sees w.heap.size w') s1 (λg j c hc=>?_) (λg j c hg hc=>?_) pP y4,bN.sees hs hb⟩,bZ,vH,eg⟩
    ·rcases le.new g j c hc with q|q
     ·have:g<w.heap.size:=hs.zt q;simp only[aS.sees,aF this];exact q
     ·have q:w.heap.size<=g:=q;simp only[aS.sees,aG (ag:¬g<w.heap.size)];exact s1.ic g j c hc
    ·have q:w.heap.size<=g:=(by rw[le.base] at hg;exact hg);simp only[aS.sees,aG (ag:¬g<w.heap.size)];exact hc
   ·cases hx
  ·cases hx
 ·cases hx
def pq(R:Rec)(L:List FuncId)(g:FuncId):Option (List AV->ak->Option (AV × ak)):=if L.contains g=ah then aa (Cy R g) else aq
def wV{prims:FuncId->Option (List AV->ak->Option (AV × ak))}(hp:Prog P)(hG:∀g cs,G g=aa cs->aU 0 0 0 cs=ah)(nQ:∀V g p,prims g=aa p->rV P G V g p){L:List FuncId}(hL:∀g∈L,∃fn,P.funcs[g]?=aa fn/\fn.body.isSome=ah):
 ∀V g p,pq (whole P G prims) L g=some p->rV P G V g p:=by
 intro V g p he;unfold pq at he;split at he
 ·rename_i hg;injection he with he;subst he;exact SC hp hG nQ (hL g (by simpa using hg)) V
 ·cases he
def bm{R:Rec}{L:List FuncId}{g:FuncId}{args cd:List AV}{x y:AV}{h1:ak}(hg:L.contains g=ah)(ha:bV args=cd)(hf:aU 0 0 0 cd=ah)(hc:R.call g cd ⟨[],[],0,[]⟩=aa (.ret y,h1))(hy:ju h1 y=x)(hx:aL 0 0 0 x=ah):
 ∀h,(whole P G (pq R L)).call g args h=aa (.ret x,h):=by
 intro h;subst ha;subst hy;rw[Hr];unfold qk pq;rw[aF hg];simp only[Cy,DG,aF hf,hc,aF hx,eJ]
end
end Go.AE
end
section
namespace Go.AE
def OR(P:Program)(s d:TypeId):Bool:=
 match P.underlying s,P.underlying d with
 |some (.int _),aa (.int _)=>ah
 |_,_=>av
def Ma(P:Program)(ops:Array Oper)(L:List FuncId)(k:Nat):Bool:=
 match ops[k]? with
 |some o=>o.guard.isNone&&match o.op with
  | .call {callee:=.value (.func f),.. }=>L.contains f
  | .call {callee:=.builtin .max,.. }=>ah
  | .call {callee:=.builtin .min,.. }=>ah
  | .convert s d _=>OR P s d
  |_=>av
 |none=>av
def Mb(P:Program)(ops:Array Oper)(L:List FuncId):List Nat:=(bO ops.size).filter (Ma P ops L)
section
variable {P:Program} {G:Nat->Option (List AV)} {prims:FuncId->Option (List AV->ak->Option (AV × ak))} {Q:Xt->Env->ak->Prop} {e:Env} {h:ak} {L:List FuncId}
def o8(prims:FuncId->Option (List AV->ak->Option (AV × ak)))(L:List FuncId):Prop:=∀g∈L,∃q:List AV->Option AV,prims g=aa λargs h=>(q args).map (·,h)
def wX{R:Rec}:o8 (pq R L) L:=λg hg=>⟨DG R g,by unfold pq;rw[aF (by simpa using hg)];rfl⟩
def aka{s d:TypeId}{x:AV}(hn:OR P s d=ah):∃q:Option AV,∀hm,mK P hm s d x=q.map (·,hm):=by
 unfold OR at hn;split at hn
 ·rename_i k1 k2 h1 h2;unfold mK;simp only[h1,h2];cases x<;>first|exact⟨aq,λhm=>rfl⟩|exact⟨_,λhm=>rfl⟩
 ·cases hn
def acn{hm:ak}{ts:Array TypeId}{ty:TypeId}{xs:List AV}:ji P hm .max ts ty xs=(match flatAll xs with|some l=>(gy P (Builtin.max_ ts ty l.toArray)).bind oB|none=>aq).map (·,hm):=by rcases xs with _|⟨x,_|⟨y,xs⟩⟩<;>(unfold ji;simp only[];cases flatAll _<;>rfl)
def aco{hm:ak}{ts:Array TypeId}{ty:TypeId}{xs:List AV}:ji P hm .min ts ty xs=(match flatAll xs with|some l=>(gy P (Builtin.min_ ts ty l.toArray)).bind oB|none=>aq).map (·,hm):=by rcases xs with _|⟨x,_|⟨y,xs⟩⟩<;>(unfold ji;simp only[];cases flatAll _<;>rfl)
def Ia{o:Oper}(hg:o.guard=aq)(hq:yG o.op=ah)(bK:∀er:Env,∃q:Option AV,∀hm,dO P G (whole P G prims) er hm o=q.map λx=>(.ret x,er,hm)){ops:Array Oper}{en:Env}{hn:ak}
 (ec:cV P G (whole P G prims) ops (bO ops.size) e h=aa (.normal,en,hn)) {k:Nat} (ho:ops[k]?=aa o):yH P G (whole P G prims) ops e h k:=by
 have UY:k<ops.size:=(Array.getElem?_eq_some_iff.1 ho).1;obtain⟨-,tr,st⟩:=trace ec;obtain⟨s1,-⟩:=st k UY;obtain⟨q,rz⟩:=bK (cL P G (whole P G prims) ops e h k).1;unfold jD at s1;simp only[ho,eY,hg,rz] at s1;cases hx:q with|none=>rw[hx] at s1;simp at s1|some x=>exact⟨o,x,_,_,ho,hq,tr k (Nat.le_of_lt UY),λm hm=>⟨_,_,tr m hm,by rw[rz,hx];rfl⟩⟩
def SD{ops:Array Oper}(hL:o8 prims L){en:Env}{hn:ak}(ec:cV P G (whole P G prims) ops (bO ops.size) e h=aa (.normal,en,hn)){k:Nat}(hk:Ma P ops L k=ah):yH P G (whole P G prims) ops e h k:=by
 unfold Ma at hk;split at hk
 ·rename_i o ho;simp only[bC,Option.isNone_iff_eq_none] at hk;obtain⟨hg,hk⟩:=hk;split at hk
  ·rename_i f args ts bK;obtain⟨q,hq⟩:=hL f (by simpa using hk);refine Ia hg (by rw[bK];rfl) (λer=>⟨q (args.toList.map er.eval),λhm=>?_⟩) ec ho;have:dO P G (whole P G prims) er hm o=(lE P (whole P G prims) er hm {callee:=.value (.func f),args,argTypes:=ts}).map λ(r,h1)=>(r,er,h1):=(by unfold dO;rw[bK]);rw[this,Su,Hr];unfold qk;rw[hq];simp only[Lu];rfl
  ·rename_i args ts bK;refine Ia hg (by rw[bK];rfl) (λer=>⟨match flatAll (args.toList.map er.eval) with|some l=>(gy P (Builtin.max_ ts o.type l.toArray)).bind oB|none=>aq,λhm=>?_⟩) ec ho
   ·unfold dO;simp only[bK];show(ji P hm .max ts o.type (args.toList.map er.eval)).map _=_;rw[acn,Lu];rfl
  ·rename_i args ts bK;refine Ia hg (by rw[bK];rfl) (λer=>⟨match flatAll (args.toList.map er.eval) with|some l=>(gy P (Builtin.min_ ts o.type l.toArray)).bind oB|none=>aq,λhm=>?_⟩) ec ho
   ·unfold dO;simp only[bK];show(ji P hm .min ts o.type (args.toList.map er.eval)).map _=_;rw[aco,Lu];rfl
  ·rename_i s d x bK;refine Ia hg (by rw[bK];rfl) (λer=>?_) ec ho;obtain⟨q,hq⟩:=aka (P:=P) (x:=er.eval x) hk;refine⟨q,λhm=>?_⟩;unfold dO;simp only[bK,dD,hq,Lu];rfl
  ·cases hk
 ·cases hk
def mW{id:Nat}{ops:Array Oper}(ps:List (Nat × Nat))(hL:o8 prims L)(hd:CH ops (Mb P ops L) ps=ah)(hs:∀p∈ps,lj P G (whole P G prims) ops e h p.1 p.2=ah)
 (hr:cB P G (whole P G prims) ops ops.toList e h (wW Q)):bG (whole P G prims) (.region id ops ah) e h Q:=by
 have fG:=hr;obtain⟨o,en,hn,h1,h2⟩:=fG;cases o with
 |normal=>
  have ec:cV P G (whole P G prims) ops (bO ops.size) e h=aa (.normal,en,hn):=by rw[rH (aJ _),<-Array.length_toList,fA];exact h1
  exact P5 (Mr hd (λk hk=>SD hL ec (tS.1 hk).2) hs) hr
 |_=>exact h2.elim
def ey{id:Nat}{ops:Array Oper}(hL:o8 prims L)(hd:CH ops (Mb P ops L) []=ah)
 (hr:cB P G (whole P G prims) ops ops.toList e h (wW Q)):bG (whole P G prims) (.region id ops ah) e h Q:=mW [] hL hd (λp hp=>nomatch hp) hr
end
end Go.AE
end
section
namespace Go.AE
structure fS(S:List Nat)(n0:Nat)(h h':ak):Prop where
 box:∀(c:Nat) (cs:List AV),c∉S->h.boxes[c]?=aa cs->h'.boxes[c]?=aa cs
 len:h.boxes.length<=h'.boxes.length
 loop:∀(l:Nat) (r:ij),h.loops[l]?=aa r->h'.loops[l]?=aa r
 tn:h.tn<=h'.tn
 dead:∀n,n<n0->n∈h'.dead->n∈h.dead
 ok:cA h=ah->cA h'=ah
section
variable {S S':List Nat} {n0:Nat} {h0 h h' h2:ak}
def fS.refl:fS S n0 h h:=⟨λ_ _ _ q=>q,aJ _,λ_ _ q=>q,aJ _,λ_ _ q=>q,λq=>q⟩
def fS.trans(m:fS S n0 h h')(k:fS S n0 h' h2):fS S n0 h h2:=
 ⟨λc cs hc hb=>k.box c cs hc (m.box c cs hc hb),fe m.len k.len,λl r q=>k.loop l r (m.loop l r q),fe m.tn k.tn,λn hn q=>m.dead n hn (k.dead n hn q),λq=>k.ok (m.ok q)⟩
def fS.mono(m:fS S n0 h h')(hs:∀b∈S,b∈S'):fS S' n0 h h':=⟨λc cs hc=>m.box c cs λq=>hc (hs c q),m.len,m.loop,m.tn,m.dead,m.ok⟩
def fS.put{b:Nat}(hb:b∈S)(cs:List AV):fS S n0 h (h.put b cs):=
 ⟨λc ds hc q=>by rw[cS (λ(e:c=b)=>hc (by rw[e];exact hb))];exact q,by rw[mh];exact aJ _,λ_ _ q=>q,aJ _,λ_ _ q=>q,λq=>q⟩
def fS.fO(m:fS S n0 h h'){b:Nat}(hb:h.boxes.length<=b)(cs:List AV):fS S n0 h (h'.put b cs):=
 ⟨λc ds hc q=>by have:=(aP.1 q).1;rw[cS ag];exact m.box c ds hc q,by rw[mh];exact m.len,m.loop,m.tn,m.dead,m.ok⟩
def fS.push(m:fS S n0 h h')(cs:List AV):fS S n0 h (h'.push cs):=
 ⟨λc ds hc q=>bg (m.box c ds hc q),by rw[cK];exact Nat.le_succ_of_le m.len,m.loop,m.tn,m.dead,m.ok⟩
def fS.Bs(m:fS S n0 h h')(r:ij):fS S n0 h (h'.loop r):=⟨m.box,m.len,λl q hq=>Wi (m.loop l q hq),m.tn,m.dead,m.ok⟩
def fS.eW(m:fS S n0 h h'){l:Nat}(hl:h.loops.length<=l)(r:ij):fS S n0 h (h'.eW l r):=
 ⟨m.box,m.len,λk q hq=>by have:=(aP.1 hq).1;rw[Yw ag];exact m.loop k q hq,m.tn,m.dead,m.ok⟩
def fS.DM(x:Ext h h')(hn:n0<=h.tn):fS S n0 h h':=⟨λc cs _ hb=>x.box c cs hb,x.len,x.loop,x.tn,λn hl hd=>x.dead n (mq hl hn) hd,x.ok⟩
def fS.sV{n1:Nat}(m:fS S n1 h h')(hn:n0<=n1):fS S n0 h h':=⟨m.box,m.len,m.loop,m.tn,λn hl hd=>m.dead n (mq hl hn) hd,m.ok⟩
def Ext.OM(x:Ext h0 h)(m:fS S h0.tn h h')(hb:∀b∈S,h0.boxes.length<=b):Ext h0 h':=
 ⟨λc cs q=>m.box c cs (λhc=>by have:=hb c hc;have:=(aP.1 q).1;omega) (x.box c cs q),λl r q=>m.loop l r (x.loop l r q),fe x.tn m.tn,λn hn hd=>x.dead n hn (m.dead n hn hd),λq=>m.ok (x.ok q)⟩
def Grown.OM{t:Tok}(g:Grown n0 h h' t):fS S n0 h h':=⟨λc cs _ q=>g.box c cs q,by
 rcases dI h'.boxes.length h.boxes.length with aA|dM
 ·have h1:=g.box h'.boxes.length _ (aO aA);have:=(aP.1 h1).1;omega
 ·exact dM,g.loop,g.tn,g.dead,λ_=>g.ok⟩
end
section
variable {P:Program} {G:Nat->Option (List AV)} {prims:FuncId->Option (List AV->ak->Option (AV × ak))} {H:ak} {l:Nat} {rec:ij} {args:List AV}
def an4{Post:ak->Prop}(hr:H.loops[l]?=aa rec)(hs:rec.params.size=args.length)(bZ:rec.state=.ready)(hp:rec.pending=aq)
 (ha:bG (whole P G prims) rec.assign (nx l rec args) H (λo e1 h1=>o=.normal/\h1=H/\bG (whole P G prims) rec.body e1 (H.busy l rec) (λo _ h2=>o=.normal/\h2.loops=(H.busy l rec).loops/\Post {h2 with loops:=H.loops}))):
 ∃H',(whole P G prims).round l args H=aa (.ret (.v (.bool ah)),H')/\H'.loops=H.loops/\Post H':=by
 obtain⟨o,e1,h1,q1,rfl,rfl,o2,e2,h2,q2,rfl,q3,q4⟩:=ha;have eR:=(aP.1 hr).1;have hb:(h1.busy l rec).loops[l]?=aa {rec with state:=.busy}:=by show(h1.loops.set l _)[l]?=_;simp[eR]
 refine⟨{h2 with loops:=h1.loops},JS hr hs ⟨_,e1,h1,q1,rfl,rec,hr,bZ,.normal,e2,h2,q2,{rec with state:=.busy},by rw[q3];exact hb,rfl,?_⟩,rfl,q4⟩;have zk:{rec with state:=LoopState.ready,pending:=aq}=rec:=by cases rec;cases bZ;cases hp;rfl
 have xC:h2.loops.set l rec=h1.loops:=by
  rw[q3];show(h1.loops.set l _).set l rec=_;rw[Ch];apply p8;intro k;rw[lR];split
  ·rename_i e;subst e;exact hr.symm
  ·rfl
 show _=({h2 with loops:=h2.loops.set l {rec with state:=LoopState.ready,pending:=aq}}:ak);rw[zk,xC]
def JR{Post:ak->Prop}(hr:H.loops[l]?=aa rec)(hs:rec.params.size=args.length)(bZ:rec.state=.ready)(hp:rec.pending=aq)
 (ha:bG (whole P G prims) rec.assign (nx l rec args) H (λo e1 h1=>o=.normal/\h1=H/\bG (whole P G prims) rec.body e1 (H.busy l rec) (λo _ h2=>o=.normal/\h2.loops=(H.busy l rec).loops/\Post {h2 with loops:=H.loops}))):
 ∃H',(whole P G prims).round l args H=aa (.ret (.v (.bool ah)),H')/\Post H':=by
 obtain⟨H',q1,_,q3⟩:=an4 hr hs bZ hp ha;exact⟨H',q1,q3⟩
end
end Go.AE
end
section
namespace Go.NT
def arc{α:Type}{f}:∀{l:List α},(∀i∈l,f i=0)->cz (l.map f)=0:=by
 intro l
 induction l with
 |nil=>intro _;rfl|cons x l ih=>intro h;simp only[eo,cz];rw[h x fR,ih λi hi=>h i (fi _ hi)];rfl
def Qq{α:Type}{f g}:∀{l:List α},(∀i∈l,f i=g i)->cz (l.map f)=cz (l.map g):=by
 intro l
 induction l with
 |nil=>intro _;rfl|cons x l ih=>intro h;simp only[eo,cz];rw[h x fR,ih λi hi=>h i (fi _ hi)]
def arb{α:Type}{f}{p}:∀{l:List α},(∀i∈l,p i=av->f i=0)->cz ((l.filter p).map f)=cz (l.map f):=by
 intro l
 induction l with
 |nil=>intro _;rfl|cons x l ih=>
  intro h;have ih:=ih λi hi=>h i (fi _ hi);cases hp:p x
  ·rw[aas (by simp[hp]),ih];simp only[eo,cz];rw[h x fR hp];omega
  ·rw[aat hp];simp only[eo,cz,ih]
def Zf{α:Type}{f g}:∀{l:List α},cz (l.map λi=>f i+g i)=cz (l.map f)+cz (l.map g):=by
 intro l
 induction l with
 |nil=>rfl|cons x l ih=>simp only[eo,cz,ih];omega
def Kw{α:Type}{f}{c}:∀{l:List α},cz (l.map λi=>c * f i)=c * cz (l.map f):=by
 intro l
 induction l with
 |nil=>simp[cz]|cons x l ih=>simp only[eo,cz,ih,Int.mul_add]
def Zg{α β:Type}{f:α->β->Int}:∀{l:List α} {m:List β},cz (l.map λi=>cz (m.map λj=>f i j))=cz (m.map λj=>cz (l.map λi=>f i j)):=by
 intro l m
 induction l with
 |nil=>simp only[tR,cz];exact(arc λ_ _=>rfl).symm|cons x l ih=>simp only[eo,cz,ih];rw[<-Zf]
def Hg{α:Type}{f g}{q}:∀{l:List α},(∀i∈l,q∣f i - g i)->q∣cz (l.map f) - cz (l.map g):=by
 intro l
 induction l with
 |nil=>intro _;simp[cz]|cons x l ih=>
  intro h;simp only[eo,cz];have e:f x+cz (l.map f) - (g x+cz (l.map g))=(f x - g x)+(cz (l.map f) - cz (l.map g)):=by omega
  rw[e];exact wI (h x fR) (ih λi hi=>h i (fi _ hi))
def ajN{α β:Type}{l:List α}{f}{g:Nat->β}(h:∀i x,l[i]?=aa x->f x=g i):l.map f=(bO l.length).map g:=by
 apply HE
 ·simp
 ·intro i h1 h2;rw[qa,qa,zS];exact h i _ (aO (by simpa using h1))
def Qv(ae)(target):(fw ae target).length=target.length:=by unfold fw;simp
def Zs{ae}{target a}(h:a∈fw ae target):∃k,k<target.length/\a=ae.map (λr=>ai r k)++[ai target k]:=by unfold fw at h;obtain⟨k,hk,rfl⟩:=jo.1 h;exact⟨k,fY.1 hk,rfl⟩
def aci{ae:List (List Int)}{k i}{t}(hi:i<ae.length):ai (ae.map (λr=>ai r k)++t) i=ai (ae.getD i []) k:=by unfold ai;rw[dP,List.getElem?_append_left (by simpa using hi),dW,aO hi,jV hi];rfl
def acj{ae:List (List Int)}{k}{x}:ai (ae.map (λr=>ai r k)++[x]) ae.length=x:=by unfold ai;rw[dP,yu bh];simp
section
variable {ae:List (List Int)} {target l:List Int}
def Qw(hr:∀r∈ae,∀x∈r,okF x)(ht:∀x∈target,okF x):(∀a∈fw ae target,a.length=ae.length+1)/\∀a∈fw ae target,∀x∈a,okF x:=by
 refine⟨λa ha=>?_,λa ha x hx=>?_⟩
 ·obtain⟨k,-,rfl⟩:=Zs ha;simp
 ·obtain⟨k,hk,rfl⟩:=Zs ha;rcases List.mem_append.1 hx with q|q
  ·obtain⟨r,h1,rfl⟩:=jo.1 q;exact pk (hr r h1) k
  ·rw[mo] at q;subst q;exact pk ht k
def combine_sat(hr:∀r∈ae,∀x∈r,okF x)(ht:∀x∈target,okF x)(h:oN ae target=aa l):
 l.length=ae.length/\(∀x∈l,okF x)/\∀k,k<target.length->Qi∣cz ((bO ae.length).map λi=>ai l i * ai (ae.getD i []) k) - ai target k:=by
 obtain⟨t1,t2⟩:=Qw hr ht;unfold oN at h;dsimp only at h;split at h
 ·rename_i ec;simp only[dA] at h;subst h;have Nq:∀i a,(iK (fw ae target) ae.length).2.length<=i->(iK (fw ae target) ae.length).1[i]?=aa a->ai a ae.length=0:=λi a hi ha=>by rw[dU] at ec;have:a∈(iK (fw ae target) ae.length).1.drop (iK (fw ae target) ae.length).2.length:=(by refine de (i:=i - (iK (fw ae target) ae.length).2.length) ?_;rw[nZ];rw[show(iK (fw ae target) ae.length).2.length+(i - (iK (fw ae target) ae.length).2.length)=i by omega];exact ha);simpa using ec a this
  have hs:=aql t1 t2 Nq;have R:=(Gy t1 t2 (ag:ae.length<=ae.length+1)).1;refine⟨Km _ _,?_,λk hk=>?_⟩
  ·have bA:∀(ps:List (Nat × Nat)) (y:List Int),(∀x∈y,okF x)->∀x∈ps.foldl (λy p=>y.set p.1 (ai ((iK (fw ae target) ae.length).1.getD p.2 []) ae.length)) y,okF x:=by
    intro ps
    induction ps with
    |nil=>intro y hy;exact hy|cons p ps ih=>
     intro y hy;refine ih _ λx hx=>?_;rcases u0 hx with q|q
     ·exact hy x q
     ·rw[q];refine pk (λz hz=>?_) _;rcases dI p.2 (iK (fw ae target) ae.length).1.length with q2|q2
      ·rw[jV q2] at hz;exact R.ok _ (iD q2) z hz
      ·rw[dP,List.getElem?_eq_none q2] at hz;simp at hz
   unfold oC;exact bA _ _ λx hx=>by rw[HD hx];exact zx
  ·have hm:ae.map (λr=>ai r k)++[ai target k]∈fw ae target:=(by unfold fw;exact jo.2 ⟨k,fY.2 hk,rfl⟩);have:=hs _ hm;unfold Sat res dot at this;rw[Km,acj] at this;have e:((bO ae.length).map λi=>ai (oC (iK (fw ae target) ae.length) ae.length) i * ai (ae.map (λr=>ai r k)++[ai target k]) i)=(bO ae.length).map λi=>ai (oC (iK (fw ae target) ae.length) ae.length) i * ai (ae.getD i []) k:=
    List.map_congr_left λi hi=>by rw[aci (fY.1 hi)]
   rw[e] at this;exact this
 ·cases h
end
def aqq{n}{at_}{l}:(qG n at_ l).length=n:=by unfold qG;rw[Fi (λp=>ai l p.2)];simp
def aqs{n i}{at_}{l}(h:i∉at_):ai (qG n at_ l) i=0:=by unfold qG;rw[Iy (λp=>ai l p.2) _ _ λp hp e=>h (by subst e;obtain⟨p1,p2⟩:=p;have:=List.mem_zipIdx hp;simp only at this ⊢;rw[this.2.2];exact iD _)];unfold ai;rw[dP,K4];split<;>rfl
def aqp{l}:∀(ps:List (Nat × Nat)) (y:List Int),(ps.map EV).Nodup->(∀p∈ps,p.1<y.length)->∀p∈ps,ai (ps.foldl (λy p=>y.set p.1 (ai l p.2)) y) p.1=ai l p.2:=by
 intro ps
 induction ps with
 |nil=>intro y _ _ p hp;cases hp
 |cons q ps ih=>
  intro y hn hy p hp;rw[eo,EH] at hn;rcases gO.1 hp with rfl|hp
  ·rw[wN,Iy (λp=>ai l p.2) _ _ λp' hp' e=>hn.1 (jo.2 ⟨p',hp',e⟩),HY (hy p fR),aF rfl]
  ·exact ih _ hn.2 (λp hp=>by rw[mn];exact hy p (fi _ hp)) p hp
def zip_fst(at_:List Nat):at_.zipIdx.map EV=at_:=by apply HE<;>simp
def Qe{n j i}{at_}{l}(hn:at_.Nodup)(hb:∀i∈at_,i<n)(hj:at_[j]?=aa i):ai (qG n at_ l) i=ai l j:=by
 unfold qG;have hm:(i,j)∈at_.zipIdx:=by rw[List.mem_zipIdx_iff_getElem?];exact hj
 exact aqp at_.zipIdx (aY n 0) (by rw[zip_fst];exact hn) (λp hp=>by
  rw[lT];refine hb _ ?_;have:p.1∈at_.zipIdx.map EV:=jo.2 ⟨p,hp,rfl⟩
  rwa [zip_fst] at this) (i,j) hm
def aqr{n}{at_}{l}(hl:∀x∈l,okF x):∀x∈qG n at_ l,okF x:=by
 have bA:∀(ps:List (Nat × Nat)) (y:List Int),(∀x∈y,okF x)->∀x∈ps.foldl (λy p=>y.set p.1 (ai l p.2)) y,okF x:=by
  intro ps
  induction ps with
  |nil=>intro y hy;exact hy|cons p ps ih=>
   intro y hy;refine ih _ λx hx=>?_;rcases u0 hx with q|q
   ·exact hy x q
   ·rw[q];exact pk hl _
 exact bA _ _ λx hx=>by rw[HD hx];exact zx
def O0{owners aw}{i}:i∈dS owners aw↔i<owners.length/\ai owners i∈aw:=by unfold dS;rw[tS,fY,aam]
def akA(owners aw):(dS owners aw).Nodup:=List.nodup_range.filter _
def qy{ae}{owners}(h:cR ae owners=0):ae.length=owners.length/\ae.length<=64/\(∀r∈ae,r.length=bU ae/\0<r.length/\r.length<=64/\∀x∈r,okF x)/\∀x∈owners,0<=x/\x<=63:=by
 unfold cR at h;split at h
 ·cases h
 ·rename_i h1;simp only[Bool.or_eq_true,decide_eq_true_eq,List.any_eq_true,not_or,not_exists,not_and,Nat.not_lt] at h1;split at h
  ·cases h
  ·rename_i h2;have h2:ae.length=owners.length:=(by simpa using h2);split at h
   ·rename_i h3;rw[dU] at h3;have key:∀i (hi:i<ae.length),ae[i].length=(ae.getD 0 []).length/\0<ae[i].length/\(∀x∈ae[i],okF x)/\0<=ai owners i/\ai owners i<=63:=λi hi=>by
     have:=h3 i (fY.2 hi);simp only[jV hi,bC,decide_eq_true_eq,dU] at this;obtain⟨⟨⟨a,b⟩,c,d⟩,f⟩:=this;refine⟨b,?_,λx hx=>?_,c,d⟩
     ·rcases EN ae[i].length with q|q
      ·rw[List.length_eq_zero_iff] at q;rw[q] at a;cases a
      ·exact q
     ·have:=f x hx;unfold da at this;simpa [okF] using this
    refine⟨h2,h1.1,λr hr=>?_,λx hx=>?_⟩
    ·obtain⟨i,hi,rfl⟩:=zV.1 hr;obtain⟨a,b,c,-⟩:=key i hi;refine⟨?_,b,h1.2 _ hr,c⟩;unfold bU;rw[aG ag];exact a
    ·obtain⟨i,hi,rfl⟩:=zV.1 hx;have:=(key i ag).2.2.2
     rwa [fI hi] at this
   ·cases h
def ud{ae}{owners}(h:cR ae owners=0):0<bU ae/\bU ae<=64:=by
 obtain⟨-,-,h3,-⟩:=qy h;unfold bU;split
 ·omega
 ·rename_i q;have:=h3 (ae.getD 0 []) (by rw[jV ag];exact iD _);exact⟨this.2.1,this.2.2.1⟩
def Qs{n}(h:0<n):(ft n).length=n:=by unfold ft;simp;omega
def arx{n k}:ai (ft n) k=if k=0 then 1 else 0:=by
 unfold ft ai;cases k with|zero=>rfl|succ k=>rw[List.getD_cons_succ,dP,K4];split<;>rfl
def ary{n}:∀x∈ft n,okF x:=by
 intro x hx;unfold ft at hx;rcases gO.1 hx with rfl|q
 ·unfold okF;decide
 ·rw[HD q];exact zx
def yy{ae}{owners aw y}(h:fZ ae owners aw=(y,ah,0)):
 cR ae owners=0/\fW (-1) aw=ah/\y.length=ae.length/\(∀x∈y,okF x)/\(∀i,ai owners i∉aw->ai y i=0)/\
  ∀k,k<bU ae->Qi∣cz ((bO ae.length).map λi=>ai y i * ai (ae.getD i []) k) - (if k=0 then 1 else 0):=by
 unfold fZ at h;split at h
 ·simp at h
 ·rename_i hp;have hp:cR ae owners=0:=by simpa using hp
  obtain⟨p1,p2,p3,p4⟩:=qy hp;split at h
  ·simp at h
  ·rename_i hw;split at h
   ·simp at h
   ·rename_i l hl;simp only[cX,and_true] at h;subst h;have hb:∀i∈dS owners aw,i<ae.length:=λi hi=>(by rw[p1];exact(O0.1 hi).1);have hr:∀r∈(dS owners aw).map (λi=>ae.getD i []),∀x∈r,okF x:=λr hr=>(by obtain⟨i,hi,rfl⟩:=jo.1 hr;rw[jV (hb i hi)];exact(p3 _ (iD _)).2.2.2);obtain⟨c1,c2,c3⟩:=combine_sat hr ary hl;rw[bu] at c1 c3;have zi:∀i,i∉dS owners aw->ai (qG ae.length (dS owners aw) l) i=0:=λi hi=>aqs hi;refine⟨hp,by simpa using hw,aqq,aqr c2,λi hi=>zi i λq=>hi (O0.1 q).2,λk hk=>?_⟩;have:=c3 k (by rw[Qs (ud hp).1];exact hk);rw[arx] at this;have e:cz ((bO ae.length).map λi=>ai (qG ae.length (dS owners aw) l) i * ai (ae.getD i []) k)=cz ((bO (dS owners aw).length).map λi=>ai l i * ai (((dS owners aw).map λi=>ae.getD i []).getD i []) k):=(by have e1:dS owners aw=(bO ae.length).filter λi=>aw.contains (ai owners i):=(by unfold dS;rw[p1]);have e2:=arb (f:=λi=>ai (qG ae.length (dS owners aw) l) i * ai (ae.getD i []) k) (p:=λi=>aw.contains (ai owners i)) (l:=bO ae.length) λi hi hq=>(by rw[zi i λq=>?_,HC];rw[aam.2 (O0.1 q).2] at hq;cases hq);rw[<-e1] at e2;rw[<-e2];congr 1;refine ajN λj i hj=>?_;have ou:=(aP.1 hj).1;rw[Qe (akA owners aw) hb hj,jV (t:=(dS owners aw).map λi=>ae.getD i []) (by simpa using ou),qa];rw[(aP.1 hj).2]);rw[e];exact this
end Go.NT
end
section
namespace Go.NT
def Gn:Nat:=4
def p7:elem Gn=ah:=by decide+kernel
def SX{a b}(h:Qi∣a - b):a%Qi=b%Qi:=aaa.2 (Int.emod_eq_zero_of_dvd h)
def Ij{a b}(h:a%Qi=b%Qi):Qi∣a - b:=Int.dvd_of_emod_eq_zero (aaa.1 h)
def Pb{a b}(h:Qi∣a - b):bD Gn a=bD Gn b:=Gs (SX h)
def aly{a}(h:bD Gn a=1):Qi∣a:=by
 have hf:=CP a;have ha:Qi∣a - fmod a:=Ij (by unfold fmod;rw[Ca _ (B9 _)]);by_cases h0:fmod a=0
 ·rw[h0,Cc] at ha;exact ha
 ·exfalso;have h1:bD Gn (fmod a * dV (fmod a))=1:=by rw[Gu p7,alq,h,xY,Nat.one_pow];rfl
  have h2:b9 (fmod a) (dV (fmod a))=1:=MA hf h0;rw[rh] at h2;have h3:bD Gn (fmod a * dV (fmod a))=bD Gn 1:=Gs (by rw[h2];rfl);rw[h1,alu p7] at h3;cases h3
def alv{a b}(h:bD Gn a=bD Gn b):Qi∣a - b:=by refine aly ?_;rw[Int.sub_eq_add_neg,DS p7,h];exact als p7 b
def alw{a b}(ha:okF a)(hb:okF b)(h:bD Gn a=bD Gn b):a=b:=by
 have:=SX (alv h)
 rwa [KS ha.1 ha.2,KS hb.1 hb.2] at this
def af9{α:Type}{f:α->Nat}{a}:∀{l:List α} (_:∀p∈l,f p=bD Gn (a p)) (k:Int),l.foldl (λx p=>x * f p%P) (bD Gn k)=bD Gn (k+cz (l.map a)):=by
 intro l
 induction l with
 |nil=>intro _ k;simp[cz]|cons p l ih=>intro h k;rw[wN,h p fR,<-DS p7,ih (λq hq=>h q (fi _ hq))];simp only[eo,cz];congr 1;omega
def Pm{α:Type}{f:α->Nat}{a}{l:List α}(h:∀p∈l,f p=bD Gn (a p)):l.foldl (λx p=>x * f p%P) 1=bD Gn (cz (l.map a)):=by have:=af9 h 0;rw[Xk,Ex] at this;exact this
def pC(a b:List Int):Int:=(bO a.length).foldl (λx j=>cP x (b9 (ai a j) (ai b j))) 0
def MB{α:Type}{f}:∀{l:List α} (x:Int),Qi∣l.foldl (λx j=>cP x (f j)) x - (x+cz (l.map f)):=by
 intro l
 induction l with
 |nil=>intro x;simp[cz]|cons j l ih=>intro x;have h1:=ih (cP x (f j));simp only[wN,eo,cz];have h2:Qi∣cP x (f j) - (x+f j):=Ij (by rw[w8,Ca _ (B9 _)]);have:=wI h1 h2;rw[show l.foldl (λx j=>cP x (f j)) (cP x (f j)) - (cP x (f j)+cz (l.map f))+(cP x (f j) - (x+f j))=l.foldl (λx j=>cP x (f j)) (cP x (f j)) - (x+(f j+cz (l.map f))) by omega] at this;exact this
def TG{α:Type}{f:α->Int}{l:List α}{x}(hx:okF x):okF (l.foldl (λx j=>cP x (f j)) x):=by
 rcases List.eq_nil_or_concat l with rfl|⟨l',a,rfl⟩
 ·exact hx
 ·rw[List.concat_eq_append,nY];exact Fg _ _
def afi(a b):okF (pC a b):=TG zx
def Ix(a b):Qi∣b9 a b - a * b:=Ij (by rw[rh,Ca _ (B9 _)])
def Tl(a b):Qi∣cP a b - (a+b):=Ij (by rw[w8,Ca _ (B9 _)])
def CI{a b c}(h:Qi∣a - b)(k:Qi∣b - c):Qi∣a - c:=by
 have:=wI h k
 rwa [(ag:a - b+(b - c)=a - c)] at this
def Tc(a b):Qi∣pC a b - cz ((bO a.length).map λj=>ai a j * ai b j):=by have h1:=MB (f:=λj=>b9 (ai a j) (ai b j)) (l:=bO a.length) 0;rw[Ex] at h1;exact CI h1 (Hg λj _=>Ix _ _)
def mI(ao row:List Int):Nat:=(bO ao.length).foldl (λx j=>x * bD (ai ao j).toNat (ai row j)%P) 1
def gK(ae:List (List Int))(s:List Int):List Int:=ae.map λr=>pC r s
def dG(s:List Int):List Int:=s.map λn=>((bD Gn n:Nat):Int)
def R9{s}{j}(hj:j<s.length):ai (dG s) j=((bD Gn (ai s j):Nat):Int):=by
 unfold dG;have:j<(s.map λn=>((bD Gn n:Nat):Int)).length:=by simpa using hj
 rw[fI this,fI hj,qa]
def Xp{s row}(hl:row.length=s.length):mI (dG s) row=bD Gn (pC row s):=by
 unfold mI;have hc:(dG s).length=s.length:=by unfold dG;simp
 rw[hc,Pm (a:=λj=>ai row j * ai s j) λj hj=>by rw[R9 (fY.1 hj),dL,<-Gu p7,yo]];refine(Pb ?_).symm;have:=Tc row s
 rwa [hl] at this
def aeD{s}:(dG s).all bE=ah:=by rw[dU];intro x hx;obtain⟨n,-,rfl⟩:=jo.1 hx;have:=zA p7 n;unfold bE;rw[dL,this,BT];have h:=(elem_iff.1 this).1;exact bX ag
def asi{ae}{owners aw y s}(h:fZ ae owners aw=(y,ah,0))(hs:s.length=bU ae):
 Qi∣cz ((bO ae.length).map λi=>ai y i * ai (gK ae s) i) - ai s 0:=by
 obtain⟨hp,-,h1,h2,h3,h4⟩:=yy h;obtain⟨p1,p2,p3,p4⟩:=qy hp;have hc:=ud hp;have e1:Qi∣cz ((bO ae.length).map λi=>ai y i * ai (gK ae s) i) - cz ((bO ae.length).map λi=>cz ((bO (bU ae)).map λk=>ai s k * (ai y i * ai (ae.getD i []) k))):=by
  refine Hg λi hi=>?_;have hi:=fY.1 hi;have hd:=Tc ae[i] s;rw[(p3 _ (iD hi)).1] at hd;have e:ai (gK ae s) i=pC ae[i] s:=by unfold gK;rw[fI (by simpa using hi),qa]
  rw[e,jV hi];have:cz ((bO (bU ae)).map λk=>ai s k * (ai y i * ai ae[i] k))=ai y i * cz ((bO (bU ae)).map λk=>ai ae[i] k * ai s k):=by rw[<-Kw];exact Qq λk _=>by rw[Int.mul_left_comm,yo (ai s k)]
  rw[this,<-yp];exact Et hd
 refine CI e1 ?_;rw[Zg];have e2:Qi∣cz ((bO (bU ae)).map λk=>cz ((bO ae.length).map λi=>ai s k * (ai y i * ai (ae.getD i []) k))) - cz ((bO (bU ae)).map λk=>if k=0 then ai s 0 else 0):=by
  refine Hg λk hk=>?_;have:=h4 k (fY.1 hk);rw[Kw];have e:(if k=0 then ai s 0 else 0)=ai s k * (if k=0 then 1 else 0):=by
   split
   ·rename_i q;subst q;rw[Int.mul_one]
   ·rw[Int.mul_zero]
  rw[e,<-yp];exact Et this
 refine CI e2 ?_;rw[Zk (p:=0) _ hc.1 λi _ bH=>aG bH,aF rfl,Int.sub_self];exact Int.dvd_zero _
def jh(owners:List Int)(az:Int):List Nat:=(bO owners.length).filter λi=>decide (ai owners i=az)
def eF(ae:List (List Int))(owners:List Int)(l:List Pr):List Int:=(fZ ae owners (l.map Pr.az)).1
def jF(y:List Int)(s:List (Int × Int)):Int:=s.foldl (λa p=>cP a (b9 (ai y p.1.toNat) p.2)) 0
def BE(ae:List (List Int))(ao:List Int)(p:Int × Int):Bool:=da p.2&&decide (bD Gn p.2=mI ao (ae.getD p.1.toNat []))
def mf(ae:List (List Int))(owners ao:List Int)(az:Int)(s:List (Int × Int)):Bool:=decide (s.map EV=(jh owners az).map λ(i:Nat)=>(i:Int))&&s.all (BE ae ao)
def oV(l:List Pr)(az:Int):Option Pr:=l.find? λp=>decide (p.az=az)
def eQ(c0:Int)(text:List UInt8)(l:List Pr):Nat:=sS (fN c0 text l) c0 text
def xR(ae:List (List Int))(owners:List Int)(ao:List Int)(text:List UInt8)(l:List Pr)(az:Int)(s:List (Int × Int))(d f:Int):Int × Int:=
 match oV l az with
 |none=>(0,1)
 |some x=>
  if !(da d&&da f) then (0,1)
  else if !mf ae owners ao az s then (0,340)
  else if ¬((bD Gn d:Nat):Int)=x.d∨¬((bD Gn f:Nat):Int)=x.e then (0,420)
  else (cP (cP d (b9 f (eC (ai ao 0) text l az))) (b9 (eQ (ai ao 0) text l) (jF (eF ae owners l) s)),0)
def wD(ae:List (List Int))(owners:List Int)(ao:List Int)(text:List UInt8)(l:List Pr)(x:Pr):Nat:=
 jC (ai ao 0) text l x * ((jh owners x.az).foldl (λa i=>a * bD (mI ao (ae.getD i [])) (ai (eF ae owners l) i * eQ (ai ao 0) text l)%P) 1)%P
def yP(ae:List (List Int))(owners:List Int)(ao:List Int)(text:List UInt8)(l:List Pr)(az z:Int):Bool × Int:=
 match oV l az with
 |none=>(av,1)
 |some x=>if !da z then (av,1) else (decide (bD Gn z=wD ae owners ao text l x),0)
def uU(key:Int)(text:List UInt8)(e s:Int):Bool:=bE key&&da e&&da s&&decide (e=((sS ((bD Gn s * bD key.toNat (-e)%P:Nat):Int) key text:Nat):Int))
def ahc(b):mb b<Q:=mr _ aK
def xJ{x}:da x=ah↔okF x:=by unfold da okF;simp
def Uq(aZ)(v):da ((si aZ v:Nat):Int)=ah:=by rw[xJ];have:=ahc (fQ aZ (dt v));unfold si okF;rw[Ag];omega
def asd{x n s}{text}{e}(he:e=sS ((bD Gn n:Nat):Int) ((bD Gn x:Nat):Int) text)(hs:okF s)(h:Qi∣s - (n+e * x)):uU ((bD Gn x:Nat):Int) text e s=ah:=by
 unfold uU;have hx:=zA p7 x;have e1:bE ((bD Gn x:Nat):Int)=ah:=by unfold bE;rw[dL,hx,BT];have h:=(elem_iff.1 hx).1;exact bX ag
 have e2:da ((e:Nat):Int)=ah:=by rw[he];exact Uq _ _
 have e3:bD Gn s * bD (bD Gn x) (-(e:Int))%P=bD Gn n:=by
  rw[<-Gu p7,<-DS p7];refine Pb ?_;have:s+x * -(e:Int) - n=s - (n+e * x):=by rw[Int.mul_neg,yo x];omega
  rw[this];exact h
 rw[e1,e2,xJ.2 hs,dL,e3,<-he];simp
end Go.NT
end
section
namespace Go.NT
def jU(f:Nat->Int)(a:List Int)(c k:Nat):List Int:=(bO a.length).map λj=>if c<=j/\j<k then f j else ai a j
section
variable {f:Nat->Int} {a own:List Int} {c k j r w:Nat} {t:List (List Int)}
def qY:(jU f a c k).length=a.length:=by unfold jU;simp
def CE(hj:j<a.length):ai (jU f a c k) j=if c<=j/\j<k then f j else ai a j:=by rw[fI (by rw[qY];exact hj)];unfold jU;rw[qa,zS]
def S4:jU f a c c=a:=by refine wc qY λj hj=>?_;rw[qY] at hj;rw[CE hj,aG ag]
def S3(hc:c<=k)(hk:k<a.length):(jU f a c k).set k (f k)=jU f a c (k+1):=by
 refine wc (by rw[mn,qY,qY]) λj hj=>?_;rw[mn,qY] at hj;rw[HY (by rw[qY];exact hk),CE hj,CE hj];by_cases y8:j=k
 ·subst y8;rw[aF rfl,aF ag]
 ·rw[aG y8];by_cases q:c<=j/\j<k
  ·rw[aF q,aF ag]
  ·rw[aG q,aG ag]
def aeY{n:Int}(hc:c<=a.length):jU (λj=>b9 (ai a j) n) a c a.length=gX c a n:=by
 unfold gX;refine wc (by rw[qY,dk,bu,eP,gE];omega) λj hj=>?_;rw[qY] at hj;rw[CE hj,Cw hc];by_cases q:j<c
 ·rw[aG ag,aF q]
 ·rw[aF ag,aG q];have hm:j - c<((a.drop c).map (b9 · n)).length:=by rw[bu,gE];omega
  rw[fI hm,qa,List.getElem_drop,fI hj];congr 2;omega
def px(c:Nat)(own:List Int)(r j:Nat)(t:List (List Int)):List (List Int):=t.mapIdx λi a=>if i<j/\i≠r then uc c a own else a
def SR:(px c own r j t).length=t.length:=by unfold px;simp
def vn(i:Nat):(px c own r j t)[i]?=t[i]?.map λa=>if i<j/\i≠r then uc c a own else a:=by unfold px;rw[aav]
def ael:px c own r 0 t=t:=by apply p8;intro i;rw[vn];cases t[i]?<;>simp
def aej:px c own r (r+1) t=px c own r r t:=by
 apply p8;intro i;rw[vn,vn];congr 1;funext a;by_cases h:i<r/\i≠r
 ·rw[aF h,aF ag]
 ·rw[aG h,aG ag]
def aei:(px c own r j t)[j]?=t[j]?:=by rw[vn];cases t[j]?<;>simp
def aeh:(px c own r j t)[r]?=t[r]?:=by rw[vn];cases t[r]?<;>simp
def aek{a:List Int}(hj:t[j]?=aa a)(hr:j≠r):(px c own r j t).set j (uc c a own)=px c own r (j+1) t:=by
 apply p8;intro i;rw[lR,SR];have hl:=(aP.1 hj).1;split
 ·rename_i e;subst e
  try rw[aF hl]
  rw[vn,hj,eJ,aF ⟨Nat.lt_succ_self _,hr⟩]
 ·rename_i e;rw[vn,vn];congr 1;funext a;by_cases h:i<j/\i≠r
  ·rw[aF h,aF ag]
  ·rw[aG h,aG ag]
def Iu{j:Nat}(hr:r<=j)(hj:j<=t.length)(hz:∀k,r<=k->k<j->ai (t.getD k []) c=0)(he:j<t.length->ai (t.getD j []) c≠0):nK t r c=if j=t.length then aq else aa j:=by
 cases hf:nK t r c with
 |none=>
  by_cases e:j=t.length
  ·rw[aF e]
  ·exact absurd (Tq hf ag hr) (he ag)
 |some k=>
  obtain⟨k1,k2,k3⟩:=AB hf;have hkj:j<=k:=by
   rcases dI k j with h|h
   ·exact absurd (hz k k2 h) k3
   ·exact h
  rw[aG ag];unfold nK at hf;rw[List.find?_eq_some_iff_getElem] at hf;obtain⟨-,i,hi,xr,ec⟩:=hf;rw[zS] at xr;subst xr;rcases dI j i with h|h
  ·have:=ec j h;rw[zS] at this;simp only[yk,Bool.and_eq_false_imp,decide_eq_true_eq,Bool.not_eq_false',decide_eq_true_eq] at this;exact absurd (this hr) (he ag)
  ·rw[Nat.le_antisymm h hkj]
def aqJ{pv:List Nat}{k:Nat}{b o:List Int}(hf:nK t pv.length c=aa k)(hb:t[k]?=aa b)(ho:t[pv.length]?=aa o):
 wy (t,pv) c=(px c (gX c b (dV (ai b c))) pv.length t.length (((t.set pv.length b).set k o).set pv.length (gX c b (dV (ai b c)))),pv++[c]):=by
 have hk:=(aP.1 hb).1;have hr:=(aP.1 ho).1;have gb:t.getD k []=b:=by rw[dP,hb];rfl
 have go:t.getD pv.length []=o:=by rw[dP,ho];rfl
 unfold wy;simp only[hf,gb,go];congr 1;generalize gX c b (dV (ai b c))=s;have e1:((t.set pv.length b).set k o).set pv.length s=(t.set k o).set pv.length s:=by
  by_cases e:k=pv.length
  ·subst e;simp
  ·rw[List.set_comm _ _ (λq=>e q.symm),Ch]
 rw[e1];apply p8;intro i;rw[aav,vn];by_cases e:i=pv.length
 ·subst e;rw[List.getElem?_set_self (by rw[mn];exact hr)];simp
 ·cases hi:((t.set k o).set pv.length s)[i]? with|none=>rfl|some x=>have:=(aP.1 hi).1;rw[mn,mn] at this;simp[e,this]
end
end Go.NT
end
section
namespace Go.NT
def Li(l:List Pr)(ld le:Int->Int):Prop:=∀p∈l,p.d=((bD Gn (ld p.az):Nat):Int)/\p.e=((bD Gn (le p.az):Nat):Int)
def Ur(aZ)(v):okF ((si aZ v:Nat):Int):=xJ.1 (Uq aZ v)
def JI(x)(aZ)(v):rK x (si aZ v)=bD x ((si aZ v:Nat):Int):=by unfold bD;rw[AH (Ur aZ v),dL]
def Wz{text}{l}{p}{d e}(hd:p.d=((bD Gn d:Nat):Int))(he:p.e=((bD Gn e:Nat):Int))(c0):
 jC c0 text l p=bD Gn (d+e * ((eC c0 text l p.az:Nat):Int)):=by
 unfold jC;rw[hd,he,dL,dL];unfold eC;rw[JI,<-Gu p7,<-DS p7]
def ak9{text}{l}{ld le}(h:Li l ld le)(c0):
 fN c0 text l=bD Gn (cz (l.map λp=>ld p.az+le p.az * ((eC c0 text l p.az:Nat):Int))):=by
 unfold fN;exact Pm λp hp=>Wz (h p hp).1 (h p hp).2 c0
def jn(owners sh:List Int)(k:Int):List (Int × Int):=(jh owners k).map λi=>((i:Nat),ai sh i)
def yf(y sh:List Int)(L:List Nat):Int:=cz (L.map λi=>ai y i * ai sh i)
def asx(y owners sh)(k):Qi∣jF y (jn owners sh k) - yf y sh (jh owners k):=by
 unfold jF jn yf;rw[List.foldl_map];have h1:=MB (f:=λi:Nat=>b9 (ai y i) (ai sh i)) (l:=jh owners k) 0;rw[Ex] at h1;have e:(λ(a:Int) (i:Nat)=>cP a (b9 (ai y (((i:Nat):Int)).toNat) (ai sh i)))=λa i=>cP a (b9 (ai y i) (ai sh i)):=by funext a i;rw[dL]
 simp only[e];exact CI h1 (Hg λi _=>Ix _ _)
def ara{α:Type}{f}{p}:∀{l:List α},cz ((l.filter p).map f)=cz (l.map λi=>if p i=ah then f i else 0):=by
 intro l
 induction l with
 |nil=>rfl|cons x l ih=>
  cases hp:p x
  ·rw[aas (by simp[hp]),ih];simp only[eo,cz,hp];simp
  ·rw[aat hp];simp only[eo,cz,hp,ih];simp
def ard{n v}:∀{aw:List Int},aw.Nodup->cz (aw.map λk=>if decide (n=k)=ah then v else 0)=if n∈aw then v else 0:=by
 intro aw
 induction aw with
 |nil=>intro _;rfl|cons k l ih=>
  intro h;obtain⟨h1,h2⟩:=EH.1 h;simp only[eo,cz,ih h2];by_cases hk:n=k
  ·subst hk;simp[h1]
  ·simp[hk]
def aod{owners y sh}{aw:List Int}(hn:aw.Nodup)(h0:∀i,ai owners i∉aw->ai y i=0):
 cz (aw.map λk=>yf y sh (jh owners k))=cz ((bO owners.length).map λi=>ai y i * ai sh i):=by
 have e1:(λk=>yf y sh (jh owners k))=λk=>cz ((bO owners.length).map λi=>if decide (ai owners i=k)=ah then ai y i * ai sh i else 0):=by funext k;exact ara
 rw[e1,Zg];refine Qq λi _=>?_;rw[ard hn];split
 ·rfl
 ·rename_i h;rw[h0 i h,HC]
def O7:∀{cE:Int} {aw:List Int},fW cE aw=true->(∀n∈aw,cE<n/\n<=63)/\aw.Nodup:=by
 intro cE aw
 induction aw generalizing cE with
 |nil=>intro _;exact⟨λn hn=>by simp at hn,.nil⟩|cons n l ih=>
  intro h;rw[fW] at h;simp only[bC,decide_eq_true_eq] at h;obtain⟨h1,h2⟩:=ih h.2;refine⟨λm hm=>?_,EH.2 ⟨λhm=>?_,h2⟩⟩
  ·rcases gO.1 hm with rfl|hm
   ·exact h.1
   ·have:=h1 m hm;exact⟨ag,this.2⟩
  ·have:=h1 n hm;omega
def jZ(ae:List (List Int))(owners ao:List Int)(text:List UInt8)(l:List Pr)(k d f:Int)(s:List (Int × Int)):Int:=
 cP (cP d (b9 f (eC (ai ao 0) text l k))) (b9 (eQ (ai ao 0) text l) (jF (eF ae owners l) s))
def akS{ae}{owners ao}{text}{l}{k d f}{s}:okF (jZ ae owners ao text l k d f s):=Fg _ _
def WV(ae)(owners ao)(text)(l)(k d f)(sh):
 Qi∣jZ ae owners ao text l k d f (jn owners sh k) - (d+f * ((eC (ai ao 0) text l k:Nat):Int)+((eQ (ai ao 0) text l:Nat):Int) * yf (eF ae owners l) sh (jh owners k)):=by
 unfold jZ;generalize ((eC (ai ao 0) text l k:Nat):Int)=b;generalize ((eQ (ai ao 0) text l:Nat):Int)=c;have h1:=asx (eF ae owners l) owners sh k;generalize jF (eF ae owners l) (jn owners sh k)=w at *
 generalize yf (eF ae owners l) sh (jh owners k)=v at *
 have h2:=Tl (cP d (b9 f b)) (b9 c w);have h3:=Tl d (b9 f b);have h4:=Ix f b;have h5:=Ix c w;have h6:Qi∣c * (w - v):=Et h1;rw[yp] at h6;have:=wI (wI (wI h2 h3) (wI h4 h5)) h6;refine(congrArg (Qi∣·) ?_).mp this;generalize f * b=x1;generalize c * w=x2;generalize c * v=x3;omega
def akU{ae}{owners y s}{text}{l}{ld le:Int->Int}(ha:fZ ae owners (l.map Pr.az)=(y,ah,0))(hs:s.length=bU ae):
 Qi∣cz ((l.map Pr.az).map λk=>jZ ae owners (dG s) text l k (ld k) (le k) (jn owners (gK ae s) k)) -
  (cz ((l.map Pr.az).map λk=>ld k+le k * ((eC (ai (dG s) 0) text l k:Nat):Int))+((eQ (ai (dG s) 0) text l:Nat):Int) * ai s 0):=by
 obtain⟨hp,hw,h1,h2,h3,h4⟩:=yy ha;obtain⟨p1,-,-,-⟩:=qy hp;have hn:=(O7 hw).2;have e1:=Hg (q:=Qi) (l:=l.map Pr.az) (f:=λk=>jZ ae owners (dG s) text l k (ld k) (le k) (jn owners (gK ae s) k))
  (g:=λk=>ld k+le k * ((eC (ai (dG s) 0) text l k:Nat):Int)+((eQ (ai (dG s) 0) text l:Nat):Int) * yf (eF ae owners l) (gK ae s) (jh owners k))
  λk _=>WV ae owners (dG s) text l k (ld k) (le k) (gK ae s)
 refine CI e1 ?_;rw[Zf,Kw];have hy:eF ae owners l=y:=by unfold eF;rw[ha]
 rw[hy,aod hn h3,<-p1];have h5:=asi ha hs;have h6:Qi∣((eQ (ai (dG s) 0) text l:Nat):Int) * (cz ((bO ae.length).map λi=>ai y i * ai (gK ae s) i) - ai s 0):=Et h5;rw[yp] at h6;refine(congrArg (Qi∣·) ?_).mp h6;omega
def aeB{s}(h:0<s.length):ai (dG s) 0=((bD Gn (ai s 0):Nat):Int):=R9 h
def abI(z):Qi∣z.foldl cP 0 - cz z:=by have:=MB (f:=λx:Int=>x) (l:=z) 0;rw[Ex,List.map_id'] at this;exact this
def abJ(z:List Int):okF (z.foldl cP 0):=TG (f:=λx:Int=>x) zx
def YD{ae}{owners y s}{text}{l}{ld le}(ha:fZ ae owners (l.map Pr.az)=(y,ah,0))(hs:s.length=bU ae)(hl:Li l ld le):
 uU (ai (dG s) 0) text ((eQ (ai (dG s) 0) text l:Nat):Int) (((l.map Pr.az).map λk=>jZ ae owners (dG s) text l k (ld k) (le k) (jn owners (gK ae s) k)).foldl cP 0)=ah:=by
 obtain⟨hp,-⟩:=yy ha;have jW:0<s.length:=by have:=(ud hp).1;omega
 have h1:=akU (text:=text) (ld:=ld) (le:=le) ha hs;have h2:=abI ((l.map Pr.az).map λk=>jZ ae owners (dG s) text l k (ld k) (le k) (jn owners (gK ae s) k));have h3:=CI h2 h1;have NQ:=ak9 (text:=text) hl (ai (dG s) 0);have e:(l.map Pr.az).map (λk=>ld k+le k * ((eC (ai (dG s) 0) text l k:Nat):Int))=l.map λp=>ld p.az+le p.az * ((eC (ai (dG s) 0) text l p.az:Nat):Int):=by rw[zU];rfl
 rw[e] at h3;have hc:eQ (ai (dG s) 0) text l=sS ((fN (ai (dG s) 0) text l:Nat):Int) (ai (dG s) 0) text:=rfl;rw[NQ] at hc;generalize eQ (ai (dG s) 0) text l=c at *
 generalize cz (l.map λp=>ld p.az+le p.az * ((eC (ai (dG s) 0) text l p.az:Nat):Int))=n at *
 rw[aeB jW] at *
 exact asd hc (abJ _) h3
def YB{ae}{s}{i}(h:i<ae.length):ai (gK ae s) i=pC (ae.getD i []) s:=by unfold gK;rw[fI (by simpa using h),qa,jV h]
def asf{ae}{owners s}{text}{l}{x}{d f}(hp:cR ae owners=0)(hs:s.length=bU ae)(hd:x.d=((bD Gn d:Nat):Int))(he:x.e=((bD Gn f:Nat):Int)):
 wD ae owners (dG s) text l x=bD Gn (jZ ae owners (dG s) text l x.az d f (jn owners (gK ae s) x.az)):=by
 obtain⟨p1,p2,p3,p4⟩:=qy hp;unfold wD;rw[Wz hd he,Pm (a:=λi=>ai (eF ae owners l) i * ai (gK ae s) i * ((eQ (ai (dG s) 0) text l:Nat):Int)) λi hi=>?_];rotate_left 1
 ·have hi:i<ae.length:=by rw[p1];unfold jh at hi;exact fY.1 (tS.1 hi).1
  rw[Xp (by rw[hs,jV hi];exact(p3 _ (iD _)).1),<-Gu p7,YB hi];congr 1;rw[yo (ai (eF ae owners l) i) (pC _ _),Int.mul_assoc]
 rw[<-DS p7];refine(Pb ?_).symm;have h1:=WV ae owners (dG s) text l x.az d f (gK ae s);have e:cz ((jh owners x.az).map λi=>ai (eF ae owners l) i * ai (gK ae s) i * ((eQ (ai (dG s) 0) text l:Nat):Int))=((eQ (ai (dG s) 0) text l:Nat):Int) * yf (eF ae owners l) (gK ae s) (jh owners x.az):=by unfold yf;rw[<-Kw];exact Qq λi _=>yo _ _
 rw[e];exact h1
def af0{ae}{owners s}{text}{l}{x}{d f z}(hp:cR ae owners=0)(hs:s.length=bU ae)(hd:x.d=((bD Gn d:Nat):Int))(he:x.e=((bD Gn f:Nat):Int))(hz:okF z):
 decide (bD Gn z=wD ae owners (dG s) text l x)=decide (z=jZ ae owners (dG s) text l x.az d f (jn owners (gK ae s) x.az)):=by
 rw[asf hp hs hd he,decide_eq_decide];exact⟨λh=>alw hz akS h,λh=>by rw[h]⟩
def akC{ae}{owners s}(hp:cR ae owners=0)(hs:s.length=bU ae)(k):mf ae owners (dG s) k (jn owners (gK ae s) k)=ah:=by
 obtain⟨p1,p2,p3,p4⟩:=qy hp;unfold mf jn;rw[bC];refine⟨by simp[zU,Function.comp_def],?_⟩;rw[dU];intro q hq;obtain⟨i,hi,rfl⟩:=jo.1 hq;have hi:i<ae.length:=by rw[p1];unfold jh at hi;exact fY.1 (tS.1 hi).1
 unfold BE;simp only[dL];have Bg:mI (dG s) (ae.getD i [])=bD Gn (pC (ae.getD i []) s):=Xp (by rw[hs,jV hi];exact(p3 _ (iD _)).1);rw[YB hi,xJ.2 (afi _ _),Bool.true_and];exact bX Bg.symm
def WR{l}{cE}(h:fm cE l=true){p}(hp:p∈l):oV l p.az=some p:=by
 induction l generalizing cE with
 |nil=>simp at hp|cons q l ih=>
  rw[fm] at h;simp only[bC,decide_eq_true_eq] at h;unfold oV;rw[List.find?_cons];rcases gO.1 hp with rfl|hp
  ·simp
  ·have FE:∀{l:List Pr} {cE:Int},fm cE l=ah->∀p∈l,cE<p.az:=by
    intro l
    induction l with
    |nil=>intro _ _ p hp;simp at hp|cons q l ih=>
     intro cE h p hp;rw[fm] at h;simp only[bC,decide_eq_true_eq] at h;rcases gO.1 hp with rfl|hp
     ·exact h.1.1.1.1.1.1
     ·have:=ih h.2 p hp;have:=h.1.1.1.1.1.1;omega
   have:=FE h.2 p hp;have bH:decide (q.az=p.az)=av:=cI ag;rw[bH];exact ih h.2 hp
def ajJ{ae}{owners s}{text}{l}{cE}(hp:cR ae owners=0)(hs:s.length=bU ae)(hl:fm cE l=ah){x}(hx:x∈l){d f}(hd:x.d=((bD Gn d:Nat):Int))(he:x.e=((bD Gn f:Nat):Int))(od:okF d)(of_:okF f):
 xR ae owners (dG s) text l x.az (jn owners (gK ae s) x.az) d f=(jZ ae owners (dG s) text l x.az d f (jn owners (gK ae s) x.az),0):=by
 unfold xR;rw[WR hl hx];simp only[xJ.2 od,xJ.2 of_,akC hp hs,hd,he];simp[jZ]
end Go.NT
end
section
namespace Go.Proofs.YtnfciiiohoafaaaGreatDoor
open Go.AE Go.NT
def Sw:o8 prims []:=λg h=>nomatch h
def amL(a n:Int)(h:ak):W.call 132 [im a,im n] h=aa (.ret (.tuple [im (fU a n),im (ma a)]),h):=by
 have ca:=Ki a;unfold fU ma;by_cases ha:bE a=ah
 ·rw[aF ha,aF ha];rw[ha] at ca;obtain⟨x,rfl,hx,x1,x2⟩:=Aw ha;have ce:=afL n;have aA:=Mz n;have hm:=AI n;have cp:=XR (bD x n) x (fmod n).toNat (by have:Q=1073741789:=rfl;omega) (nf.start x2 (by have:Q=1073741789:=rfl;omega));rw[hm] at cp;simp only[dL];clear ha hx x1 x2 aA hm;unfold im at *
  refine cC rfl abd rfl ?_;exact iQ @XV
 ·have mC:bE a=av:=by simpa using ha
  rw[aG ha,aG ha];rw[mC] at ca;unfold im at *
  refine cC rfl abd rfl ?_;exact iQ @XV
def amE(a b:Int)(h:ak):W.call 140 [im a,im b] h=aa (.ret (.tuple [im (jB a b),im (mO a b)]),h):=by
 have ca:=Ki a;have cb:=Ki b;unfold jB mO;by_cases ha:bE a=ah
 ·by_cases hb:bE b=ah
  ·rw[aF ⟨ha,hb⟩,aF ⟨ha,hb⟩];rw[ha] at ca;rw[hb] at cb;obtain⟨x,rfl,-,-,x2⟩:=Aw ha;obtain⟨y,rfl,-,-,y2⟩:=Aw hb;obtain⟨m1,m2,-⟩:=mul_tmod x2 y2;simp only[dL];have e1:((x:Nat):Int) * (y:Nat)=((x * y:Nat):Int):=(Int.natCast_mul _ _).symm;have e3:((x * y:Nat):Int).tmod 2147483579=((x * y%P:Nat):Int):=nU (x * y) 2147483579;rw[e1] at m1 m2;clear ha hb;unfold im at *
   refine cC rfl Ry rfl ?_;exact iQ @PD
  ·have gU:bE b=av:=(by simpa using hb);rw[aG (λq=>hb q.2),aG (λq=>hb q.2)];rw[ha] at ca;rw[gU] at cb;unfold im at *
   refine cC rfl Ry rfl ?_;exact iQ @PD
 ·have mC:bE a=av:=by simpa using ha
  rw[aG (λq=>ha q.1),aG (λq=>ha q.1)];rw[mC] at ca;unfold im at *
  refine cC rfl Ry rfl ?_;exact iQ @PD
def aoK:Tryz.f223.results.toList=[.tmp 2]:=au
def aoL:Tryz.f224.results.toList=[.tmp 4]:=au
def Yj:Tryz.f225.results.toList=[.cell 0 242]:=au
def GO:Tryz.f190.results.toList=[.cell 2 177]:=au
def anN(v:BitVec 32)(n:Nat)(h0:0<n)(hn:n<32)(h:ak):W.call 224 [aN v,im (n:Nat)] h=aa (.ret (aN (NT.dz v n)),h):=by
 have e1:IntKind.i64.wrap (32 - ((n:Nat):Int))=((32 - n:Nat):Int):=by rw[gf ag ag];omega
 have s1:∀t x y,cN al .shr t x y (aN v) (.v (.int .i64 (n:Nat)))=aa (aN (v>>>n)):=λt x y=>rM hn;have s2:∀t x y,cN al .shl t x y (aN v) (.v (.int .i64 ((32 - n:Nat):Int)))=aa (aN (v<<<(32 - n))):=λt x y=>qF ag;have e3:NT.dz v n=(v>>>n)|||(v<<<(32 - n)):=rfl
 rw[e3];unfold im;refine cC rfl Tryz.func224 rfl ?_
 repeat' (first|simp(maxSteps:=999999)(disch:=first|exact dZ|fail)only[gW,reduceIte,aX,aR,aoL,oz, *]|(refine dX ?_ ?_<;>(intro _;try omega))|refine ey Sw au ?_)
def asp{a0 a1 a2 a3}(h0:a0<256)(h1:a1<256)(h2:a2<256)(h3:a3<256):(((a0<<<24)|||(a1<<<16))|||(a2<<<8))|||a3=(a0 * 256+a1) * 256 * 256+a2 * 256+a3:=by
 have e0:a0<<<24=(a0<<<8)<<<16:=by rw[<-Ri]
 have e1:a1<<<16=(a1<<<8)<<<8:=by rw[<-Ri]
 have e2:(a0<<<8)<<<16=((a0<<<8)<<<8)<<<8:=by rw[<-Ri (a0<<<8) 8 8]
 rw[e0,e1,e2,<-Rj,<-Rj,<-Rj,<-Ls (show a1<2^8 from h1),<-Ls (show a2<2^8 from h2),<-Ls (show a3<2^8 from h3),Ae,Ae,Ae];omega
def asq{b}:(BitVec.ofNat 32 (di b 0).toNat<<<24|||BitVec.ofNat 32 (di b 1).toNat<<<16)|||BitVec.ofNat 32 (di b 2).toNat<<<8|||BitVec.ofNat 32 (di b 3).toNat=o6 b 0:=by
 have h0:=tM (di b 0);have h1:=tM (di b 1);have h2:=tM (di b 2);have h3:=tM (di b 3);unfold o6;rw[<-asp h0 h1 h2 h3];generalize (di b 0).toNat=a0 at *
 generalize (di b 1).toNat=a1 at *
 generalize (di b 2).toNat=a2 at *
 generalize (di b 3).toNat=a3 at *
 rw[BitVec.ofNat_or,BitVec.ofNat_or,BitVec.ofNat_or];have sh:∀a k:Nat,BitVec.ofNat 32 (a<<<k)=BitVec.ofNat 32 a<<<k:=λa k=>by apply BitVec.eq_of_toNat_eq;rw[BitVec.toNat_shiftLeft,BitVec.toNat_ofNat,BitVec.toNat_ofNat,Ae,Ae,Nat.mod_mul_mod]
 rw[sh,sh,sh]
def cvw(c)(h):mK al h 5 42 (bT c)=aa (aN (BitVec.ofNat 32 c.toNat),h):=by unfold bT;rw[S6];unfold aN;have:=tM c;rw[wrap32,BitVec.toNat_ofNat];congr 3
def Jp{h}{b}{i}(hi:i<b.length):aI al Gt h 5 (.elem 1 (aW b) i 0)=aa (bT (di b i)):=by rw[qw HT (row:=jJ (di b i)) (by rw[dW,aO hi];unfold di;rw[dP,aO hi];rfl)];rfl
def apU{t}{x y}{u}:cN al .shl t x y (aN u) (.v (.int .u64 24))=aa (aN (u<<<24))/\cN al .shl t x y (aN u) (.v (.int .u64 16))=aa (aN (u<<<16))/\cN al .shl t x y (aN u) (.v (.int .u64 8))=aa (aN (u<<<8)):=⟨qF (n:=24) aK,qF (n:=16) aK,qF (n:=8) aK⟩
def apw(b:List UInt8)(hb:4<=b.length)(k:Tok)(h:ak):W.call 223 [.list k 1 (aW b)] h=aa (.ret (aN (o6 b 0)),h):=by
 have ix:∀n:Nat,n<b.length->dy al 28 (.list k 1 (aW b)) (.v (.int .i64 (n:Nat)))=aa (.elem 1 (aW b) n 0):=λn hn=>by rw[a8 iO rN ag (by rw[bu];omega),dL]
 have i0:=ix 0 ag;have i1:=ix 1 ag;have i2:=ix 2 ag;have i3:=ix 3 ag;have l0:=Jp (h:=h) (ag:0<b.length);have l1:=Jp (h:=h) (ag:1<b.length);have l2:=Jp (h:=h) (ag:2<b.length);have l3:=Jp (h:=h) (ag:3<b.length);rw[<-asq];simp only[rQ,Int.natCast_one] at i0 i1;have i2:dy al 28 (.list k 1 (aW b)) (.v (.int .i64 2))=aa (.elem 1 (aW b) 2 0):=i2;have i3:dy al 28 (.list k 1 (aW b)) (.v (.int .i64 3))=aa (.elem 1 (aW b) 3 0):=i3;clear ix;refine cC rfl Tryz.func223 rfl ?_
 repeat' (first|simp(maxSteps:=999999)(disch:=first|exact dZ|fail)only[gW,reduceIte,aX,aR,aoK,cvw,apU,oz, *]|(refine dX ?_ ?_<;>(intro _;try omega))|refine ey Sw au ?_)
def aoH:Tryz.f210.results.toList=[.tmp 2]:=au
def apQ{t}{x y}{n}(hn:n<=4611686018427387903):cN al .shl t x y (.v (.int .u64 (n:Nat))) (.v (.int .u64 1))=aa (.v (.int .u64 ((2 * n:Nat):Int))):=by rw[LR aK];congr 3;show IntKind.u64.wrap (((n:Nat):Int) * 2)=_;unfold IntKind.wrap;simp[IntKind.signed,IntKind.bits];omega
def apV{t}{x y}{n}(hn:n<=4611686018427387903):cN al .shr t x y (.v (.int .i64 (n:Nat))) (.v (.int .u64 63))=aa (.v (.int .i64 0)):=by rw[Am aK];congr 3;show((n:Nat):Int).fdiv (2^63)=_;rw[Eu _ aK];omega
def asz{t}{x y}{n}(hn:n<=4611686018427387903):cN al .xor t x y (.v (.int .u64 ((2 * n:Nat):Int))) (.v (.int .u64 0))=aa (.v (.int .u64 ((2 * n:Nat):Int))):=by
 rw[Sf];congr 3;have e1:(BitVec.ofInt IntKind.u64.bits ((2 * n:Nat):Int)^^^BitVec.ofInt IntKind.u64.bits 0).toNat=2 * n:=by show(BitVec.ofInt 64 ((2 * n:Nat):Int)^^^0#64).toNat=2 * n;rw[BitVec.xor_zero,BitVec.toNat_ofInt];omega
 rw[e1];unfold IntKind.wrap;simp[IntKind.signed,IntKind.bits];omega
def uW{n}(hn:n<18446744073709551616):IntKind.u64.wrap ((n:Nat):Int)=((n:Nat):Int):=by unfold IntKind.wrap;simp[IntKind.signed,IntKind.bits];omega
def arT(n)(hn:n<=4611686018427387903)(h):W.call 210 [.v (.int .i64 (n:Nat))] h=aa (.ret (.v (.int .u64 (j9 n:Nat))),h):=by
 have e:j9 (n:Int)=2 * n:=by unfold j9;rw[aF ag,dL]
 rw[e];have e1:=uW (n:=n) ag;have e2:IntKind.u64.wrap 0=0:=rfl;have s1:=λt x y=>apQ (t:=t) (x:=x) (y:=y) hn;have s2:=λt x y=>apV (t:=t) (x:=x) (y:=y) hn;have s3:=λt x y=>asz (t:=t) (x:=x) (y:=y) hn;refine cC rfl Tryz.func210 rfl ?_;exact jL @aoH @qg
def L1:List FuncId:=[28,29,30,46,65,66,69,78,82,94,132,138,140,194,201,210,223,224]
noncomputable def Pd:FuncId->Option (List AV->ak->Option (AV × ak)):=pq W L1
noncomputable abbrev W1:=whole al Gt Pd
def ub:o8 Pd L1:=wX
def eX{t}(k):qJ t (bR k)=ah:=by cases k<;>rfl
def oQ:∀b:List UInt8,eH (aW b)=aW b
 | []=>rfl
 |c::b=>by show bV (jJ c)::eH (aW b)=_;rw[oQ b];rfl
def jz{n l t}:∀b:List UInt8,gj n l t (aW b)=ah
 | []=>rfl
 |c::b=>by show(aU n l t (jJ c)&&gj n l t (aW b))=ah;rw[jz b];rfl
def I8:∀l:List Int,eH (ints l)=ints l
 | []=>rfl
 |c::b=>by show bV (xK c)::eH (ints b)=_;rw[I8 b];rfl
def nh{n l t}:∀b:List Int,gj n l t (ints b)=ah
 | []=>rfl
 |c::b=>by show(aU n l t (xK c)&&gj n l t (ints b))=ah;rw[nh b];rfl
section
variable (a b n x:Int)
def abF:∀h,W1.call 28 [im a,im b] h=aa (.ret (im (cP a b)),h):=bm (L:=L1) rfl rfl rfl (abH a b _) rfl rfl
def ajX:∀h,W1.call 29 [im a,im b] h=aa (.ret (im (b9 a b)),h):=bm (L:=L1) rfl rfl rfl (OL a b _) rfl rfl
def aiA:∀h,W1.call 201 [im n] h=aa (.ret (.tuple [im (if fmod n=0 then 0 else dV n),im (if fmod n=0 then 90 else 0)]),h):=bm (L:=L1) rfl rfl rfl (aiC n _) rfl rfl
def ar1:∀h,W1.call 46 [im x] h=aa (.ret (.v (.bool (bE x))),h):=bm (L:=L1) rfl rfl rfl (KD x _) rfl rfl
def agt:∀h,W1.call 69 [im a,im b] h=aa (.ret (.tuple [im (jB a b),im (mO a b)]),h):=bm (L:=L1) rfl rfl rfl (agx a b _) rfl rfl
def agy:∀h,W1.call 30 [im a,im n] h=aa (.ret (.tuple [im (fU a n),im (ma a)]),h):=by obtain⟨h',hc,-⟩:=agB a n ⟨[],[],0,[]⟩;exact bm (L:=L1) rfl rfl rfl hc rfl rfl
def alZ:∀h,W1.call 65 [im a,im b] h=aa (.ret (im (cP a b)),h):=bm (L:=L1) rfl rfl rfl (al4 a b _) rfl rfl
def anI:∀h,W1.call 66 [im a,im b] h=aa (.ret (im (b9 a b)),h):=bm (L:=L1) rfl rfl rfl (Pv a b _) rfl rfl
def amZ:∀h,W1.call 194 [im n] h=aa (.ret (.tuple [im (if fmod n=0 then 0 else dV n),im (if fmod n=0 then 90 else 0)]),h):=bm (L:=L1) rfl rfl rfl (am4 n _) rfl rfl
def apq:∀h,W1.call 94 [im x] h=aa (.ret (.v (.bool (bE x))),h):=bm (L:=L1) rfl rfl rfl (Ki x _) rfl rfl
def amy:∀h,W1.call 140 [im a,im b] h=aa (.ret (.tuple [im (jB a b),im (mO a b)]),h):=bm (L:=L1) rfl rfl rfl (amE a b _) rfl rfl
def amF:∀h,W1.call 132 [im a,im n] h=aa (.ret (.tuple [im (fU a n),im (ma a)]),h):=bm (L:=L1) rfl rfl rfl (amL a n _) rfl rfl
end
def arS(n)(hn:n<=4611686018427387903):∀h,W1.call 210 [.v (.int .i64 (n:Nat))] h=aa (.ret (.v (.int .u64 (j9 n:Nat))),h):=bm (L:=L1) rfl rfl rfl (arT n hn _) rfl rfl
def v8(v)(n)(h0:0<n)(hn:n<32):∀h,W1.call 224 [aN v,im (n:Nat)] h=aa (.ret (aN (NT.dz v n)),h):=bm (L:=L1) rfl rfl rfl (anN v n h0 hn _) rfl rfl
def apv(b)(hb:4<=b.length)(k):∀h,W1.call 223 [.list k 1 (aW b)] h=aa (.ret (aN (o6 b 0)),h):=
 bm (L:=L1) (cd:=[.list (bR k) 1 (aW b)]) rfl (by rw[bV,aC,oQ];rfl) (by simp[aU,aL,eX,jz]) (apw b hb _ _) rfl rfl
def ago(aZ b)(k)(hb:b.length<=1099511620000)(ht:aZ.length<=1099511620000):∀h,W1.call 78 [.v (.string (bs aZ)),.list k 1 (aW b)] h=aa (.ret (im (mb (fQ aZ b):Nat)),h):=by obtain⟨h',hc,-⟩:=ags aZ b (.list (bR k) 1 (aW b)) ⟨[],[],0,[]⟩ (dE.list (yD _) λ_=>rfl) hb ht;exact bm (L:=L1) (cd:=[.v (.string (bs aZ)),.list (bR k) 1 (aW b)]) rfl (by rw[bV,bV,aC.eq_1,oQ];rfl) (by simp[aU,aL,eX,jz]) hc rfl rfl
def sv(s:List UInt8):AV:=.v (.string (bs s))
def aH(k n:Int)(s:List UInt8)(t:Tok)(sz:Nat)(ae:List (List AV)):List AV:=[im k,im n,sv s,.list t sz ae]
inductive cG:Vl->List AV->Prop
 |int (n:Int) (hn:0<=n/\n<=4611686018427387903):cG (.int n) (aH 1 n [] .nil 0 [])
 |text (s:List UInt8) (hs:s.length<=1099511620000):cG (.text s) (aH 2 0 s .nil 0 [])
 |list (l:List Vl) (k:Tok) (sz:Nat) (ae:List (List AV)) (hl:ae.length=l.length) (hs:ae≠[]->sz=4) (hm:ae.length<=1000000) (h:∀(i:Nat) v r,l[i]?=aa v->ae[i]?=aa r->cG v r):cG (.list l) (aH 3 0 [] k sz ae)
def cG.len{v}{r}(h:cG v r):r.length=4:=by cases h<;>rfl
def jE{k n}{s}{t}{sz}{ae}:(AV.agg (aH k n s t sz ae)).b8=aa (aH k n s t sz ae):=rfl
def cG.cells{v}{r}(h:cG v r):(AV.agg r).b8=aa r:=by cases h<;>rfl
def GS:Tryz.f207.results.toList=[.tmp 2,.tmp 3]:=au
def LD:gx al 96=aa ah:=au
def oY:dm al 96=aa 4:=au
def RT:gx al 94=aa av:=au
def ag9:gx al 9=aa av:=au
def ag4:gx al 4=aa av:=au
def aro:dm al 246=aa 4:=au
section
variable {H:ak} {b:Nat} {k n:Int} {s:List UInt8} {t:Tok} {sz:Nat} {ae:List (List AV)}
def rF(hb:H.boxes[b]?=aa (aH k n s t sz ae)):aI al Gt H 3 (.ptr (.box b) 0)=aa (.v (.int .i64 k)):=by rw[lP eM hb];rfl
def uC(hb:H.boxes[b]?=aa (aH k n s t sz ae)):aI al Gt H 3 (.ptr (.box b) 1)=aa (.v (.int .i64 n)):=by rw[lP eM hb];rfl
def sN(hb:H.boxes[b]?=aa (aH k n s t sz ae)):aI al Gt H 9 (.ptr (.box b) 2)=aa (.v (.string (bs s))):=by rw[lP ag9 hb];rfl
def nu(hb:H.boxes[b]?=aa (aH k n s t sz ae)):aI al Gt H 94 (.ptr (.box b) 3)=aa (.list t sz ae):=by rw[lP RT hb];rfl
def oU{r:List AV}(hr:r.length=4)(hb:H.boxes[b]?=aa r):aI al Gt H 96 (.ptr (.box b) 0)=aa (.agg r):=by rw[ja LD oY hb ag,iC,<-hr,fA]
end
def fj:(∀b,gQ al 96 (.ptr (.box b) 0) 0=aa (.ptr (.box b) 0))/\(∀b,gQ al 96 (.ptr (.box b) 0) 1=aa (.ptr (.box b) 1))/\(∀b,gQ al 96 (.ptr (.box b) 0) 2=aa (.ptr (.box b) 2))/\∀b,gQ al 96 (.ptr (.box b) 0) 3=aa (.ptr (.box b) 3):=⟨λ_=>au,λ_=>au,λ_=>au,λ_=>au⟩
def b4(a b c:Bool):List AV:=[.v (.bool av),.v (.bool a),.v (.bool b),.v (.bool c)]
def LJ(a b c):mw al 246 [(1,.v (.bool a)),(2,.v (.bool b)),(3,.v (.bool c))]=aa (.agg (b4 a b c)):=au
def asD:(iN al 246).bind AV.b8=aa (b4 av av av):=au
def wE:(iN al 96).bind AV.b8=aa (aH 0 0 [] .nil 0 []):=au
def Qf(H:ak)(a b c):ct al (H.push (b4 av av av)) 246 (.ptr (.box H.boxes.length) 0) (.agg (b4 a b c))=aa (H.push (b4 a b c)):=lq rfl aro rfl rfl
def Ok{b n}{k}(hn:n<4):dy al 246 (.ptr (.box b) 0) (.v (.int k (n:Nat)))=aa (.ptr (.box b) n):=by have h1:al.underlying 246=aa (.array 4 4):=Tryz.underlying246;have sz4:dm al 4=aa 1:=au;unfold dy;simp only[h1,sz4];rw[aF ⟨ag,by omega⟩];simp
def Ol{b}:dy al 246 (.ptr (.box b) 0) (.v (.int .i64 1))=aa (.ptr (.box b) 1)/\dy al 246 (.ptr (.box b) 0) (.v (.int .i64 2))=aa (.ptr (.box b) 2)/\dy al 246 (.ptr (.box b) 0) (.v (.int .i64 3))=aa (.ptr (.box b) 3):=⟨Ok (n:=1) aK,Ok (n:=2) aK,Ok (n:=3) aK⟩
def ldb{H}{b}{x y z}(hb:H.boxes[b]?=aa (b4 x y z)):aI al Gt H 4 (.ptr (.box b) 1)=aa (.v (.bool x))/\aI al Gt H 4 (.ptr (.box b) 2)=aa (.v (.bool y))/\aI al Gt H 4 (.ptr (.box b) 3)=aa (.v (.bool z)):=by refine⟨?_,?_,?_⟩<;>(rw[lP ag4 hb];rfl)
def On{H:ak}{x}{p q r}:aI al Gt ((H.push x).push (b4 p q r)) 4 (.ptr (.box (H.push x).boxes.length) 1)=aa (.v (.bool p))/\aI al Gt ((H.push x).push (b4 p q r)) 4 (.ptr (.box (H.push x).boxes.length) 2)=aa (.v (.bool q))/\aI al Gt ((H.push x).push (b4 p q r)) 4 (.ptr (.box (H.push x).boxes.length) 3)=aa (.v (.bool r)):=ldb (a9 _ _)
def Qp{H:ak}{v}{r}(hv:cG v r):ct al (H.push (aH 0 0 [] .nil 0 [])) 96 (.ptr (.box H.boxes.length) 0) (.agg r)=aa (H.push r):=lq hv.cells oY hv.len rfl
def Gd{H}{ae}{i}{r}(hl:r.length=4)(hr:ae[i]?=aa r):aI al Gt H 96 (.elem 4 ae i 0)=aa (.agg r):=by rw[Jr LD oY hr ag,iC,<-hl,fA]
def Mj:∀l m:List Vl,gF (l++m)=max (gF l) (gF m)
 | [],m=>by simp[gF]
 |v::l,m=>by rw[kj,gF,gF,Mj l m,Nat.max_assoc]
def Mk{l:List Vl}{i}{v}(h:l[i]?=aa v):gF (l.take (i+1))=max (gF (l.take i)) (fT v):=by rw[fH h,Mj];simp[gF]
def Ml(l)(i):gF (l.take i)<=gF l:=by have:=Mj (l.take i) (l.drop i);rw[wP] at this;omega
def Ta{l}{i:Nat}{v}(h:l[i]?=aa v):fT v<=gF l:=by have h1:=Mk h;have h2:=Ml l (i+1);omega
def agb{v:Vl}{r:List AV}(hv:cG v r):fT v<=100->∀h,∃h',W1.call 207 [.agg r] h=aa (.ret (.tuple [.v (.int .i64 (fT v:Nat)),.v (.bool ah)]),h')/\Ext h h':=by
 have u9:=Cr;have u94:=oH;have z:=asD
 induction hv with
 |int n hn=>
  intro _ h;refine gP rfl RD rfl ?_;show bG _ _ _ _ (yL _ _ _ _ (.ret (.tuple [.v (.int .i64 0),.v (.bool ah)])) _)
  repeat' (first|simp(maxSteps:=999999)(disch:=first|exact dZ|fail)only[gW,reduceIte,aX,aR,GS,LJ,Qf,jE,rF,uC,sN,nu,Ol,fj,On,jI,rQ,decide_true, *]|refine dX ?_ ?_<;>(intro _;try omega))
  all_goals exact⟨_,rfl,(Ext.push _ _).trans (Ext.push _ _)⟩
 |text s hs=>
  intro _ h;refine gP rfl RD rfl ?_;show bG _ _ _ _ (yL _ _ _ _ (.ret (.tuple [.v (.int .i64 0),.v (.bool ah)])) _)
  repeat' (first|simp(maxSteps:=999999)(disch:=first|exact dZ|fail)only[gW,reduceIte,aX,aR,GS,LJ,Qf,jE,rF,uC,sN,nu,Ol,fj,On,jI,rQ,decide_true, *]|refine dX ?_ ?_<;>(intro _;try omega))
  all_goals exact⟨_,rfl,(Ext.push _ _).trans (Ext.push _ _)⟩
 |list l k sz ae hl hs hm hr ih=>
  intro hd h;have kd:=aj.mk hd;have kr:=aj.mk hr;have kih:=aj.mk ih;have kh:=aj.mk hs;have kl:=aj.mk hl;refine gP rfl RD rfl ?_;clear hr ih hs hd hl;by_cases h0:(ae.length:Int)=0
  all_goals
   repeat' (first|simp(maxSteps:=999999)(disch:=first|exact dZ|fail)only[gW,reduceIte,aX,aR,GS,LJ,Qf,jE,rF,uC,sN,nu,Ol,fj,On,rQ,decide_true, *]|refine dX ?_ ?_<;>(intro _;try omega))
   refine cq (λm e H=>∃i:Nat,i<=ae.length/\m=ae.length - i/\e.get 55=.list k sz ae/\e.get 56=.v (.int .i64 (ae.length:Nat))/\e.get 57=.v (.int .i64 i)/\e.get 2=.v (.int .i64 (gF (l.take i):Nat))/\e.defers=[]/\Ext h H) ?_ ae.length _ _ ?_;rotate_left 1
   ·refine⟨0,cr _,rfl,?_,?_,?_,?_,?_,(Ext.push _ _).trans (Ext.push _ _)⟩<;>(first|assumption|(simp only[gW,reduceIte,aX,aR]<;>first|rfl|(rw[h0])))
   rintro m e H ⟨i,hi,rfl,g55,g56,g57,g2,hd,hX⟩;have kX:=aj.mk hX;clear hX;by_cases aA:i<ae.length
   ·obtain⟨r,hr⟩:∃r,ae[i]?=aa r:=⟨_,aO aA⟩;obtain⟨v,hv⟩:∃v,l[i]?=aa v:=⟨_,aO (by have:=kl.out;omega)⟩;have dF:=kr.out i v r hv hr;have h4:sz=4:=kh.out (by rintro rfl;simp at aA);subst h4;have vE:fT (.list l)=gF l+1:=rfl;have hdv:=Ta hv;have AU:=Ml l i;have FA:=kd.out;obtain⟨H2,c1,x1⟩:=kih.out i v r hv hr ag (H.push r);have ld:=Gd (H:=H) dF.len hr;have st:=Qp (H:=H) dF;have l2:aI al Gt (H.push r) 96 (.ptr (.box H.boxes.length) 0)=aa (.agg r):=oU dF.len (a9 _ _);have zz:=wE;have s96:=oY;have kX2:=aj.mk (kX.out.trans ((Ext.push H r).trans x1));have kst:=aj.mk (Mk hv);have FI:(i:Int)<(ae.length:Int):=(by omega);clear kX dF hv hr x1 vE FA;have pK:(if ((gF (l.take i):Nat):Int)<((fT v:Nat):Int) then ((fT v:Nat):Int) else ((gF (l.take i):Nat):Int))=((max (gF (l.take i)) (fT v):Nat):Int):=by split<;>omega
    repeat' (first|simp(maxSteps:=999999)(disch:=first|exact dZ|fail)only[gW,reduceIte,aX,aR,GS,a8,Bt, *]|refine dX ?_ ?_<;>(intro _;try omega))
    all_goals exact⟨ae.length - (i+1),by omega,i+1,by omega,rfl,by trivial,by trivial,by simp,by rw[kst.out],by trivial,kX2.out⟩
   ·have:i=ae.length:=(by omega);subst this;have FA:=kd.out;have e1:l.take ae.length=l:=(by rw[kl.out];exact fA);rw[e1] at g2;have vE:fT (.list l)=gF l+1:=rfl;rw[vE] at FA ⊢;have e2:((gF l+1:Nat):Int)=((gF l:Nat):Int)+1:=by omega
    repeat' (first|simp(maxSteps:=999999)(disch:=first|exact dZ|fail)only[gW,reduceIte,aX,aR,GS, *]|refine dX ?_ ?_<;>(intro _;try omega))
    all_goals exact⟨_,rfl,kX.out⟩
def PK:Tryz.f209.results.toList=[.tmp 4]:=au
def HU{H}{k}{n0 sz}{es new}{x}{t1}(h1:(∃e,al.underlying t1=aa (.slice e))∨al.underlying t1=aa .string)(hx:me H 1 x=aa (aW new))(bH:new≠[])(hl:es.length+new.length<=8796093022208)(hs:sz=1∨(es=[]/\k=.nil))(hk:dj n0 H k):
 gq al H #[28,t1] (.list k sz (aW es)) x=aa (.list (.free H.tn) 1 (aW (es++new)),H.app k):=by
 obtain⟨i,q1,q2,q3,q4⟩:=Bn;have hb:=pg hl q3;have:=E6 (t0:=28) (n0:=n0) (i:=i) (sz:=sz) (es:=aW es) (new:=aW new) iO h1 q1 ag (by rw[q2];exact q4) (by rw[q2];exact hx) (by simpa using bH)
  (by rw[bu,bu];omega) (by rw[bu,bu];omega) (hs.imp (λq=>q.trans q2.symm) λq=>⟨by rw[q.1];rfl,q.2⟩) hk
 rw[this,q2];simp[aW]
def yA{H}{k k'}{n0 sz}{es}{c}(hl:es.length<8796093022208)(hs:sz=1∨(es=[]/\k=.nil))(hk:dj n0 H k):
 gq al H #[28,28] (.list k sz (aW es)) (.list k' 1 [[bT c]])=aa (.list (.free H.tn) 1 (aW (es++[c])),H.app k):=
 HU (new:=[c]) (.inl ⟨_,iO⟩) rfl bh (by simp;omega) hs hk
def yC(c):fC al 28 1 [(0,bT c)]=aa (.list .tight 1 [[bT c]]):=au
def aku(c):c%256|||128=c%128+128:=by
 have h:∀d:Fin 256,(d.val|||128)=d.val%128+128:=by decide+kernel
 have:=h ⟨c%256,mr _ aK⟩;simp only at this;rw[this];omega
def akv{t}{x y}(c):cN al .or t x y (.v (.int .u8 (IntKind.u8.wrap (c:Nat)))) (.v (.int .u8 128))=aa (bT (UInt8.ofNat (c%128+128))):=by
 have hw:IntKind.u8.wrap ((c:Nat):Int)=((c%256:Nat):Int):=by unfold IntKind.wrap;simp[IntKind.signed,IntKind.bits]
 have ht:(UInt8.ofNat (c%128+128)).toNat=c%128+128:=by have:(UInt8.ofNat (c%128+128)).toNat=(c%128+128)%256:=UInt8.toNat_ofNat';omega
 unfold bT;rw[hw,LQ,ht];congr 3;have e1:BitVec.ofInt IntKind.u8.bits ((c%256:Nat):Int)=BitVec.ofNat 8 (c%256):=by apply BitVec.eq_of_toNat_eq;show(BitVec.ofInt 8 ((c%256:Nat):Int)).toNat=(BitVec.ofNat 8 (c%256)).toNat;rw[BitVec.toNat_ofInt,BitVec.toNat_ofNat];omega
 have e3:(BitVec.ofInt IntKind.u8.bits ((c%256:Nat):Int)|||BitVec.ofInt IntKind.u8.bits 128).toNat=c%128+128:=by rw[e1];show(BitVec.ofNat 8 (c%256)|||128#8).toNat=_;rw[BitVec.toNat_or,BitVec.toNat_ofNat,nb (ag:c%256<2^8)];exact aku c
 rw[e3,Mt ag ag]
def apW{t}{x y}{n}:cN al .shr t x y (.v (.int .u64 (n:Nat))) (.v (.int .u64 7))=aa (.v (.int .u64 ((n/128:Nat):Int))):=by rw[Am aK];congr 3;show((n:Nat):Int).fdiv (2^7)=_;rw[Eu _ aK];simp
def nw:∀(k u:Nat),(fg k u).length<=k+1
 |0,u=>by simp[fg]
 |k+1,u=>by
  rw[fg];split
  ·simp
  ·have:=nw k (u/128);simp;omega
def OS(u:Nat)(hu:u<18446744073709551616)(es:List UInt8)(k:Tok)(sz n0:Nat)(h:ak)(ho:cA h=ah)(hk:dj n0 h k)(hn:n0<=h.tn)(hs:sz=1∨(es=[]/\k=.nil))(hl:es.length<=1099511627776):
 ∃r h',W1.call 209 [.list k sz (aW es),.v (.int .u64 (u:Nat))] h=aa (r,h')/\∃t,r=.ret (.list t 1 (aW (es++fg 9 u)))/\Grown n0 h h' t:=by
 have kG:=aj.mk (Grown.refl hk ho);clear hk ho;refine df rfl Tryz.func209 rfl ?_;refine br @PK ?_;refine cq (λm e H=>∃(j:Nat) (t:Tok) (cur:List UInt8) (s:Nat),j<=9/\m<2 * 128^j/\cur++fg j m=es++fg 9 u/\cur.length+j=es.length+9/\(s=1∨(cur=[]/\t=.nil))/\e.get 0=.list t s (aW cur)/\e.get 1=.v (.int .u64 (m:Nat))/\e.defers=[]/\Grown n0 h H t) ?_ u _ _ ?_;rotate_left 1
 ·exact⟨9,k,es,sz,aJ _,by simpa using hu,rfl,rfl,hs,by exact gR,by exact gR,by exact gR,kG.out⟩
 clear kG hu;rintro m e H ⟨j,t,cur,s,hj,hm,hq,dC,hs,g0,g1,hd,hG⟩;have kG:=aj.mk hG;have can:=aj.mk hG.can;clear hG;by_cases Fk:m<128
 ·have FQ:=WB (k:=j) Fk;rw[FQ] at hq;have uv:bT (UInt8.ofNat m)=.v (.int .u8 ((m:Nat):Int)):=by have:(UInt8.ofNat m).toNat=m%256:=UInt8.toNat_ofNat';unfold bT;rw[this,nb ag]
  have dM:¬((128:Int)<=((m:Nat):Int)):=by omega
  have ap:=yA (k':=.tight) (c:=UInt8.ofNat m) (ag:cur.length<8796093022208) hs can.out;rw[hq] at ap;have bl:=yC (UInt8.ofNat m);rw[uv] at ap bl;clear hm Fk FQ hq uv;refine bM @PK @CF ?_;exact⟨_,_,rfl,_,rfl,kG.out.app hn⟩
 ·obtain⟨j',rfl⟩:∃j',j=j'+1:=⟨j - 1,by
   rcases j with _|j
   ·omega
   ·omega⟩
  have FQ:=WC (k:=j') (ag:128<=m);rw[FQ] at hq;have dM:(128:Int)<=((m:Nat):Int):=by omega
  have bl:=yC (UInt8.ofNat (m%128+128));have ap:=yA (k':=.tight) (c:=UInt8.ofNat (m%128+128)) (ag:cur.length<8796093022208) hs can.out;have kq:=aj.mk hq;have km:=aj.mk hm;clear FQ hq hm;refine bJ @PK @CF @akv @apW ?_;refine⟨m/128,by omega,j',.free H.tn,cur++[UInt8.ofNat (m%128+128)],1,by omega,?_,?_,by simp;omega,.inl rfl,by trivial,by trivial,by trivial,kG.out.app hn⟩
  ·have:=km.out;rw[Ad] at this;omega
  ·rw[rR];exact kq.out
def aoC:Tryz.f184.results.toList=[.tmp 0]:=au
def PJ:Tryz.f208.results.toList=[.tmp 4]:=au
def PM:Tryz.f211.results.toList=[.tmp 4]:=au
def D3:Tryz.f212.results.toList=[.tmp 5]:=au
def gT:AV:=.v .nilFunc
def uV(a:Nat):List AV:=[gT,.func (.func 208) [] [],.func (.func 211) [] [],.func (.func 212) [] [.ptr (.box a) 0]]
def ark:dm al 207=aa 1:=au
def abO:gx al 207=aa av:=au
def abP:gx al 210=aa av:=au
def arl:dm al 210=aa 1:=au
def acs:mw al 237 []=aa (.agg [gT,gT,gT,gT]):=au
def asA:(iN al 210).bind AV.b8=aa [.v (.pointer aq)]:=au
def Jl{b n}{k}(hn:n<4):dy al 237 (.ptr (.box b) 0) (.v (.int k (n:Nat)))=aa (.ptr (.box b) n):=by have h1:al.underlying 237=aa (.array 4 209):=Tryz.underlying237;have sz:dm al 209=aa 1:=au;unfold dy;simp only[h1,sz];rw[aF ⟨ag,by omega⟩];simp
def V1{b}:dy al 237 (.ptr (.box b) 0) (.v (.int .i64 1))=aa (.ptr (.box b) 1)/\dy al 237 (.ptr (.box b) 0) (.v (.int .i64 2))=aa (.ptr (.box b) 2)/\dy al 237 (.ptr (.box b) 0) (.v (.int .i64 3))=aa (.ptr (.box b) 3):=⟨Jl (n:=1) aK,Jl (n:=2) aK,Jl (n:=3) aK⟩
def Ay{r}{o}:gQ al 209 (.ptr r o) 0=aa (.ptr r o):=au
def stw{h:ak}{c q}{k}{f}{a b}(hc:c.length=4)(hk:k<4):ct al ((h.push c).push q) 207 (.ptr (.box h.boxes.length) k) (.func f a b)=aa ((h.push (c.set k (.func f a b))).push q):=by rw[gL (xs:=[.func f a b]) rfl ark (bg (a9 _ _)) rfl ag];congr 1;rw[alR (by rw[cK];omega),oA];congr 2;unfold eE;rw[List.set_eq_take_append_cons_drop,aF ag];simp
def V4{H}{a b}(hb:H.boxes[a]?=aa [.ptr (.box b) 0]):aI al Gt H 210 (.ptr (.box a) 0)=aa (.ptr (.box b) 0):=by rw[lP abP hb];rfl
def aiT{h:ak}{c}:aI al Gt ((h.push c).push [.ptr (.box h.boxes.length) 0]) 210 (.ptr (.box (h.push [gT,gT,gT,gT]).boxes.length) 0)=aa (.ptr (.box h.boxes.length) 0):=by refine V4 ?_;rw[cK,<-cK h c];exact a9 _ _
def aqv{H:ak}{b}:ct al (H.push [.v (.pointer aq)]) 210 (.ptr (.box H.boxes.length) 0) (.ptr (.box b) 0)=aa (H.push [.ptr (.box b) 0]):=lq rfl arl rfl rfl
def asv(h:ak):W1.call 184 [] h=aa (.ret (.ptr (.box h.boxes.length) 0),(h.push (uV (h.boxes.length+1))).push [.ptr (.box h.boxes.length) 0]):=by
 have z:=asA;have cs:(AV.agg [gT,gT,gT,gT]).b8=aa [gT,gT,gT,gT]:=rfl;have e:uV (h.boxes.length+1)=(([gT,gT,gT,gT].set 1 (.func (.func 208) [] [])).set 2 (.func (.func 211) [] [])).set 3 (.func (.func 212) [] [.ptr (.box (h.push [gT,gT,gT,gT]).boxes.length) 0]):=by rw[cK];rfl
 rw[e];have l0:[gT,gT,gT,gT].length=4:=rfl;have l1:([gT,gT,gT,gT].set 1 (.func (.func 208) [] [])).length=4:=rfl;have l2:(([gT,gT,gT,gT].set 1 (.func (.func 208) [] [])).set 2 (.func (.func 211) [] [])).length=4:=rfl;refine cC rfl Tryz.func184 rfl ?_;exact mP @aoC @acs @aqv (ar @aiT (ar @V1 (ar @Ay @stw)))
def Hq:Vl->FuncId
 | .int _=>208
 | .text _=>211
 | .list _=>212
def Ho(a:Nat):Vl->List AV
 | .list _=>[.ptr (.box a) 0]
 |_=>[]
def qR:fC al 28 1 [(0,.v (.int .u8 1))]=aa (.list .tight 1 [[bT 1]])/\fC al 28 1 [(0,.v (.int .u8 2))]=aa (.list .tight 1 [[bT 2]])/\fC al 28 1 [(0,.v (.int .u8 3))]=aa (.list .tight 1 [[bT 3]]):=⟨yC 1,yC 2,yC 3⟩
def ast(n:Nat)(hn:n<=4611686018427387903)(es:List UInt8)(k:Tok)(sz n0:Nat)(H:ak)(ho:cA H=ah)(hk:dj n0 H k)(h0:n0<=H.tn)(hs:sz=1∨(es=[]/\k=.nil))(hl:es.length<=1099511627000):
 ∃r' H',W1.call 208 [.list k sz (aW es),.agg (aH 1 (n:Nat) [] .nil 0 [])] H=aa (r',H')/\∃t,r'=.ret (.list t 1 (aW (es++dt (.int (n:Nat)))))/\Grown n0 H H' t:=by
 have g1:Grown n0 H (H.push (aH 1 (n:Nat) [] .nil 0 [])) k:=(Grown.refl hk ho).push _;have ap:=yA (H:=H.push (aH 1 (n:Nat) [] .nil 0 [])) (k':=.tight) (c:=1) (ag:es.length<8796093022208) hs g1.can;have g2:=g1.app h0;have hu:j9 ((n:Nat):Int)<18446744073709551616:=by unfold j9;rw[aF ag];omega
 obtain⟨r3,H3,c3,t3,rfl,g3⟩:=OS (j9 ((n:Nat):Int)) hu (es++[1]) _ 1 n0 _ g2.ok g2.can (fe h0 g2.tn) (.inl rfl) (by simp;omega);have kG:=aj.mk (g2.trans g3);have ee:es++[1]++fg 9 (j9 ((n:Nat):Int))=es++dt (.int (n:Nat)):=by rw[dt];simp
 rw[ee] at c3;clear g1 g2 g3 ho hk hs ee hu;refine df rfl Tryz.func208 rfl ?_;have cu:=arS n hn;refine bJ @PJ @qR @jE (ar @uC (ar @fj @eu)) ?_;refine mW [(2,4)] ub au (λp hp=>?_) ?_
 ·simp only[mo] at hp;subst hp;refine qH (x:=.ptr (.box H.boxes.length) 1) (v:=.v (.int .i64 (n:Nat))) au rfl rfl rfl au (by simp[eT,mj]) ?_ ?_<;>(simp only[hJ,fB];exact mP @PJ @qR @jE (ar @uC (ar @fj (ar @eu @and_self))))
 refine bJ @PJ @qR @jE (ar @uC (ar @fj @eu)) ?_;exact⟨_,_,rfl,_,rfl,kG.out⟩
def WA(H)(s):me H 1 (.v (.string (bs s)))=aa (aW s):=by unfold me;simp[bs]
def RY{H}{k}{n0}{es s}(hl:es.length+s.length<=8796093022208)(hk:dj n0 H k)(ho:cA H=ah)(hn:n0<=H.tn):
 ∃t H',gq al H #[28,9] (.list k 1 (aW es)) (.v (.string (bs s)))=aa (.list t 1 (aW (es++s)),H')/\Grown n0 H H' t:=by
 by_cases hs:s=[]
 ·subst hs;obtain⟨i,q1,q2,q3,q4⟩:=Bn;refine⟨k,H,?_,Grown.refl hk ho⟩;rw[R1 iO (.inr Cr) q1 ag (by rw[q2];exact q4) (by rw[q2];exact WA H []) (.inl q2.symm),jH]
 ·exact⟨_,_,HU (.inr Cr) (WA H s) hs hl (.inl rfl) hk,Grown.one hk ho hn⟩
def Y9(s):ej al 9 (.v (.string (bs s)))=aa (.v (.int .i64 (s.length:Nat))):=by rw[Wd Cr,Ao]
def asu(s:List UInt8)(mG:s.length<=1099511620000)(es:List UInt8)(k:Tok)(sz n0:Nat)(H:ak)(ho:cA H=ah)(hk:dj n0 H k)(h0:n0<=H.tn)(hs:sz=1∨(es=[]/\k=.nil))(hl:es.length<=1099511627000):
 ∃r' H',W1.call 211 [.list k sz (aW es),.agg (aH 2 0 s .nil 0 [])] H=aa (r',H')/\∃t,r'=.ret (.list t 1 (aW (es++dt (.text s))))/\Grown n0 H H' t:=by
 have g1:Grown n0 H (H.push (aH 2 0 s .nil 0 [])) k:=(Grown.refl hk ho).push _;have ap:=yA (H:=H.push (aH 2 0 s .nil 0 [])) (k':=.tight) (c:=2) (ag:es.length<8796093022208) hs g1.can;have g2:=g1.app h0;obtain⟨r3,H3,c3,t3,rfl,g3⟩:=OS s.length ag (es++[2]) _ 1 n0 _ g2.ok g2.can (fe h0 g2.tn) (.inl rfl) (by simp;omega);have g4:=g2.trans g3;have nl:=nw 9 s.length;obtain⟨t4,H4,ap4,g5⟩:=RY (es:=es++[2]++fg 9 s.length) (s:=s) (by simp;omega) g3.can g3.ok (fe h0 (fe g2.tn g3.tn));have kG:=aj.mk (g4.trans g5);have ee:es++[2]++fg 9 s.length++s=es++dt (.text s):=by rw[dt];simp
 rw[ee] at ap4;have b0:(H.push (aH 2 0 s .nil 0 [])).boxes[H.boxes.length]?=aa (aH 2 0 s .nil 0 []):=a9 _ _;have b1:((H.push (aH 2 0 s .nil 0 [])).app k).boxes[H.boxes.length]?=aa (aH 2 0 s .nil 0 []):=by rw[eu];exact b0
 have b3:H3.boxes[H.boxes.length]?=aa (aH 2 0 s .nil 0 []):=g3.box _ _ b1;have l1:=sN b1;have l3:=sN b3;have l0:=sN b0;have sl:=Y9 s;have hw:=uW (n:=s.length) ag;clear g1 g2 g3 g4 g5 ho hk hs ee b0 b1 b3 nl;refine df rfl Tryz.func211 rfl ?_;refine bJ @PM @qR @jE (ar @fj @qg) ?_;refine mW [(2,4),(2,9),(7,9)] ub au (λp hp=>?_) ?_
 ·simp only[gO,tT,or_false] at hp;rcases hp with rfl|rfl|rfl
  all_goals
   refine qH (x:=.ptr (.box H.boxes.length) 2) (v:=.v (.string (bs s))) au rfl rfl rfl au (by simp[eT,mj]) ?_ ?_<;>(simp only[hJ,fB];exact mP @PM @qR @jE (ar @fj (ar @qg @and_self)))
 refine bJ @PM @qR @jE (ar @fj @qg) ?_;exact⟨_,_,rfl,_,rfl,kG.out⟩
def Bq:Vl->Nat
 | .int _=>1
 | .text _=>2
 | .list _=>3
def Oo{H}{x}{v}{r}(hv:cG v r)(hb:H.boxes[x]?=aa r):aI al Gt H 3 (.ptr (.box x) 0)=aa (.v (.int .i64 (Bq v:Nat))):=by cases hv<;>exact rF hb
def Dy{b}{v}:dy al 237 (.ptr (.box b) 0) (.v (.int .i64 (Bq v:Nat)))=aa (.ptr (.box b) (Bq v)):=by exact Jl (by cases v<;>simp[Bq])
def V8{H}{a b}{v}(hb:H.boxes[b]?=aa (uV a)):aI al Gt H 207 (.ptr (.box b) (Bq v))=aa (.func (.func (Hq v)) [] (Ho a v)):=by rw[lP abO hb];cases v<;>rfl
def Tg{l:List Vl}{i}{v}(h:l[i]?=aa v):iE (l.take (i+1))=iE (l.take i)++dt v:=by rw[fH h,Te];simp[iE]
def Tf(l)(i):(iE (l.take i)).length<=(iE l).length:=by have:=Te (l.take i) (l.drop i);rw[wP] at this;rw[this,dk];omega
mutual
def Yt(v:Vl):∀r,cG v r->nT r r=ah:=by
 intro r h;cases h with|int n hn=>simp[aH,nT,eT,mj,im,sv,wm,pV]|text s hs=>simp[aH,nT,eT,mj,im,sv,wm,pV]|list l k sz ae hl hs hm hr=>have:=Qa l ae hl hr;simp[aH,nT,eT,mj,im,sv,this];cases k<;>simp[wm]
def Qa(l:List Vl):∀ae:List (List AV),ae.length=l.length->(∀(i:Nat) v r,l[i]?=aa v->ae[i]?=aa r->cG v r)->pV ae ae=ah:=by
 intro ae hl h
 match l,ae,hl,h with
 | [],[],_,_=>rfl
 |v::l,r::ae,hl,h=>rw[pV,Yt v r (h 0 v r rfl rfl),Qa l ae (by simpa using hl) λi v r hv hr=>h (i+1) v r (by simpa using hv) (by simpa using hr)];rfl
end
def ass{v:Vl}{r:List AV}(hv:cG v r):∀(a b:Nat) (es:List UInt8) (k:Tok) (sz n0:Nat) (H:ak),H.boxes[a]?=aa [.ptr (.box b) 0]->H.boxes[b]?=aa (uV a)->cA H=ah->dj n0 H k->n0<=H.tn->(sz=1∨(es=[]/\k=.nil))->es.length+(dt v).length<=1099511627000->
 ∃r' H',W1.call (Hq v) (.list k sz (aW es)::.agg r::Ho a v) H=aa (r',H')/\∃t,r'=.ret (.list t 1 (aW (es++dt v)))/\Grown n0 H H' t:=by
 induction hv with
 |int n hn=>intro a b es k sz n0 H _ _ ho hk h0 hs hl;obtain⟨m,rfl⟩:∃m:Nat,n=m:=⟨n.toNat,by omega⟩;exact ast m ag es k sz n0 H ho hk h0 hs ag
 |text s mG=>intro a b es k sz n0 H _ _ ho hk h0 hs hl;exact asu s mG es k sz n0 H ho hk h0 hs ag|list l kl szl ae eR mG hm hr ih=>
  intro a b es k sz n0 H ha hb ho hk h0 hs hl;have sr:=Qa l ae eR hr;have kr:=aj.mk hr;have kih:=aj.mk ih;have ksl:=aj.mk mG;have kll:=aj.mk eR;have enc:dt (.list l)=3::(fg 9 l.length++iE l):=by rw[dt]
  rw[enc] at hl ⊢;have g1:Grown n0 H (H.push (aH 3 0 [] kl szl ae)) k:=(Grown.refl hk ho).push _;have ap:=yA (H:=H.push (aH 3 0 [] kl szl ae)) (k':=.tight) (c:=3) (ag:es.length<8796093022208) hs g1.can;have g2:=g1.app h0;simp only[iW,dk] at hl;obtain⟨r3,H3,c3,t3,rfl,g3⟩:=OS l.length ag (es++[3]) _ 1 n0 _ g2.ok g2.can (fe h0 g2.tn) (.inl rfl) (by simp;omega);have g4:=g2.trans g3;have b0:(H.push (aH 3 0 [] kl szl ae)).boxes[H.boxes.length]?=aa (aH 3 0 [] kl szl ae):=a9 _ _;have b1:((H.push (aH 3 0 [] kl szl ae)).app k).boxes[H.boxes.length]?=aa (aH 3 0 [] kl szl ae):=by rw[eu];exact b0
  have b3:H3.boxes[H.boxes.length]?=aa (aH 3 0 [] kl szl ae):=g3.box _ _ b1;have l0:=nu b0;have l1:=nu b1;have l3:=nu b3;have u94:=oH;have hw:=uW (n:=l.length) ag;have FI:((ae.length:Nat):Int)=((l.length:Nat):Int):=by rw[eR]
  have kG:=aj.mk g4;have kha:=aj.mk ha;have khb:=aj.mk hb;have kl2:=aj.mk hl;have sv0:eT (.list kl szl ae) (.list kl szl ae)=ah:=by rw[eT,sr,BT];cases kl<;>simp[wm]
  clear g1 g2 g3 g4 ho hk hs b0 b1 b3 hr ih mG eR sr ha hb hl;show ∃r' H',W1.call 212 [.list k sz (aW es),.agg (aH 3 0 [] kl szl ae),.ptr (.box a) 0] H=aa (r',H')/\_;refine df rfl Tryz.func212 rfl ?_;refine bJ @D3 @qR @jE (ar @fj @qg) ?_;refine mW [(2,4)] ub au (λp hp=>?_) ?_
  ·simp only[mo] at hp;subst hp;refine qH (x:=.ptr (.box H.boxes.length) 3) (v:=.list kl szl ae) au rfl rfl rfl au (sv0) ?_ ?_<;>(simp only[hJ,fB];exact mP @D3 @qR @jE (ar @fj (ar @qg @and_self)))
  refine bJ @D3 @qR @jE (ar @fj @qg) ?_;refine cq (λm e H1=>∃(i:Nat) (t:Tok),i<=l.length/\m=l.length - i/\e.get 0=.list t 1 (aW (es++[3]++fg 9 l.length++iE (l.take i)))/\e.get 2=.ptr (.box a) 0/\e.get 17=.list kl szl ae/\e.get 18=.v (.int .i64 (l.length:Nat))/\e.get 19=.v (.int .i64 i)/\e.defers=[]/\Grown n0 H H1 t) ?_ l.length _ _ ?_;rotate_left 1
  ·refine⟨0,t3,cr _,rfl,?_,?_,?_,?_,?_,?_,kG.out⟩<;>(first|assumption|(simp only[gW,reduceIte,aX,aR,fB,iE,jH]<;>first|rfl|(rw[FI])))
  clear c3 ap l0 l1 l3 kG hw;rintro m e H1 ⟨i,t,hi,rfl,g0,g2,g17,g18,g19,hd,hG⟩;have kG:=aj.mk hG;clear hG;by_cases aA:i<l.length
  ·obtain⟨v,hv⟩:∃v,l[i]?=aa v:=⟨_,aO aA⟩;obtain⟨r,hr⟩:∃r,ae[i]?=aa r:=⟨_,aO ag⟩;have dF:=kr.out i v r hv hr;have h4:szl=4:=ksl.out (by rintro rfl;simp at hr);subst h4;have gp:=kG.out.push r;have es1:=Tg hv;have el:=Tf l (i+1);rw[es1,dk] at el;have hl:=kl2.out;have nl:=nw 9 l.length;obtain⟨r2,H2,c2,t2,rfl,g3⟩:=kih.out i v r hv hr a b (es++[3]++fg 9 l.length++iE (l.take i)) t 1 n0 (H1.push r) (gp.box _ _ kha.out) (gp.box _ _ khb.out) gp.ok gp.can (fe h0 gp.tn) (.inl rfl) (by simp;omega);rw[show es++[3]++fg 9 l.length++iE (l.take i)++dt v=es++[3]++fg 9 l.length++iE (l.take (i+1)) by rw[es1];simp] at c2;have kG2:=aj.mk (gp.trans g3);have ld:=Gd (H:=H1) dF.len hr;have st:=Qp (H:=H1) dF;have l2:aI al Gt (H1.push r) 96 (.ptr (.box H1.boxes.length) 0)=aa (.agg r):=oU dF.len (a9 _ _);have l5:=Oo dF (a9 H1 r);have l6:=V4 (gp.box _ _ kha.out);have l7:=V8 (v:=v) (gp.box _ _ khb.out);have ik:=Dy (b:=b) (v:=v);have zz:=wE;have s96:=oY;have as8:(i:Int)<(ae.length:Int):=(by omega);generalize Hq v=fv at *
   generalize Ho a v=cv at *
   generalize Bq v=kv at *
   clear gp g3 es1 el hl nl hv hr dF kG;refine bJ @D3 @a8 @fj @Ay ?_;refine ey ub au ?_;refine bJ @D3 @a8 @fj (ar @Ay (ar @lV.{0} @kj.{0})) ?_;exact⟨l.length - (i+1),by omega,i+1,t2,by omega,rfl,by trivial,by trivial,by trivial,by trivial,by simp,by trivial,kG2.out⟩
  ·have:i=l.length:=(by omega);subst this;rw[fA] at g0;have ee:es++[3]++fg 9 l.length++iE l=es++3::(fg 9 l.length++iE l):=(by simp);rw[ee] at g0;refine br @D3 ?_;exact⟨_,_,rfl,_,rfl,kG.out⟩
def aoB:Tryz.f183.results.toList=[.tmp 2]:=au
def J4:Tryz.f146.results.toList=[.tmp 2,.tmp 3]:=au
def aec{v:Vl}{r:List AV}(hv:cG v r)(hd:fT v<=16)(h:ak):∃h',W1.call 183 [.agg r] h=aa (.ret (im 0),h')/\Ext h h':=by
 obtain⟨h1,c1,x1⟩:=agb hv ag (h.push r);have cs:=hv.cells;have ld:=oU hv.len (a9 h r);have kx:=aj.mk ((Ext.push h r).trans x1);have eg:¬((16:Int)<((fT v:Nat):Int)):=by omega
 clear hv x1 hd;unfold im;refine gP rfl Tryz.func183 rfl ?_;refine br @aoB ?_;exact⟨_,rfl,kx.out⟩
def afw{v:Vl}{r:List AV}(hv:cG v r)(hd:fT v<=16)(hl:(dt v).length<=1099511627000)(h:ak)(ho:cA h=ah):
 ∃r' h',W1.call 146 [.agg r] h=aa (r',h')/\∃t,r'=.ret (.tuple [.list t 1 (aW (dt v)),.v (.int .i64 0)])/\Ext h h':=by
 obtain⟨h1,c1,x1⟩:=aec hv hd (h.push r);unfold im at c1;have x2:=(Ext.push h r).trans x1;have cs:=hv.cells;have b0:=a9 h r;have b1:=x1.box _ _ b0;have c2:=asv h1;have b2:((h1.push (uV (h1.boxes.length+1))).push [.ptr (.box h1.boxes.length) 0]).boxes[h.boxes.length]?=aa r:=bg (bg b1);have bb:((h1.push (uV (h1.boxes.length+1))).push [.ptr (.box h1.boxes.length) 0]).boxes[h1.boxes.length]?=aa (uV (h1.boxes.length+1)):=bg (a9 _ _);have ba:((h1.push (uV (h1.boxes.length+1))).push [.ptr (.box h1.boxes.length) 0]).boxes[h1.boxes.length+1]?=aa [.ptr (.box h1.boxes.length) 0]:=mB (by rw[cK]);have x3:Ext h1 ((h1.push (uV (h1.boxes.length+1))).push [.ptr (.box h1.boxes.length) 0]):=(Ext.push _ _).trans (.push _ _);have ok3:=(x2.trans x3).ok ho;obtain⟨r4,h4,c4,t,rfl,g4⟩:=ass hv (h1.boxes.length+1) h1.boxes.length [] .nil 0 h.tn _ ba bb ok3 (.inl rfl) (x2.trans x3).tn (.inr ⟨rfl,rfl⟩) (by simpa using hl);rw[lV] at c4;have kX:=aj.mk (g4.ext (x2.trans x3) (aJ _));have ld0:=oU hv.len b0;have ld1:=oU hv.len b1;have ld2:=oU hv.len b2;have lk1:=Oo hv b1;have lk2:=Oo hv b2;have lf:=V8 (v:=v) bb;have ik:=Dy (b:=h1.boxes.length) (v:=v);have Vw:=Yt v r hv;have c4:W1.call (Hq v) (.list .nil 0 []::.agg r::Ho (h1.boxes.length+1) v) ((h1.push (uV (h1.boxes.length+1))).push [.ptr (.box h1.boxes.length) 0])=aa (.ret (.list t 1 (aW (dt v))),h4):=c4;generalize Hq v=fv at *
 generalize Ho (h1.boxes.length+1) v=cv at *
 generalize hkv:Bq v=kv at *
 generalize vy:(h1.push (uV (h1.boxes.length+1))).push [.ptr (.box h1.boxes.length) 0]=H3 at *
 have sv0:eT (.agg r) (.agg r)=ah:=by rw[eT,Vw]
 clear hv x1 hd x2 b0 b1 b2 bb ba x3 ok3 g4 ho hl Vw vy;refine df rfl Tryz.func146 rfl ?_;refine bJ @J4 @fj @Ay (ar @lV.{0} @kj.{0}) ?_;refine mW [(0,2),(0,7)] ub au (λp hp=>?_) ?_
 ·simp only[gO,tT,or_false] at hp;rcases hp with rfl|rfl
  ·refine qH (x:=.ptr (.box h.boxes.length) 0) (v:=.v (.int .i64 (kv:Nat))) au rfl rfl rfl au (by simp[eT,mj]) ?_ ?_<;>(simp only[hJ,fB];exact mP @J4 @fj @Ay @and_self)
  ·refine qH (x:=.ptr (.box h.boxes.length) 0) (v:=.agg r) au rfl rfl rfl au (sv0) ?_ ?_<;>(simp only[hJ,fB];exact mP @J4 @fj @Ay @and_self)
 refine bJ @J4 @fj @Ay (ar @lV.{0} @kj.{0}) ?_;exact⟨_,_,rfl,_,rfl,kX.out⟩
mutual
def cG.hold(v:Vl):∀r,cG v r->cG v (bV r)/\aU 0 0 0 (bV r)=ah:=by
 intro r h;cases h with|int n hn=>exact⟨.int n hn,rfl⟩|text s hs=>exact⟨.text s hs,rfl⟩|list l k sz ae hl hs hm hr=>obtain⟨h1,h2⟩:=cG.holds l ae hl hr;have e:bV (aH 3 0 [] k sz ae)=aH 3 0 [] (bR k) sz (eH ae):=rfl;rw[e];refine⟨.list l _ sz _ (by rw[FT];exact hl) (λq=>hs λq2=>q (by rw[q2];rfl)) (by rw[FT];exact hm) h1,?_⟩;unfold aH;simp[aU,aL,im,sv,eX,h2]
def cG.holds(l:List Vl):∀ae:List (List AV),ae.length=l.length->(∀(i:Nat) v r,l[i]?=aa v->ae[i]?=aa r->cG v r)->(∀(i:Nat) v r,l[i]?=aa v->(eH ae)[i]?=aa r->cG v r)/\gj 0 0 0 (eH ae)=ah:=by
 intro ae hl h
 match l,ae,hl,h with
 | [],[],_,_=>exact⟨λi v r hv=>by simp at hv,rfl⟩
 |v::l,r::ae,hl,h=>
  obtain⟨h1,h2⟩:=cG.hold v r (h 0 v r rfl rfl);obtain⟨h3,h4⟩:=cG.holds l ae (by simpa using hl) λi v r hv hr=>h (i+1) v r (by simpa using hv) (by simpa using hr);refine⟨λi v' r' hv hr=>?_,by rw[eH,gj,h2,h4];rfl⟩;cases i with
  |zero=>injection hv with hv;injection hr with hr;subst hv;subst hr;exact h1
  |succ i=>exact h3 i v' r' hv hr
end
def GL:Tryz.f186.results.toList=[.tmp 2]:=au
def GN:Tryz.f187.results.toList=[.tmp 2]:=au
def aow:Tryz.f163.results.toList=[.tmp 2]:=au
def amx{v:Vl}{r:List AV}(hv:cG v r):∀h,∃h',W1.call 186 [.agg r] h=aa (.ret (.v (.bool ah)),h')/\Ext h h':=by
 have u9:=Cr;have u94:=oH;have s96:=oY
 induction hv with
 |int n hn=>
  intro h;refine gP rfl RA rfl ?_
  repeat' (first|simp(maxSteps:=999999)(disch:=first|exact dZ|fail)only[gW,reduceIte,aX,aR,GL,jE,rF,uC,sN,nu,fj,jI,rQ,decide_true, *]|refine dX ?_ ?_<;>(intro _;try omega))
  all_goals exact⟨_,rfl,Ext.push _ _⟩
 |text s hs=>
  intro h;refine gP rfl RA rfl ?_
  repeat' (first|simp(maxSteps:=999999)(disch:=first|exact dZ|fail)only[gW,reduceIte,aX,aR,GL,jE,rF,uC,sN,nu,fj,jI,rQ,decide_true, *]|refine dX ?_ ?_<;>(intro _;try omega))
  all_goals exact⟨_,rfl,Ext.push _ _⟩
 |list l k sz ae hl hs hm hr ih=>
  intro h;have kr:=aj.mk hr;have kih:=aj.mk ih;have kh:=aj.mk hs;have kl:=aj.mk hl;refine gP rfl RA rfl ?_;clear hr ih hs hl;refine bJ @GL @jE @rF (ar @uC (ar @sN (ar @nu (ar @fj (ar @rQ @decide_true))))) ?_;refine cq (λm e H=>∃i:Nat,i<=ae.length/\m=ae.length - i/\e.get 1=.ptr (.box h.boxes.length) 0/\e.get 3=.v (.int .i64 i)/\e.defers=[]/\H.boxes[h.boxes.length]?=aa (aH 3 0 [] k sz ae)/\Ext h H) ?_ ae.length _ _ ?_;rotate_left 1
  ·refine⟨0,cr _,rfl,?_,?_,?_,a9 _ _,Ext.push _ _⟩<;>(first|assumption|(exact gR))
  rintro m e H ⟨i,hi,rfl,g1,g3,hd,hb,hX⟩;have kX:=aj.mk hX;have kb:=aj.mk hb;have l0:=rF hb;have l1:=uC hb;have l2:=sN hb;have l3:=nu hb;clear hX hb;by_cases aA:i<ae.length
  ·obtain⟨r,hr⟩:∃r,ae[i]?=aa r:=⟨_,aO aA⟩;obtain⟨v,hv⟩:∃v,l[i]?=aa v:=⟨_,aO (by have:=kl.out;omega)⟩;have dF:=kr.out i v r hv hr;have h4:sz=4:=kh.out (by rintro rfl;simp at aA);subst h4;obtain⟨H2,c1,x1⟩:=kih.out i v r hv hr H;have ld:=Gd (H:=H) dF.len hr;have kX2:=aj.mk (kX.out.trans x1);have kb2:=aj.mk (x1.box _ _ kb.out);have FI:(i:Int)<(ae.length:Int):=(by omega);clear kX dF hv hr x1;refine cY @GL @a8 @fj ?_;exact⟨ae.length - (i+1),by omega,i+1,by omega,rfl,by trivial,by simp,by trivial,kb2.out,kX2.out⟩
  ·have:i=ae.length:=(by omega);subst this;refine cY @GL @fj @decide_true ?_;exact⟨_,rfl,kX.out⟩
def ama{v:Vl}{r:List AV}(hv:cG v r):fT v<=100->∀h,∃h',W1.call 187 [.agg r] h=aa (.ret (.v (.int .i64 (fT v:Nat))),h')/\Ext h h':=by
 have u9:=Cr;have u94:=oH;have s96:=oY
 induction hv with
 |int n hn=>intro _ h;refine gP rfl RC rfl ?_;show bG _ _ _ _ (yL _ _ _ _ (.ret (.v (.int .i64 0))) _);refine bJ @GN @jE @rF @fj ?_;exact⟨_,rfl,Ext.push _ _⟩|text s hs=>intro _ h;refine gP rfl RC rfl ?_;show bG _ _ _ _ (yL _ _ _ _ (.ret (.v (.int .i64 0))) _);refine bJ @GN @jE @rF @fj ?_;exact⟨_,rfl,Ext.push _ _⟩|list l k sz ae hl hs hm hr ih=>
  intro hd h;have kd:=aj.mk hd;have kr:=aj.mk hr;have kih:=aj.mk ih;have kh:=aj.mk hs;have kl:=aj.mk hl;refine gP rfl RC rfl ?_;clear hr ih hs hl hd;refine bJ @GN @jE @rF @fj ?_;refine cq (λm e H=>∃i:Nat,i<=ae.length/\m=ae.length - i/\e.get 1=.ptr (.box h.boxes.length) 0/\e.get 3=.v (.int .i64 (gF (l.take i):Nat))/\e.get 4=.v (.int .i64 i)/\e.defers=[]/\H.boxes[h.boxes.length]?=aa (aH 3 0 [] k sz ae)/\Ext h H) ?_ ae.length _ _ ?_;rotate_left 1
  ·refine⟨0,cr _,rfl,?_,?_,?_,?_,a9 _ _,Ext.push _ _⟩<;>(first|assumption|(exact gR))
  rintro m e H ⟨i,hi,rfl,g1,g3,g4,hd,hb,hX⟩;have kX:=aj.mk hX;have kb:=aj.mk hb;have l3:=nu hb;have vE:fT (.list l)=gF l+1:=rfl;have FA:=kd.out;rw[vE] at FA;clear hX hb;by_cases aA:i<ae.length
  ·obtain⟨r,hr⟩:∃r,ae[i]?=aa r:=⟨_,aO aA⟩;obtain⟨v,hv⟩:∃v,l[i]?=aa v:=⟨_,aO (by have:=kl.out;omega)⟩;have dF:=kr.out i v r hv hr;have h4:sz=4:=kh.out (by rintro rfl;simp at aA);subst h4;have hdv:=Ta hv;have AU:=Ml l i;obtain⟨H2,c1,x1⟩:=kih.out i v r hv hr ag H;have ld:=Gd (H:=H) dF.len hr;have kX2:=aj.mk (kX.out.trans x1);have kb2:=aj.mk (x1.box _ _ kb.out);have kst:=aj.mk (Mk hv);have FI:(i:Int)<(ae.length:Int):=(by omega);have pK:(if ((gF (l.take i):Nat):Int)<((fT v:Nat):Int) then ((fT v:Nat):Int) else ((gF (l.take i):Nat):Int))=((max (gF (l.take i)) (fT v):Nat):Int):=(by split<;>omega);clear kX dF hv hr x1 vE;refine bJ @GN @a8 @fj @Bt ?_;exact⟨ae.length - (i+1),by omega,i+1,by omega,rfl,by trivial,by rw[kst.out],by simp,by trivial,kb2.out,kX2.out⟩
  ·have:i=ae.length:=(by omega);subst this;have e1:l.take ae.length=l:=(by rw[kl.out];exact fA);rw[e1] at g3;rw[vE];have e2:((gF l+1:Nat):Int)=((gF l:Nat):Int)+1:=(by omega);refine bM @GN @fj ?_;exact⟨_,rfl,kX.out⟩
def al9{v:Vl}{r:List AV}(hv:cG v r)(hd:fT v<=16)(h:ak):∃h',W1.call 163 [.agg r] h=aa (.ret (im 0),h')/\Ext h h':=by
 obtain⟨h1,c1,x1⟩:=amx hv (h.push r);obtain⟨h2,c2,x2⟩:=ama hv ag h1;have cs:=hv.cells;have ld:=oU hv.len (a9 h r);have ld2:=oU hv.len (x1.box _ _ (a9 h r));have kx:=aj.mk (((Ext.push h r).trans x1).trans x2);have eg:¬((16:Int)<((fT v:Nat):Int)):=by omega
 clear hv x1 x2 hd;unfold im;refine gP rfl Tryz.func163 rfl ?_;refine br @aow ?_;exact⟨_,rfl,kx.out⟩
def Yd:Tryz.f188.results.toList=[.tmp 2]:=au
def aoD:Tryz.f189.results.toList=[.tmp 2]:=au
def BB:Tryz.f164.results.toList=[.tmp 2]:=au
def aoj:Tryz.f118.results.toList=[.tmp 2,.tmp 3]:=au
def KB(c:Nat)(hc:c<256):bT (UInt8.ofNat c)=.v (.int .u8 (c:Nat)):=by have:(UInt8.ofNat c).toNat=c%256:=UInt8.toNat_ofNat';unfold bT;rw[this,nb hc]
def Jy(k u):fg k u≠[]:=by
 cases k with|zero=>simp[fg]|succ k=>rw[fg];split<;>simp
def E4{H}{k t}{n0}{es new}(bH:new≠[])(hl:es.length+new.length<=8796093022208)(hk:dj n0 H k):
 gq al H #[28,28] (.list k 1 (aW es)) (.list t 1 (aW new))=aa (.list (.free H.tn) 1 (aW (es++new)),H.app k):=
 HU (.inl ⟨_,iO⟩) OP bH hl (.inl rfl) hk
def Px:∀(k u:Nat),k<=9->u<2 * 128^k->∀h,cA h=ah->∃r h',W1.call 188 [.v (.int .u64 (u:Nat))] h=aa (r,h')/\∃t,r=.ret (.list t 1 (aW (fg k u)))/\Grown h.tn h h' t:=by
 have cE:∀(k u:Nat),u<128->∀h,cA h=ah->∃r h',W1.call 188 [.v (.int .u64 (u:Nat))] h=aa (r,h')/\∃t,r=.ret (.list t 1 (aW (fg k u)))/\Grown h.tn h h' t:=by
  intro k u hu h ho;rw[WB hu];have bl:=yC (UInt8.ofNat u);rw[KB u ag] at bl;have e:aW [UInt8.ofNat u]=[[.v (.int .u8 (u:Nat))]]:=by show[[bT (UInt8.ofNat u)]]=_;rw[KB u ag]
  rw[e];have aA:((u:Nat):Int)<128:=by omega
  have kG:=aj.mk (Grown.refl (n0:=h.tn) (k:=.tight) (.inr (.inl rfl)) ho);clear ho hu e;refine df rfl abh rfl ?_;refine bM @Yd @CF ?_;exact⟨_,_,rfl,_,rfl,kG.out⟩
 intro k
 induction k with
 |zero=>intro u _ hu;exact cE 0 u (by simpa using Nat.lt_trans hu aK)|succ k ih=>
  intro u hk hu h ho;by_cases Fk:u<128
  ·exact cE _ u Fk h ho
  ·rw[WC ag];obtain⟨r1,h1,c1,t,rfl,g1⟩:=ih (u/128) ag (by rw[Ad] at hu;omega) h ho;have bl:=yC (UInt8.ofNat (u%128+128));have nl:=nw k (u/128);have ap:=E4 (H:=h1) (k:=.tight) (t:=t) (n0:=h.tn) (es:=[UInt8.ofNat (u%128+128)]) (Jy k (u/128)) (by simp;omega) (.inr (.inl rfl));have e:aW [UInt8.ofNat (u%128+128)]=[[.v (.int .u8 ((u%128+128:Nat):Int))]]:=(by show[[bT (UInt8.ofNat (u%128+128))]]=_;rw[KB _ ag]);rw[e] at ap;rw[KB (u%128+128) ag] at bl;have g2:Grown h.tn h h1 .tight:=⟨g1.box,g1.loop,.inr (.inl rfl),g1.ok,g1.tn,g1.dead⟩;have kG:=aj.mk (g2.app (aJ _));have aA:¬((u:Nat):Int)<128:=(by omega);have m1:((u:Nat):Int).tmod 128=((u%128:Nat):Int):=nU u 128;have m2:((u:Nat):Int).tdiv 128=((u/128:Nat):Int):=Hk u 128;have w1:IntKind.u64.wrap (((u%128:Nat):Int)+128)=((u%128+128:Nat):Int):=(by rw[show((u%128:Nat):Int)+128=((u%128+128:Nat):Int) by omega,uW ag]);have w2:IntKind.u64.wrap ((u/128:Nat):Int)=((u/128:Nat):Int):=(by have:2 * 128^(k+1)<=2 * 128^9:=Nat.mul_le_mul_left _ (aa6 aK hk);exact uW ag);clear ho hu Fk ih g1 g2 e nl;refine df rfl abh rfl ?_;refine bM @Yd @CF ?_;exact⟨_,_,rfl,_,rfl,kG.out⟩
def apo(n:Nat)(hn:n<=4611686018427387903)(h:ak):W1.call 189 [.v (.int .i64 (n:Nat))] h=aa (.ret (.v (.int .u64 (j9 n:Nat))),h):=by
 have e:j9 (n:Int)=2 * n:=by unfold j9;rw[aF ag,dL]
 rw[e];have e1:=uW (n:=n) ag;have e2:IntKind.u64.wrap (2 * ((n:Nat):Int))=((2 * n:Nat):Int):=by rw[show 2 * ((n:Nat):Int)=((2 * n:Nat):Int) by omega,uW ag]
 have e3:(0:Int)<=((n:Nat):Int):=by omega
 refine cC rfl Tryz.func189 rfl ?_;exact jL @aoD @qg
def aft(v):dt v≠[]:=by cases v<;>simp[dt]
def _root_.Go.AE.Grown.re{n0:Nat}{h h':ak}{t k:Tok}(g:Grown n0 h h' t)(hk:dj n0 h' k):Grown n0 h h' k:=⟨g.box,g.loop,hk,g.ok,g.tn,g.dead⟩
def _root_.Go.AE.Grown.sV{n0 n1:Nat}{h h':ak}{t:Tok}(g:Grown n1 h h' t)(hn:n0<=n1):Grown n0 h h' t:=⟨g.box,g.loop,g.can.mono hn,g.ok,g.tn,λn hl hd=>g.dead n (mq hl hn) hd⟩
def _root_.Go.AE.Grown.beside{n0:Nat}{h h':ak}{t k:Tok}(g:Grown h.tn h h' t)(hk:dj n0 h k):dj n0 h' k:=by
 rcases hk with rfl|rfl|⟨m,rfl,hm,ha⟩
 ·exact .inl rfl
 ·exact .inr (.inl rfl)
 ·refine .inr (.inr ⟨m,rfl,hm,?_⟩);have aA:=tX ha;unfold alive at ha ⊢;simp only[bC,decide_eq_true_eq,yk,List.contains_eq_mem,decide_eq_false_iff_not] at ha ⊢;exact⟨mq aA g.tn,λhd=>ha.2 (g.dead m aA hd)⟩
def amm{v:Vl}{r:List AV}(hv:cG v r):(dt v).length<=1099511627000->∀h,cA h=ah->∃r' h',W1.call 164 [.agg r] h=aa (r',h')/\∃t,r'=.ret (.list t 1 (aW (dt v)))/\Grown h.tn h h' t:=by
 induction hv with
 |int n hn=>
  intro _ h ho;obtain⟨m,rfl⟩:∃m:Nat,n=m:=⟨n.toNat,by omega⟩;have hu:j9 ((m:Nat):Int)<2 * 128^9:=by unfold j9;rw[aF ag];omega
  have g0:Grown h.tn h (h.push (aH 1 (m:Nat) [] .nil 0 [])) .tight:=(Grown.refl (.inr (.inl rfl)) ho).push _;obtain⟨r1,h1,c1,t,rfl,g1⟩:=Px 9 (j9 ((m:Nat):Int)) (aJ _) hu _ g0.ok;have nl:=nw 9 (j9 ((m:Nat):Int));have ap:=E4 (H:=h1) (k:=.tight) (t:=t) (n0:=h.tn) (es:=[1]) (Jy 9 (j9 ((m:Nat):Int))) (by simp;omega) (.inr (.inl rfl));have kG:=aj.mk ((g0.trans (g1.re (.inr (.inl rfl)))).app (aJ _));have cu:=apo m ag;have ap:gq al h1 #[28,28] (.list .tight 1 [[bT 1]]) (.list t 1 (aW (fg 9 (j9 ((m:Nat):Int)))))=aa (.list (.free h1.tn) 1 (aW (dt (.int (m:Nat)))),h1.app .tight):=by rw[dt];exact ap
  clear g0 g1 hu hn ho nl;refine df rfl Rz rfl ?_;refine bJ @BB @qR @jE (ar @rF (ar @uC @fj)) ?_;exact⟨_,_,rfl,_,rfl,kG.out⟩
 |text s hs=>
  intro hl h ho;have enc:dt (.text s)=2::(fg 9 s.length++s):=by rw[dt]
  rw[enc] at hl ⊢;simp only[iW,dk] at hl;have g0:Grown h.tn h (h.push (aH 2 0 s .nil 0 [])) .tight:=(Grown.refl (.inr (.inl rfl)) ho).push _;obtain⟨r1,h1,c1,t,rfl,g1⟩:=Px 9 s.length (aJ _) ag _ g0.ok;have ap:=E4 (H:=h1) (k:=.tight) (t:=t) (n0:=h.tn) (es:=[2]) (Jy 9 s.length) (by simp;omega) (.inr (.inl rfl));have g2:=(g0.trans (g1.re (.inr (.inl rfl)))).app (aJ _);obtain⟨t4,h4,ap4,g5⟩:=RY (es:=[2]++fg 9 s.length) (s:=s) (by simp;omega) g2.can g2.ok g2.tn;have kG:=aj.mk (g2.trans g5);have ap:gq al h1 #[28,28] (.list .tight 1 [[bT 2]]) (.list t 1 (aW (fg 9 s.length)))=aa (.list (.free h1.tn) 1 (aW ([2]++fg 9 s.length)),h1.app .tight):=ap;have e4:[2]++fg 9 s.length++s=2::(fg 9 s.length++s):=by simp
  rw[e4] at ap4;have b0:=a9 h (aH 2 0 s .nil 0 []);have b1:=g1.box _ _ b0;have b2:(h1.app .tight).boxes[h.boxes.length]?=aa (aH 2 0 s .nil 0 []):=by rw[eu];exact b1
  have l0:=sN b0;have l1:=sN b1;have l2:=sN b2;have sl:=Y9 s;have hw:=uW (n:=s.length) ag;clear g0 g1 g2 g5 ho enc e4 b0 b1 b2 hl;refine df rfl Rz rfl ?_;refine bJ @BB @qR @jE (ar @rF (ar @fj @qg)) ?_;refine mW [(5,8),(6,8)] ub au (λp hp=>?_) ?_
  ·simp only[gO,tT,or_false] at hp;rcases hp with rfl|rfl
   all_goals
    refine qH (x:=.ptr (.box h.boxes.length) 2) (v:=.v (.string (bs s))) au rfl rfl rfl au (by simp[eT,mj]) ?_ ?_<;>(simp only[hJ,fB];exact mP @BB @qR @jE (ar @fj (ar @qg @and_self)))
  refine bJ @BB @qR @jE (ar @fj @qg) ?_;exact⟨_,_,rfl,_,rfl,kG.out⟩
 |list l kl sz ae hl hs hm hr ih=>
  intro hlen h ho;have kr:=aj.mk hr;have kih:=aj.mk ih;have kh:=aj.mk hs;have kl2:=aj.mk hl;have enc:dt (.list l)=3::(fg 9 l.length++iE l):=by rw[dt]
  rw[enc] at hlen ⊢;simp only[iW,dk] at hlen;have g0:Grown h.tn h (h.push (aH 3 0 [] kl sz ae)) .tight:=(Grown.refl (.inr (.inl rfl)) ho).push _;obtain⟨r1,h1,c1,t,rfl,g1⟩:=Px 9 l.length (aJ _) ag _ g0.ok;have nl:=nw 9 l.length;have ap:=E4 (H:=h1) (k:=.tight) (t:=t) (n0:=h.tn) (es:=[3]) (Jy 9 l.length) (by simp;omega) (.inr (.inl rfl));have g2:=(g0.trans (g1.re (.inr (.inl rfl)))).app (aJ _);have ap:gq al h1 #[28,28] (.list .tight 1 [[bT 3]]) (.list t 1 (aW (fg 9 l.length)))=aa (.list (.free h1.tn) 1 (aW ([3]++fg 9 l.length)),h1.app .tight):=ap;have b0:=a9 h (aH 3 0 [] kl sz ae);have b1:=g1.box _ _ b0;have b2:(h1.app .tight).boxes[h.boxes.length]?=aa (aH 3 0 [] kl sz ae):=by rw[eu];exact b1
  have l0:=nu b0;have u94:=oH;have hw:=uW (n:=ae.length) ag;have c1:W1.call 188 [.v (.int .u64 ((ae.length:Nat):Int))] (h.push (aH 3 0 [] kl sz ae))=aa (.ret (.list t 1 (aW (fg 9 l.length))),h1):=by rw[hl];exact c1
  have kG:=aj.mk g2;have kb:=aj.mk b2;have klen:=aj.mk hlen;clear g0 g1 g2 ho enc hr ih hs hl hlen b0 b1 b2;refine df rfl Rz rfl ?_;refine bJ @BB @qR @jE (ar @rF (ar @fj @qg)) ?_;refine cq (λm e H1=>∃(i:Nat) (t:Tok),i<=ae.length/\m=ae.length - i/\e.get 1=.ptr (.box h.boxes.length) 0/\e.get 3=.list t 1 (aW ([3]++fg 9 l.length++iE (l.take i)))/\e.get 4=.v (.int .i64 i)/\e.defers=[]/\H1.boxes[h.boxes.length]?=aa (aH 3 0 [] kl sz ae)/\Grown h.tn h H1 t) ?_ ae.length _ _ ?_;rotate_left 1
  ·refine⟨0,.free h1.tn,cr _,rfl,?_,?_,?_,?_,kb.out,kG.out⟩<;>(first|assumption|(simp only[gW,reduceIte,aX,aR,fB,iE,jH]<;>rfl))
  clear c1 ap l0 kG kb hw;rintro m e H1 ⟨i,t,hi,rfl,g1,g3,g4,hd,hb,hG⟩;have kG:=aj.mk hG;have kb:=aj.mk hb;have l3:=nu hb;clear hG hb;by_cases aA:i<ae.length
  ·obtain⟨r,hr⟩:∃r,ae[i]?=aa r:=⟨_,aO aA⟩;obtain⟨v,hv⟩:∃v,l[i]?=aa v:=⟨_,aO (by have:=kl2.out;omega)⟩;have dF:=kr.out i v r hv hr;have h4:sz=4:=kh.out (by rintro rfl;simp at aA);subst h4;have es1:=Tg hv;have el:=Tf l (i+1);rw[es1,dk] at el;have hl:=klen.out;obtain⟨r2,H2,c2,t2,rfl,g5⟩:=kih.out i v r hv hr ag H1 kG.out.ok;have can2:=g5.beside kG.out.can;have ap2:=E4 (H:=H2) (k:=t) (t:=t2) (n0:=h.tn) (es:=[3]++fg 9 l.length++iE (l.take i)) (aft v) (by simp;omega) can2;rw[show[3]++fg 9 l.length++iE (l.take i)++dt v=[3]++fg 9 l.length++iE (l.take (i+1)) by rw[es1];simp] at ap2;have kG2:=aj.mk ((kG.out.trans ((g5.sV kG.out.tn).re can2)).app (aJ _));have kb2:aj ((H2.app t).boxes[h.boxes.length]?=aa (aH 3 0 [] kl 4 ae)):=⟨by rw[eu];exact g5.box _ _ kb.out⟩;have ld:=Gd (H:=H1) dF.len hr;have s96:=oY;have FI:(i:Int)<(ae.length:Int):=(by omega);clear kG dF hv hr g5 can2 es1 el hl nl;refine cY @BB @a8 @fj ?_;exact⟨ae.length - (i+1),by omega,i+1,.free H2.tn,by omega,rfl,by trivial,by trivial,by simp,by trivial,kb2.out,kG2.out⟩
  ·have:i=ae.length:=(by omega);subst this;rw[show l.take ae.length=l by rw[kl2.out];exact fA] at g3;have ee:[3]++fg 9 l.length++iE l=3::(fg 9 l.length++iE l):=(by simp);rw[ee] at g3;refine bM @BB @fj ?_;exact⟨_,_,rfl,_,rfl,kG.out⟩
def alX{v:Vl}{r:List AV}(hv:cG v r)(hd:fT v<=16)(hl:(dt v).length<=1099511627000)(h:ak)(ho:cA h=ah):
 ∃r' h',W1.call 118 [.agg r] h=aa (r',h')/\∃t,r'=.ret (.tuple [.list t 1 (aW (dt v)),.v (.int .i64 0)])/\Ext h h':=by
 obtain⟨h1,c1,x1⟩:=al9 hv hd (h.push r);unfold im at c1;have x2:=(Ext.push h r).trans x1;obtain⟨r2,h2,c2,t,rfl,g2⟩:=amm hv hl h1 (x2.ok ho);have cs:=hv.cells;have ld:=oU hv.len (a9 h r);have ld2:=oU hv.len (x1.box _ _ (a9 h r));have kX:=aj.mk (g2.ext x2 x2.tn);clear hv x1 x2 hd g2 ho hl;refine df rfl Tryz.func118 rfl ?_;refine br @aoj ?_;exact⟨_,_,rfl,_,rfl,kX.out⟩
def zF:Tryz.f214.results.toList=[.cell 4 229]:=au
def RQ:gx al 229=aa ah:=au
def Hh:dm al 229=aa 8:=au
def abS:gx al 242=aa ah:=au
def Ky:dm al 242=aa 64:=au
def ZB:(iN al 229).bind AV.b8=aa (bQ (aY 8 0#32)):=au
def kW:List ez:=(bO 64).map xP
def aiK{t}(ht:t<64):cQ kW t=xP t:=by unfold cQ kW;rw[dP,dW,ED ht];rfl
def Jm:kW.length=64:=rfl
def BK{l}:(AV.agg (bQ l)).b8=aa (bQ l):=by
 have:(bQ l).all AV.dN=ah:=by rw[dU];intro x hx;obtain⟨b,-,rfl⟩:=jo.1 hx;rfl
 unfold AV.b8;simp[this]
def Ov{H}{b n}{t}{l}(ha:gx al t=aa ah)(hs:dm al t=aa n)(hb:H.boxes[b]?=aa (bQ l))(hl:l.length=n):aI al Gt H t (.ptr (.box b) 0)=aa (.agg (bQ l)):=by rw[ja ha hs hb (by rw[bu];omega),iC,gm (by rw[bu];omega)]
def akb(h:ak):W1.call 225 [] h=aa (.ret (.agg (bQ kW)),h.push (bQ kW)):=by have z:=KG;have st:ct al (h.push (aY 64 (aN 0#32))) 242 (.ptr (.box h.boxes.length) 0) (.agg (bQ kW))=aa (h.push (bQ kW)):=lq BK Ky (by rw[bu,Jm]) bh;have ld:aI al Gt (h.push (bQ kW)) 242 (.ptr (.box h.boxes.length) 0)=aa (.agg (bQ kW)):=Ov abS Ky (a9 _ _) Jm;refine cC rfl Tryz.func225 rfl ?_;refine br @Yj ?_;generalize hb:mw al 242 _=z;rw[show z=aa (.agg (bQ kW)) from hb.symm.trans au];clear hb;exact lG @Yj
def xN{b n}{k}(hn:n<8):dy al 229 (.ptr (.box b) 0) (.v (.int k (n:Nat)))=aa (.ptr (.box b) n):=by have hu:=Tryz.underlying229;unfold dy;rw[hu];simp only[wC];rw[aF ⟨ag,by omega⟩];simp
def ase{a b c d e f g h}:cQ [a,b,c,d,e,f,g,h] 0=a/\cQ [a,b,c,d,e,f,g,h] 1=b/\cQ [a,b,c,d,e,f,g,h] 2=c/\cQ [a,b,c,d,e,f,g,h] 3=d/\cQ [a,b,c,d,e,f,g,h] 4=e/\cQ [a,b,c,d,e,f,g,h] 5=f/\cQ [a,b,c,d,e,f,g,h] 6=g/\cQ [a,b,c,d,e,f,g,h] 7=h:=⟨rfl,rfl,rfl,rfl,rfl,rfl,rfl,rfl⟩
def acr(a b c d e f g h:ez):mw al 229 [(0,aN a),(1,aN b),(2,aN c),(3,aN d),(4,aN e),(5,aN f),(6,aN g),(7,aN h)]=aa (.agg (bQ [a,b,c,d,e,f,g,h])):=au
def arZ(s)(b):vF s b 0=s:=rfl
def an1(w)(t)(a b c d e f g i):GC w [a,b,c,d,e,f,g,i] t=
 [i+(NT.dz e 6^^^NT.dz e 11^^^NT.dz e 25)+((e&&&f)^^^(~~~e&&&g))+xP t+cQ w t+((NT.dz a 2^^^NT.dz a 13^^^NT.dz a 22)+((a&&&b)^^^(a&&&c)^^^(b&&&c))),
  a,b,c,d+(i+(NT.dz e 6^^^NT.dz e 11^^^NT.dz e 25)+((e&&&f)^^^(~~~e&&&g))+xP t+cQ w t),e,f,g]:=rfl
def aj9{u}:BJ al .xor (aN u)=aa (aN (~~~u)):=by
 have e:BJ al .xor (aN u)=aa (.v (.int .u32 (IntKind.u32.wrap ((BitVec.ofInt 32 4294967295^^^BitVec.ofInt 32 (u.toNat:Int)).toNat:Int)))):=by rfl
 rw[e,ofInt32];have h1:BitVec.ofInt 32 4294967295^^^u= ~~~u:=by
  apply BitVec.eq_of_getLsbD_eq;intro i hi;rw[BitVec.getLsbD_xor,BitVec.getLsbD_not];have:(BitVec.ofInt 32 4294967295).getLsbD i=ah:=by have h:∀j:Fin 32,(BitVec.ofInt 32 4294967295).getLsbD j.val=ah:=(by decide);exact h ⟨i,hi⟩
  rw[this];simp[hi]
 rw[h1,KF];rfl
def YH{k}{b}{lo hi}(h1:lo<=hi)(h2:hi<=b.length):∃k',gC al 28 (.list k 1 (aW b)) (aa (.v (.int .i64 (lo:Nat)))) (aa (.v (.int .i64 (hi:Nat)))) aq=aa (.list k' 1 (aW ((b.take hi).drop lo))):=by
 have jM:ga (aW b).length aq (aW b).length=aa (aW b).length:=rfl;have fk:ga (aW b).length (aa (.v (.int .i64 (hi:Nat)))) (aW b).length=aa hi:=by show(if 0<=(hi:Int)/\(hi:Int)<=((aW b).length:Int) then aa (hi:Int).toNat else aq)=_;rw[aF ⟨ag,by rw[bu];omega⟩,dL]
 have xm:ga hi (aa (.v (.int .i64 (lo:Nat)))) 0=aa lo:=by show(if 0<=(lo:Int)/\(lo:Int)<=(hi:Int) then aa (lo:Int).toNat else aq)=_;rw[aF ⟨ag,by omega⟩,dL]
 refine⟨py k (decide (hi=(aW b).length)) av (hi - lo),?_⟩;unfold gC;simp only[iO,rN,jM,fk,xm,Option.isSome_none,Bool.false_and,Bool.false_eq_true,if_false,true_or,if_true,Option.isNone_none,BT];simp only[List.map_drop,List.map_take]
def asn{b}{i}(hi:4 * i+4<=b.length):o6 ((b.take (4 * i+4)).drop (4 * i)) 0=o6 b (4 * i):=by
 have key:∀k,k<4->di ((b.take (4 * i+4)).drop (4 * i)) k=di b (4 * i+k):=λk hk=>by unfold di;rw[dP,nZ,nC,aF ag,dP]
 unfold o6;rw[key 0 aK,key (0+1) aK,key (0+2) aK,key (0+3) aK,Nat.add_zero,oF,oF,oF]
def al6(s:List ez)(b:List UInt8)(k:Tok)(h:ak)(hs:s.length=8)(hb:b.length=64):
 ∃h',W1.call 214 [.agg (bQ s),.list k 1 (aW b)] h=aa (.ret (.agg (bQ (vj s b))),h')/\Ext h h':=by
 have z1:=ZB;have z2:=KG;have c8:(AV.agg (bQ s)).b8=aa (bQ s):=BK;have kwz:=aj.mk (ZA b);refine gP rfl Tryz.func214 rfl ?_;refine br @zF ?_;generalize js:mw al 242 []=z;rw[show z=aa (.agg (aY 64 (aN 0#32))) from js.symm.trans au];clear js;generalize tm:(h.push (bQ s)).push (bQ (aY 8 0#32))=H0;have kX0:aj (Ext h H0):=⟨by rw[<-tm];exact(Ext.push _ _).trans (.push _ _)⟩;have kS0:aj (H0.boxes[h.boxes.length]?=aa (bQ s)):=⟨by rw[<-tm];exact bg (a9 _ _)⟩;have kR0:aj (H0.boxes[h.boxes.length+1]?=aa (bQ (aY 8 0#32))):=⟨by rw[<-tm];exact mB (by rw[cK])⟩;have MK:H0.boxes.length=h.boxes.length+2:=by rw[<-tm,cK,cK]
 have kl:=aj.mk MK;clear MK tm;have st0:ct al (H0.push (aY 64 (aN 0#32))) 242 (.ptr (.box H0.boxes.length) 0) (.agg (aY 64 (aN 0#32)))=aa (H0.push (bQ (wl b 0))):=by rw[kwz.out,<-QD];exact lq BK Ky bh bh
 refine br @zF ?_;refine cq (λm e H=>∃i:Nat,i<=16/\m=16 - i/\e.get 1=.list k 1 (aW b)/\e.get 2=.ptr (.box h.boxes.length) 0/\e.get 4=.ptr (.box (h.boxes.length+1)) 0/\e.get 5=.ptr (.box H0.boxes.length) 0/\e.get 6=.v (.int .i64 i)/\e.defers=[]/\H=H0.push (bQ (wl b i))) ?_ 16 _ _ ?_;rotate_left 1
 ·refine⟨0,by decide,rfl,?_,?_,?_,?_,?_,?_,rfl⟩<;>(first|assumption|(simp only[gW,reduceIte,aX,aR,cK]<;>rfl))
 clear z1 z2 c8 kwz st0;rintro m e H ⟨i,hi,rfl,g1,g2,g4,g5,g6,hd,rfl⟩;by_cases hc:i<16
 ·refine ql λQ=>?_;have ix:=qt (b:=H0.boxes.length) (n:=i) (k:=.i64) ag;have e4:IntKind.i64.wrap (4 * ((i:Nat):Int))=((4 * i:Nat):Int):=by rw[gf ag ag];omega
  have e5:IntKind.i64.wrap (((4 * i:Nat):Int)+4)=((4 * i+4:Nat):Int):=by rw[gf ag ag];omega
  obtain⟨k',sl⟩:=YH (k:=k) (b:=b) (lo:=4 * i) (hi:=4 * i+4) ag ag;have cw:=apv ((b.take (4 * i+4)).drop (4 * i)) (by rw[gE,eP];omega) k';rw[asn ag] at cw;have st:ct al (H0.push (bQ (wl b i))) 42 (.ptr (.box H0.boxes.length) i) (aN (o6 b (4 * i)))=aa (H0.push (bQ (wl b (i+1)))):=by rw[G9 (a9 _ _) (by rw[tN ag];omega),oA,KE ag (by rw[aF hc])]
  refine br @zF ?_;exact⟨16 - (i+1),by omega,i+1,by omega,rfl,by trivial,by trivial,by trivial,by trivial,rfl,by trivial,rfl⟩
 have:i=16:=by omega
 subst this;clear hc hi;refine br @zF ?_;refine cq (λm e H=>∃i:Nat,16<=i/\i<=64/\m=64 - i/\e.get 2=.ptr (.box h.boxes.length) 0/\e.get 4=.ptr (.box (h.boxes.length+1)) 0/\e.get 5=.ptr (.box H0.boxes.length) 0/\e.get 7=.v (.int .i64 i)/\e.defers=[]/\H=H0.push (bQ (wl b i))) ?_ 48 _ _ ?_;rotate_left 1
 ·refine⟨16,by decide,by decide,rfl,?_,?_,?_,?_,?_,rfl⟩<;>(first|assumption|(exact gR))
 clear g1 g2 g4 g5 g6 hd;rintro m e H ⟨i,Ng,hi,rfl,g2,g4,g5,g7,hd,rfl⟩;by_cases hc:i<64
 ·refine ql λQ=>?_;have hw:=a9 H0 (bQ (wl b i));have l0:=qu hw (n:=i - 16) (by rw[tN hi];omega);have l1:=qu hw (n:=i - 15) (by rw[tN hi];omega);have l2:=qu hw (n:=i - 7) (by rw[tN hi];omega);have l3:=qu hw (n:=i - 2) (by rw[tN hi];omega);rw[Zz ag] at l0 l1 l2 l3;have i0:=qt (b:=H0.boxes.length) (n:=i - 16) (k:=.i64) ag;have i1:=qt (b:=H0.boxes.length) (n:=i - 15) (k:=.i64) ag;have i2:=qt (b:=H0.boxes.length) (n:=i - 7) (k:=.i64) ag;have i3:=qt (b:=H0.boxes.length) (n:=i - 2) (k:=.i64) ag;have i4:=qt (b:=H0.boxes.length) (n:=i) (k:=.i64) ag;have e0:IntKind.i64.wrap (((i:Nat):Int) - 16)=((i - 16:Nat):Int):=by rw[gf ag ag];omega
  have e1:IntKind.i64.wrap (((i:Nat):Int) - 15)=((i - 15:Nat):Int):=by rw[gf ag ag];omega
  have e2:IntKind.i64.wrap (((i:Nat):Int) - 7)=((i - 7:Nat):Int):=by rw[gf ag ag];omega
  have e3:IntKind.i64.wrap (((i:Nat):Int) - 2)=((i - 2:Nat):Int):=by rw[gf ag ag];omega
  have st:ct al (H0.push (bQ (wl b i))) 42 (.ptr (.box H0.boxes.length) i) (aN (DJ (gY b i) i))=aa (H0.push (bQ (wl b (i+1)))):=by rw[G9 hw (by rw[tN ag];omega),oA,KE ag (by rw[aG ag])]
  unfold DJ at st;have r7:=v8 (cQ (gY b i) (i - 15)) 7 aK aK;have r18:=v8 (cQ (gY b i) (i - 15)) 18 aK aK;have r17:=v8 (cQ (gY b i) (i - 2)) 17 aK aK;have r19:=v8 (cQ (gY b i) (i - 2)) 19 aK aK;have r7:∀h,W1.call 224 [aN (cQ (gY b i) (i - 15)),.v (.int .i64 7)] h=aa (.ret (aN (NT.dz (cQ (gY b i) (i - 15)) 7)),h):=r7;have r18:∀h,W1.call 224 [aN (cQ (gY b i) (i - 15)),.v (.int .i64 18)] h=aa (.ret (aN (NT.dz (cQ (gY b i) (i - 15)) 18)),h):=r18;have r17:∀h,W1.call 224 [aN (cQ (gY b i) (i - 2)),.v (.int .i64 17)] h=aa (.ret (aN (NT.dz (cQ (gY b i) (i - 2)) 17)),h):=r17;have r19:∀h,W1.call 224 [aN (cQ (gY b i) (i - 2)),.v (.int .i64 19)] h=aa (.ret (aN (NT.dz (cQ (gY b i) (i - 2)) 19)),h):=r19;clear hw
  repeat' (first|simp(maxSteps:=999999)(disch:=first|exact dZ|fail)only[gW,reduceIte,aX,aR,zF,nV,nI,wu,wq, *]|(refine dX ?_ ?_<;>(intro _;try omega))|refine ey ub au ?_)
  exact⟨64 - (i+1),by omega,i+1,by omega,by omega,rfl,by trivial,by trivial,by trivial,rfl,by trivial,rfl⟩
 have:i=64:=by omega
 subst this;clear hc hi Ng;have kwl:=aj.mk (QF b);have mG:=D9 b 64;rw[QF];generalize hW:gY b 64=w at *
 have nn:=akb (H0.push (bQ w));have z2:=KG;generalize jr:H0.push (bQ w)=H1 at *
 have kw1:aj (H1.boxes[H0.boxes.length]?=aa (bQ w)):=⟨by rw[<-jr];exact a9 _ _⟩;have kl1:aj (H1.boxes.length=H0.boxes.length+1):=⟨by rw[<-jr,cK]⟩;have kX1:aj (Ext H0 H1):=⟨by rw[<-jr];exact Ext.push _ _⟩;clear jr;have st2:ct al ((H1.push (bQ kW)).push (aY 64 (aN 0#32))) 242 (.ptr (.box (H1.push (bQ kW)).boxes.length) 0) (.agg (bQ kW))=aa ((H1.push (bQ kW)).push (bQ kW)):=lq BK Ky (by rw[bu,Jm]) bh;have xH:Ext H1 ((H1.push (bQ kW)).push (bQ kW)):=(Ext.push _ _).trans (.push _ _);have kN:=a9 (H1.push (bQ kW)) (bQ kW);have b1:=xH.box _ _ (kX1.out.box _ _ kS0.out);obtain⟨s0,s1,s2,s3,s4,s5,s6,s7,rfl⟩:=eight hs;have ld:=λn hn=>qu b1 (n:=n) hn;have l0:=ld 0 bh;have l1:=ld 1 bh;have l2:=ld 2 bh;have l3:=ld 3 bh;have l4:=ld 4 bh;have l5:=ld 5 bh;have l6:=ld 6 bh;have l7:=ld 7 bh;have j0:dy al 229 (.ptr (.box h.boxes.length) 0) (.v (.int .i64 0))=aa (.ptr (.box h.boxes.length) 0):=xN (n:=0) aK;have j1:dy al 229 (.ptr (.box h.boxes.length) 0) (.v (.int .i64 1))=aa (.ptr (.box h.boxes.length) 1):=xN (n:=1) aK;have j2:dy al 229 (.ptr (.box h.boxes.length) 0) (.v (.int .i64 2))=aa (.ptr (.box h.boxes.length) 2):=xN (n:=2) aK;have j3:dy al 229 (.ptr (.box h.boxes.length) 0) (.v (.int .i64 3))=aa (.ptr (.box h.boxes.length) 3):=xN (n:=3) aK;have j4:dy al 229 (.ptr (.box h.boxes.length) 0) (.v (.int .i64 4))=aa (.ptr (.box h.boxes.length) 4):=xN (n:=4) aK;have j5:dy al 229 (.ptr (.box h.boxes.length) 0) (.v (.int .i64 5))=aa (.ptr (.box h.boxes.length) 5):=xN (n:=5) aK;have j6:dy al 229 (.ptr (.box h.boxes.length) 0) (.v (.int .i64 6))=aa (.ptr (.box h.boxes.length) 6):=xN (n:=6) aK;have j7:dy al 229 (.ptr (.box h.boxes.length) 0) (.v (.int .i64 7))=aa (.ptr (.box h.boxes.length) 7):=xN (n:=7) aK;simp only[ase] at l0 l1 l2 l3 l4 l5 l6 l7;have lw:=λn hn=>qu (xH.box _ _ kw1.out) (n:=n) hn;have lk:=λn hn=>qu kN (n:=n) hn;have b2:=xH.box _ _ (kX1.out.box _ _ kR0.out);have kX2:=aj.mk (kX0.out.trans (kX1.out.trans xH));have klw:=aj.mk lw;have klk:=aj.mk lk;have kb2:=aj.mk b2;clear ld lw lk b1 b2 xH kN
 repeat' (first|simp(maxSteps:=999999)(disch:=first|exact dZ|fail)only[gW,reduceIte,aX,aR,zF, *]|(refine dX ?_ ?_<;>(intro _;try omega))|refine ey ub au ?_)
 generalize hN:(H1.push (bQ kW)).boxes.length=N at *
 generalize (H1.push (bQ kW)).push (bQ kW)=H2 at *
 clear hN;refine bG.gen λe2 q2 qd2 _ _=>?_;have f2:e2.get 2=.ptr (.box h.boxes.length) 0:=by rw[q2];simp only[gW,reduceIte,aX,aR,g2]
 have f4:e2.get 4=.ptr (.box (h.boxes.length+1)) 0:=by rw[q2];simp only[gW,reduceIte,aX,aR,g4]
 have f5:e2.get 5=.ptr (.box H0.boxes.length) 0:=by rw[q2];simp only[gW,reduceIte,aX,aR,g5]
 have f10:e2.get 10=.ptr (.box N) 0:=by rw[q2];exact gS
 have f11:e2.get 11=aN s0:=by rw[q2];exact gS
 have f12:e2.get 12=aN s1:=by rw[q2];exact gS
 have f13:e2.get 13=aN s2:=by rw[q2];exact gS
 have f14:e2.get 14=aN s3:=by rw[q2];exact gS
 have f15:e2.get 15=aN s4:=by rw[q2];exact gS
 have f16:e2.get 16=aN s5:=by rw[q2];exact gS
 have f17:e2.get 17=aN s6:=by rw[q2];exact gS
 have f18:e2.get 18=aN s7:=by rw[q2];exact gS
 have f19:e2.get 19=.v (.int .i64 (0:Nat)):=by rw[q2];simp only[gW,reduceIte,aX,aR];rfl
 have fd:e2.defers=[]:=by rw[qd2];simp only[gW,reduceIte,aX,aR,hd]
 clear q2 qd2;refine cq (λm e H=>∃(i:Nat) (a b' c d e' f g j:ez),i<=64/\m=64 - i/\vF [s0,s1,s2,s3,s4,s5,s6,s7] b i=[a,b',c,d,e',f,g,j]/\e.get 2=.ptr (.box h.boxes.length) 0/\e.get 4=.ptr (.box (h.boxes.length+1)) 0/\e.get 5=.ptr (.box H0.boxes.length) 0/\e.get 10=.ptr (.box N) 0/\
  e.get 11=aN a/\e.get 12=aN b'/\e.get 13=aN c/\e.get 14=aN d/\e.get 15=aN e'/\e.get 16=aN f/\e.get 17=aN g/\e.get 18=aN j/\e.get 19=.v (.int .i64 i)/\e.defers=[]/\H=H2) ?_ 64 _ _ ?_
 rotate_left 1
 ·refine⟨0,s0,s1,s2,s3,s4,s5,s6,s7,by decide,rfl,arZ _ _,f2,f4,f5,f10,f11,f12,f13,f14,f15,f16,f17,f18,f19,fd,rfl⟩
 clear f2 f4 f5 f10 f11 f12 f13 f14 f15 f16 f17 f18 f19 fd g2 g4 g5 g7 hd nn z2 st2;rintro m e H ⟨i,a,b',c,d,e',f,g,j,hi,rfl,hv,g2,g4,g5,g10,g11,g12,g13,g14,g15,g16,g17,g18,g19,hd,rfl⟩;by_cases hc:i<64
 ·refine ql λQ=>?_;have lk:=klk.out i (by rw[Jm];exact hc);have lw:=klw.out i (by rw[mG];exact hc);rw[aiK hc] at lk;have V1:=qt (b:=H0.boxes.length) (n:=i) (k:=.i64) hc;have Dy:=qt (b:=N) (n:=i) (k:=.i64) hc;have iH:=QC [s0,s1,s2,s3,s4,s5,s6,s7] b i;rw[hv,hW,an1] at iH;have kv:=aj.mk iH;have r6:∀h,W1.call 224 [aN e',.v (.int .i64 6)] h=aa (.ret (aN (NT.dz e' 6)),h):=v8 e' 6 aK aK;have r11:∀h,W1.call 224 [aN e',.v (.int .i64 11)] h=aa (.ret (aN (NT.dz e' 11)),h):=v8 e' 11 aK aK;have r25:∀h,W1.call 224 [aN e',.v (.int .i64 25)] h=aa (.ret (aN (NT.dz e' 25)),h):=v8 e' 25 aK aK;have r2:∀h,W1.call 224 [aN a,.v (.int .i64 2)] h=aa (.ret (aN (NT.dz a 2)),h):=v8 a 2 aK aK;have r13:∀h,W1.call 224 [aN a,.v (.int .i64 13)] h=aa (.ret (aN (NT.dz a 13)),h):=v8 a 13 aK aK;have r22:∀h,W1.call 224 [aN a,.v (.int .i64 22)] h=aa (.ret (aN (NT.dz a 22)),h):=v8 a 22 aK aK;clear iH hv l0 l1 l2 l3 l4 l5 l6 l7 j0 j1 j2 j3 j4 j5 j6 j7
  repeat' (first|simp(maxSteps:=999999)(disch:=first|exact dZ|fail)only[gW,reduceIte,aX,aR,zF,nV,nI,Ct,aj9, *]|(refine dX ?_ ?_<;>(intro _;try omega))|refine ey ub au ?_)
  refine⟨64 - (i+1),by omega,i+1,_,a,b',c,_,e',f,g,by omega,rfl,kv.out,?_⟩;refine⟨?_,?_,?_,?_,rfl,?_,?_,?_,rfl,?_,?_,?_,?_,?_,?_⟩<;>first|exact aQ|exact rfl
 ·have:i=64:=by omega
  subst this;have hbF:vj [s0,s1,s2,s3,s4,s5,s6,s7] b=[s0+a,s1+b',s2+c,s3+d,s4+e',s5+f,s6+g,s7+j]:=by unfold vj;show List.zipWith (·+·) [s0,s1,s2,s3,s4,s5,s6,s7] (vF [s0,s1,s2,s3,s4,s5,s6,s7] b 64)=_;rw[hv];rfl
  rw[hbF];have zG:ct al H 229 (.ptr (.box (h.boxes.length+1)) 0) (.agg (bQ [s0+a,s1+b',s2+c,s3+d,s4+e',s5+f,s6+g,s7+j]))=aa (H.put (h.boxes.length+1) (bQ [s0+a,s1+b',s2+c,s3+d,s4+e',s5+f,s6+g,s7+j])):=by rw[gL BK Hh kb2.out rfl bh,wx bh]
  have kQ:aI al Gt (H.put (h.boxes.length+1) (bQ [s0+a,s1+b',s2+c,s3+d,s4+e',s5+f,s6+g,s7+j])) 229 (.ptr (.box (h.boxes.length+1)) 0)=aa (.agg (bQ [s0+a,s1+b',s2+c,s3+d,s4+e',s5+f,s6+g,s7+j])):=Ov RQ Hh (ev (aP.1 kb2.out).1) rfl;clear hv;simp only[eo,tR] at zG kQ
  repeat' (first|simp(maxSteps:=999999)(disch:=first|exact dZ|fail)only[gW,reduceIte,aX,aR,zF,nV,nI,acr, *]|(refine dX ?_ ?_<;>(intro _;try omega))|refine ey ub au ?_)
  exact⟨_,rfl,kX2.out.fO ag _⟩
def GU:Tryz.f213.results.toList=[.tmp 2]:=au
def LG{H}{k}{n0}{es new}{x}(hx:me H 1 x=aa (aW new))(hl:es.length+new.length<=8796093022208)(hk:dj n0 H k)(ho:cA H=ah)(hn:n0<=H.tn):
 ∃t H',gq al H #[28,28] (.list k 1 (aW es)) x=aa (.list t 1 (aW (es++new)),H')/\Grown n0 H H' t:=by
 by_cases hs:new=[]
 ·subst hs;obtain⟨i,q1,q2,q3,q4⟩:=Bn;refine⟨k,H,?_,Grown.refl hk ho⟩;rw[R1 iO (.inl ⟨_,iO⟩) q1 ag (by rw[q2];exact q4) (by rw[q2];exact hx) (.inl q2.symm),jH]
 ·exact⟨_,_,HU (.inl ⟨_,iO⟩) hx hs hl (.inl rfl) hk,Grown.one hk ho hn⟩
def LU:fC al 28 0 []=aa (.list .tight 1 []):=au
def ac8:fC al 28 1 [(0,.v (.int .u8 128))]=aa (.list .tight 1 [[bT 128]]):=au
def acW:fC al 28 1 [(0,.v (.int .u8 0))]=aa (.list .tight 1 [[bT 0]]):=au
def apY{t}{x y}{n k}(hk:k<=7):cN al .shr t x y (.v (.int .u64 (n:Nat))) (.v (.int .i64 ((8 * k:Nat):Int)))=aa (.v (.int .u64 ((n/2^(8 * k):Nat):Int))):=by rw[Am ag,dL,show IntKind.u64.bits=64 from rfl,Nat.min_eq_left ag];congr 3;rw[Eu _ (by have:(0:Int)<2^(8 * k):=Int.pow_pos aK;omega)];simp
def ai6{n c}(hc:c<8):(nR n).take (c+1)=(nR n).take c++[UInt8.ofNat (n * 8/2^(8 * (7 - c)))]:=by refine fH ?_;unfold nR;rw[dW,ED hc];rfl
def sO(b:List UInt8)(j:Nat):List UInt8:=b++0x80::aY j 0
def akD(b)(j):sO b j++[0]=sO b (j+1):=by unfold sO;rw[List.replicate_succ'];simp
def O1(b)(j):(sO b j).length=b.length+1+j:=by unfold sO;simp;omega
def aoe(b:List UInt8)(k:Tok)(h:ak)(ho:cA h=ah)(hb:b.length<=1099511620000):
 ∃r h',W1.call 213 [.list k 1 (aW b)] h=aa (r,h')/\∃t,r=.ret (.list t 1 (aW (pU b)))/\Grown h.tn h h' t:=by
 obtain⟨t1,h1,a1,g1⟩:=LG (H:=h) (k:=.tight) (n0:=h.tn) (es:=[]) (new:=b) (x:=.list k 1 (aW b)) OP (by simp;omega) (.inr (.inl rfl)) ho (aJ _);rw[lV] at a1;replace a1:gq al h #[28,28] (.list .tight 1 []) (.list k 1 (aW b))=aa (.list t1 1 (aW b),h1):=a1;have a2:=yA (H:=h1) (k:=t1) (k':=.tight) (es:=b) (c:=128) ag (.inl rfl) g1.can;have g2:=g1.app (aJ _);have kG:=aj.mk g2;have e0:b++[128]=sO b 0:=rfl;rw[e0] at a2;have u28:=iO;have bl:=LU;have bl1:=ac8;have mR:(aW b).length=b.length:=bu _;clear g1 g2 ho e0;refine df rfl Tryz.func213 rfl ?_;refine br @GU ?_;refine cq (λm e H=>∃(j:Nat) (t:Tok),j<=nW b.length/\m=nW b.length - j/\e.get 0=.list k 1 (aW b)/\e.get 3=.list t 1 (aW (sO b j))/\e.defers=[]/\Grown h.tn h H t) ?_ (nW b.length) _ _ ?_;rotate_left 1
 ·refine⟨0,.free h1.tn,cr _,rfl,?_,?_,?_,kG.out⟩<;>(first|assumption|(exact gR))
 clear kG a1 a2;rintro m e H ⟨j,t,hj,rfl,g0,g3,hd,hG⟩;have kG:=aj.mk hG;have hz:nW b.length=(119 - b.length%64)%64:=rfl;have eR:(aW (sO b j)).length=b.length+1+j:=by rw[bu,O1]
 have hm:((b.length+1+j:Nat):Int).tmod 64=(((b.length+1+j)%64:Nat):Int):=nU _ 64;by_cases aA:j<nW b.length
 ·have bH:¬((((b.length+1+j)%64:Nat):Int)=56):=by omega
  have ap:=yA (H:=H) (k:=t) (k':=.tight) (es:=sO b j) (c:=0) (by rw[O1];omega) (.inl rfl) hG.can;rw[akD] at ap;have bl2:=acW;clear hG;refine br @GU ?_;exact⟨nW b.length - (j+1),by omega,j+1,.free H.tn,by omega,rfl,by trivial,by trivial,by trivial,kG.out.app (aJ _)⟩
 have:j=nW b.length:=by omega
 subst this;have lI:(b.length+1+nW b.length)%64=56:=by omega
 rw[lI] at hm;have w1:=uW (n:=b.length) ag;have w2:IntKind.u64.wrap (((b.length:Nat):Int) * 8)=((b.length * 8:Nat):Int):=by rw[show((b.length:Nat):Int) * 8=((b.length * 8:Nat):Int) by omega,uW ag]
 have kll:=aj.mk eR;have atb:((56:Nat):Int)=56:=rfl;clear hG hz;refine bM @GU @qg ?_;refine cq (λm e H=>∃(c:Nat) (t:Tok),c<=8/\m=8 - c/\e.get 3=.list t 1 (aW (sO b (nW b.length)++(nR b.length).take c))/\e.get 4=.v (.int .u64 ((b.length * 8:Nat):Int))/\e.get 5=.v (.int .i64 (7 - (c:Int)))/\e.defers=[]/\Grown h.tn h H t) ?_ 8 _ _ ?_;rotate_left 1
 ·refine⟨0,t,cr _,rfl,?_,?_,?_,?_,kG.out⟩<;>(first|assumption|(simp only[gW,reduceIte,aX,aR,fB,jH]<;>first|assumption|rfl))
 clear kG g0 g3 hd;rintro m e H ⟨c,t,hc,rfl,g3,g4,g5,hd,hG⟩;have kG:=aj.mk hG;by_cases aA:c<8
 ·have dM:(0:Int)<=7 - (c:Int):=by omega
  have e8:IntKind.i64.wrap (8 * (7 - (c:Int)))=((8 * (7 - c):Nat):Int):=by rw[gf ag ag];omega
  have e1:IntKind.i64.wrap (7 - (c:Int) - 1)=7 - ((c+1:Nat):Int):=by rw[gf ag ag];omega
  have sh:=λt x y=>apY (t:=t) (x:=x) (y:=y) (n:=b.length * 8) (k:=7 - c) ag;have uv:=Qy (b.length * 8/2^(8 * (7 - c)));have bl3:=yC (UInt8.ofNat (b.length * 8/2^(8 * (7 - c))));have Ud:(nR b.length).length=8:=by simp[nR]
  have ap:=yA (H:=H) (k:=t) (k':=.tight) (es:=sO b (nW b.length)++(nR b.length).take c) (c:=UInt8.ofNat (b.length * 8/2^(8 * (7 - c)))) (by rw[dk,O1,eP];have:nW b.length<64:=mr _ aK;omega) (.inl rfl) hG.can;rw[rR,<-ai6 aA] at ap;clear hG;refine bM @GU @CF ?_;exact⟨8 - (c+1),by omega,c+1,.free H.tn,by omega,rfl,by trivial,by trivial,by trivial,by trivial,kG.out.app (aJ _)⟩
 ·have:c=8:=by omega
  subst this;have Ud:(nR b.length).take 8=nR b.length:=gm (by simp[nR]);have hp:sO b (nW b.length)++nR b.length=pU b:=by unfold sO pU;simp
  rw[Ud,hp] at g3;have Ny:¬((0:Int)<=7 - ((8:Nat):Int)):=by omega
  clear hG;refine br @GU ?_;exact⟨_,_,rfl,_,rfl,kG.out⟩
def aox:Tryz.f166.results.toList=[.cell 4 177]:=au
def PB:Tryz.f123.results.toList=[.tmp 4]:=au
def akF(b):(pU b).length=64 * ((pU b).length/64):=by
 have:(pU b).length=b.length+1+nW b.length+8:=by unfold pU;simp[nR];omega
 have hz:nW b.length=(119 - b.length%64)%64:=rfl;omega
def WJ:∀(s:List ez) (i:Nat),i<4 * s.length->(jm s)[i]?=aa (UInt8.ofNat ((cQ s (i/4)).toNat/256^(3 - i%4)))
 | [],i,h=>by simp at h
 |x::s,i,h=>by
  have e:jm (x::s)=[UInt8.ofNat (x.toNat/16777216),UInt8.ofNat (x.toNat/65536),UInt8.ofNat (x.toNat/256),UInt8.ofNat x.toNat]++jm s:=by unfold jm;rw[List.flatMap_cons]
  rw[e];rcases dI i 4 with q|q
  ·have:i=0∨i=1∨i=2∨i=3:=(by omega);rcases this with rfl|rfl|rfl|rfl<;>simp[cQ]
  ·rw[yu (by simpa using q)];have:=WJ s (i - 4) (by simp at h;omega);simp only[iW,jI];rw[(ag:i - (0+1+1+1+1)=i - 4),this];have h1:i/4=(i - 4)/4+1:=(by omega);have h2:i%4=(i - 4)%4:=(by omega);rw[h1,h2];rfl
def acq:mw al 177 []=aa (.agg (aY 32 (bT 0))):=au
def acA:mw al 229 [(0,.v (.int .u32 1779033703)),(1,.v (.int .u32 3144134277)),(2,.v (.int .u32 1013904242)),(3,.v (.int .u32 2773480762)),(4,.v (.int .u32 1359893119)),(5,.v (.int .u32 2600822924)),(6,.v (.int .u32 528734635)),(7,.v (.int .u32 1541459225))]=aa (.agg (bQ NT.start)):=au
def amn:(AV.agg (aY 32 (bT 0))).b8=aa (aY 32 (bT 0)):=au
def apZ{t}{x y}{v:ez}{r}(hr:r<4):cN al .shr t x y (aN v) (.v (.int .i64 (24 - ((8 * r:Nat):Int))))=aa (.v (.int .u32 ((v.toNat/256^(3 - r):Nat):Int))):=by
 have e:(24 - ((8 * r:Nat):Int))=((24 - 8 * r:Nat):Int):=by omega
 rw[e,rM ag];unfold aN;rw[BitVec.toNat_ushiftRight,Nat.shiftRight_eq_div_pow];have:2^(24 - 8 * r)=256^(3 - r):=by rw[show(256:Nat)=2^8 from rfl,<-Nat.pow_mul];congr 1;omega
 rw[this]
def ae3(n)(h):mK al h 42 5 (.v (.int .u32 n))=aa (.v (.int .u8 (IntKind.u8.wrap n)),h):=au
def aiH{b}{n}(hn:n<32):dy al 177 (.ptr (.box b) 0) (.v (.int .i64 (n:Nat)))=aa (.ptr (.box b) n):=Gc hn
def Yp(b:List UInt8)(k:Tok)(h:ak)(ho:cA h=ah)(hb:b.length<=1099511620000):∃h',W1.call 190 [.list k 1 (aW b)] h=aa (.ret (.agg (bP (eI b))),h')/\Ext h h':=by
 have z1:=Ei;have z2:=ZB;have bst:=acA;have x0:Ext h ((h.push (aY 32 (bT 0))).push (bQ NT.start)):=(Ext.push _ _).trans (.push _ _);have st0:ct al ((h.push (aY 32 (bT 0))).push (bQ (aY 8 0#32))) 229 (.ptr (.box (h.push (aY 32 (bT 0))).boxes.length) 0) (.agg (bQ NT.start))=aa ((h.push (aY 32 (bT 0))).push (bQ NT.start)):=lq BK Hh rfl rfl;obtain⟨r1,h1,c1,t,rfl,g1⟩:=aoe b k _ (x0.ok ho) hb;have FW:(pU b).length=b.length+1+nW b.length+8:=by unfold pU;simp[nR];omega
 have sK:nW b.length<64:=mr _ aK;have hpm:=akF b;have kSh:aj (eI b=jm (gh ((pU b).length/64) NT.start (pU b))):=⟨rfl⟩;generalize pU b=p at *
 generalize hn:p.length/64=n at *
 have kX:=aj.mk (g1.ext x0 x0.tn);have kd:=aj.mk (g1.box _ _ (bg (a9 h (aY 32 (bT 0)))));have ks:aj (h1.boxes[h.boxes.length+1]?=aa (bQ NT.start)):=⟨g1.box _ _ (mB (by rw[cK]))⟩;have atl:(aW p).length=p.length:=bu _;have u28:=iO;clear x0 g1 ho;refine gP rfl Tryz.func190 rfl ?_;refine br @GO ?_;refine cq (λm e H=>∃i:Nat,i<=n/\m=n - i/\e.get 2=.ptr (.box h.boxes.length) 0/\e.get 3=.ptr (.box (h.boxes.length+1)) 0/\e.get 4=.list t 1 (aW p)/\e.get 5=.v (.int .i64 ((64 * i:Nat):Int))/\e.defers=[]/\H.boxes[h.boxes.length]?=aa (aY 32 (bT 0))/\H.boxes[h.boxes.length+1]?=aa (bQ (gh i NT.start p))/\Ext h H) ?_ n _ _ ?_;rotate_left 1
 ·refine⟨0,cr _,rfl,?_,?_,?_,?_,?_,kd.out,ks.out,kX.out⟩<;>(first|assumption|(simp only[gW,reduceIte,aX,aR,cK]<;>rfl))
 clear kd ks kX st0 z2 bst c1;rintro m e H ⟨i,hi,rfl,g2,g3,g4,g5,hd,mQ,tw,hX⟩;have h8:=ua i NT.start p rfl;by_cases aA:i<n
 ·refine ql λQ=>?_;have e1:IntKind.i64.wrap (((64 * i:Nat):Int)+64)=((64 * i+64:Nat):Int):=by rw[gf ag ag];omega
  obtain⟨k',sl⟩:=YH (k:=t) (b:=p) (lo:=64 * i) (hi:=64 * i+64) ag ag;have ep:(p.take (64 * i+64)).drop (64 * i)=(p.drop (64 * i)).take 64:=by rw[List.drop_take];congr 1;omega
  rw[ep] at sl;obtain⟨H2,c2,x2⟩:=al6 (gh i NT.start p) ((p.drop (64 * i)).take 64) k' H h8 (by rw[eP,gE];omega);rw[<-E9] at c2;have l0:aI al Gt H 229 (.ptr (.box (h.boxes.length+1)) 0)=aa (.agg (bQ (gh i NT.start p))):=Ov RQ Hh tw h8;have MS:=x2.box _ _ tw;have st:ct al H2 229 (.ptr (.box (h.boxes.length+1)) 0) (.agg (bQ (gh (i+1) NT.start p)))=aa (H2.put (h.boxes.length+1) (bQ (gh (i+1) NT.start p))):=by rw[gL BK Hh MS (by rw[bu,ua _ _ _ rfl]) (by rw[bu,h8];decide),wx (by rw[bu,bu,ua _ _ _ rfl,h8])]
  have kd:aj ((H2.put (h.boxes.length+1) (bQ (gh (i+1) NT.start p))).boxes[h.boxes.length]?=aa (aY 32 (bT 0))):=⟨by rw[cS ag];exact x2.box _ _ mQ⟩;have ks:aj ((H2.put (h.boxes.length+1) (bQ (gh (i+1) NT.start p))).boxes[h.boxes.length+1]?=aa (bQ (gh (i+1) NT.start p))):=⟨ev (aP.1 MS).1⟩;have kX:=aj.mk ((hX.trans x2).fO (ag:h.boxes.length<=h.boxes.length+1) (bQ (gh (i+1) NT.start p)));have Uz:((64 * i:Nat):Int)<(p.length:Int):=by omega
  clear mQ tw MS hX x2 ep
  repeat' (first|simp(maxSteps:=999999)(disch:=first|exact dZ|fail)only[gW,reduceIte,aX,aR,GO, *]|(refine dX ?_ ?_<;>(intro _;try omega))|refine ey ub au ?_)
  exact⟨n - (i+1),by omega,i+1,by omega,rfl,by trivial,by trivial,by trivial,by simp;omega,by trivial,kd.out,ks.out,kX.out⟩
 have:i=n:=by omega
 subst this;have Uz:¬((64 * i:Nat):Int)<(p.length:Int):=by omega
 generalize gh i NT.start p=s at *
 have c32:=amn;have bd:=acq;have st1:ct al (H.push (aY 32 (bT 0))) 177 (.ptr (.box H.boxes.length) 0) (.agg (aY 32 (bT 0)))=aa (H.push (aY 32 (bT 0))):=lq c32 pX rfl rfl;have kX:=aj.mk (hX.trans (Ext.push H (aY 32 (bT 0))));have kd:aj ((H.push (aY 32 (bT 0))).boxes[h.boxes.length]?=aa (aY 32 (bT 0))):=⟨bg mQ⟩;have ks:aj ((H.push (aY 32 (bT 0))).boxes[h.boxes.length+1]?=aa (bQ s)):=⟨bg tw⟩;have mR:=(aP.1 tw).1;have ahI:(jm s).length=32:=by rw[Bw,h8]
 clear hX mQ tw;refine br @GO ?_;refine cq (λm e H1=>∃j:Nat,j<=32/\m=32 - j/\e.get 2=.ptr (.box h.boxes.length) 0/\e.get 3=.ptr (.box (h.boxes.length+1)) 0/\e.get 6=.ptr (.box H.boxes.length) 0/\e.get 7=.v (.int .i64 j)/\e.defers=[]/\H1=H.push (bP ((jm s).take j)++aY (32 - j) (bT 0))) ?_ 32 _ _ ?_;rotate_left 1
 ·refine⟨0,cr _,rfl,?_,?_,?_,?_,?_,rfl⟩<;>(first|assumption|(exact gR))
 clear g2 g3 g4 g5 hd st1 bd c32 Uz;rintro m e H1 ⟨j,hj,rfl,g2,g3,g6,g7,hd,rfl⟩;by_cases aA:j<32
 ·refine ql λQ=>?_;have m1:((j:Nat):Int).tdiv 4=((j/4:Nat):Int):=Hk j 4;have m2:((j:Nat):Int).tmod 4=((j%4:Nat):Int):=nU j 4;have w1:IntKind.i64.wrap ((j/4:Nat):Int)=((j/4:Nat):Int):=gf ag ag;have w2:IntKind.i64.wrap (8 * ((j%4:Nat):Int))=((8 * (j%4):Nat):Int):=by rw[gf ag ag];omega
  have w3:IntKind.i64.wrap (24 - ((8 * (j%4):Nat):Int))=24 - ((8 * (j%4):Nat):Int):=gf ag ag;have ixs:=xN (b:=h.boxes.length+1) (n:=j/4) (k:=.i64) ag;have l1:aI al Gt (H.push (bP ((jm s).take j)++aY (32 - j) (bT 0))) 42 (.ptr (.box (h.boxes.length+1)) (j/4))=aa (aN (cQ s (j/4))):=by refine qu ?_ ag;have:=ks.out;rw[IC ag] at this ⊢;exact this
  have sh:=λt x y=>apZ (t:=t) (x:=x) (y:=y) (v:=cQ s (j/4)) (r:=j%4) ag;have uv:=Qy ((cQ s (j/4)).toNat/256^(3 - j%4));have ixd:=aiH (b:=H.boxes.length) aA;have ho:=WJ s j ag;have Y8:ct al (H.push (bP ((jm s).take j)++aY (32 - j) (bT 0))) 5 (.ptr (.box H.boxes.length) j) (bT (UInt8.ofNat ((cQ s (j/4)).toNat/256^(3 - j%4))))=aa (H.push (bP ((jm s).take (j+1))++aY (32 - (j+1)) (bT 0))):=by have hlen:(bP ((jm s).take j)).length=j:=(by rw[lu,eP];omega);rw[Ku (a9 _ _) (by rw[dk,hlen,lT];omega),oA];congr 2;obtain⟨q,hq⟩:∃q,32 - j=q+1:=⟨31 - j,by omega⟩;rw[hq,zW,List.set_append_right _ _ (by rw[hlen];exact aJ _),hlen,s9,List.set_cons_zero,fH ho,(ag:32 - (j+1)=q)];unfold bP;rw[List.map_append,rR];rfl
  clear ho;refine bM @GO @ae3 ?_;exact⟨32 - (j+1),by omega,j+1,by omega,rfl,by trivial,by trivial,by trivial,rfl,by trivial,rfl⟩
 ·have:j=32:=by omega
  subst this;have et:bP ((jm s).take 32)++aY (32 - 32) (bT 0)=bP (eI b):=by rw[gm ag,s9,aaK,jH,kSh.out]
  have hL:(bP (eI b)).length=32:=by rw[lu,kSh.out];exact ahI
  have vE:=(aP.1 kd.out).1;have kd2:(H.push (bP (eI b))).boxes[h.boxes.length]?=aa (aY 32 (bT 0)):=by have:=kd.out;rw[IC ag] at this ⊢;exact this
  have l1:aI al Gt (H.push (bP (eI b))) 177 (.ptr (.box H.boxes.length) 0)=aa (.agg (bP (eI b))):=by rw[ja Cs pX (a9 _ _) (by rw[hL];exact aJ _),iC,gm (by rw[hL];exact aJ _)]
  have st:ct al (H.push (bP (eI b))) 177 (.ptr (.box h.boxes.length) 0) (.agg (bP (eI b)))=aa ((H.push (bP (eI b))).put h.boxes.length (bP (eI b))):=by rw[gL (ye _) pX kd2 hL bh,wx (by rw[hL];rfl)]
  have l2:aI al Gt ((H.push (bP (eI b))).put h.boxes.length (bP (eI b))) 177 (.ptr (.box h.boxes.length) 0)=aa (.agg (bP (eI b))):=by rw[ja Cs pX (ev (aP.1 kd2).1) (by rw[hL];exact aJ _),iC,gm (by rw[hL];exact aJ _)]
  have xh:Ext h (H.push (bP (eI b))):=by have fk:∀(c:Nat) cs,h.boxes[c]?=aa cs->(H.push (bP (eI b))).boxes[c]?=aa cs:=λc cs hc=>(by have:=kX.out.box c cs hc;rw[IC (by have:=(aP.1 hc).1;omega)] at this ⊢;exact this);exact⟨fk,kX.out.loop,kX.out.tn,kX.out.dead,kX.out.ok⟩
  have kX2:=aj.mk (xh.fO (aJ _) (bP (eI b)));rw[et];clear kd2 xh et;refine br @GO ?_;exact⟨_,rfl,kX2.out⟩
def aoZ(aZ b)(k)(h)(ho:cA h=ah)(hb:b.length<=1099511610000)(ht:aZ.length<=1099511610000):
 ∃h',W1.call 166 [.v (.string (bs aZ)),.list k 1 (aW b)] h=aa (.ret (.agg (bP (fQ aZ b))),h')/\Ext h h':=by
 have z177:=Ei;have x0:Ext h ((h.push (aY 32 (bT 0))).app .nil):=(Ext.push _ _).trans (Ext.app (Ext.refl _) (.inl rfl));have e0:((h.push (aY 32 (bT 0))).app .nil).boxes=(h.push (aY 32 (bT 0))).boxes:=eu _ _;obtain⟨H2,c2,x2⟩:=Yp aZ (.free (h.push (aY 32 (bT 0))).tn) ((h.push (aY 32 (bT 0))).app .nil) (x0.ok ho) ag;have d0:H2.boxes[h.boxes.length]?=aa (aY 32 (bT 0)):=x2.box _ _ (by rw[e0];exact a9 _ _);have tl:(bP (eI aZ)).length=32:=by rw[lu,sR]
 have st1:ct al (H2.push (aY 32 (bT 0))) 177 (.ptr (.box H2.boxes.length) 0) (.agg (bP (eI aZ)))=aa (H2.push (bP (eI aZ))):=lq (ye _) pX tl rfl;have x3:Ext h (H2.push (bP (eI aZ))):=(x0.trans x2).trans (Ext.push _ _);have nr:me (H2.push (bP (eI aZ))) 1 (.arr H2.boxes.length 0 32 32)=aa (aW (eI aZ)):=
  dE.news (dE.box (yD _) (by rw[bu,sR]) (by rw[Hm];exact a9 _ _))
 obtain⟨t4,H4,a4,g4⟩:=LG (H:=H2.push (bP (eI aZ))) (k:=.tight) (n0:=h.tn) (es:=[]) nr (by rw[sR];simp) (.inr (.inl rfl)) (x3.ok ho) x3.tn;rw[lV] at a4;replace a4:gq al (H2.push (bP (eI aZ))) #[28,28] (.list .tight 1 []) (.arr H2.boxes.length 0 32 32)=aa (.list t4 1 (aW (eI aZ)),H4):=a4;have x4:=g4.ext x3 (aJ _);obtain⟨t5,H5,a5,g5⟩:=LG (H:=H4) (k:=t4) (n0:=h.tn) (es:=eI aZ) (new:=b) (x:=.list k 1 (aW b)) OP (by rw[sR];omega) g4.can g4.ok x4.tn;have x5:=g5.ext x4 (aJ _);obtain⟨H6,c6,x6⟩:=Yp (eI aZ++b) t5 H5 g5.ok (by rw[dk,sR];omega);have d6:H6.boxes[h.boxes.length]?=aa (aY 32 (bT 0)):=x6.box _ _ (g5.box _ _ (g4.box _ _ (bg d0)));have tl2:(bP (fQ aZ b)).length=32:=by rw[lu];exact sR _
 have st2:ct al H6 177 (.ptr (.box h.boxes.length) 0) (.agg (bP (fQ aZ b)))=aa (H6.put h.boxes.length (bP (fQ aZ b))):=by rw[gL (ye _) pX d6 tl2 bh,wx (by rw[tl2];simp)]
 have ld2:aI al Gt (H6.put h.boxes.length (bP (fQ aZ b))) 177 (.ptr (.box h.boxes.length) 0)=aa (.agg (bP (fQ aZ b))):=by rw[ja Cs pX (ev (aP.1 d6).1) (by rw[tl2];exact aJ _),iC,gm (by rw[tl2];exact aJ _)]
 replace c6:W1.call 190 [.list t5 1 (aW (eI aZ++b))] H5=aa (.ret (.agg (bP (fQ aZ b))),H6):=c6;have kX:=aj.mk ((x5.trans x6).fO (aJ _) (bP (fQ aZ b)));have bl:=LU;clear e0 x0 x2 x3 x4 x5 x6 g4 g5 d0 d6 tl tl2 nr;refine gP rfl Tryz.func166 rfl ?_;refine cY @aox @S7 @YG ?_;exact⟨_,rfl,kX.out⟩
def alY{b}:jd (mask b) 1=(di b 0).toNat%128∨b=[]:=by
 by_cases hb:b=[]
 ·exact .inr hb
 ·refine .inl ?_;have:0<b.length:=List.length_pos_iff.2 hb;show 0 * 256+(di (mask b) 0).toNat=_;rw[Ju this,aF rfl,LF];omega
def amQ(aZ b:List UInt8)(k:Tok)(h:ak)(ho:cA h=ah)(hb:b.length<=1099511610000)(ht:aZ.length<=1099511610000):
 ∃h',W1.call 123 [.v (.string (bs aZ)),.list k 1 (aW b)] h=aa (.ret (im (mb (fQ aZ b):Nat)),h')/\Ext h h':=by
 obtain⟨H1,c1,x1⟩:=aoZ aZ b k h ho hb ht;have hl:(fQ aZ b).length=32:=sR _;have dC:(bP (fQ aZ b)).length=32:=by rw[lu,hl]
 have he:=hash_eq (b:=fQ aZ b) ag;generalize fQ aZ b=d at *
 have bI:0<d.length:=by omega
 have z177:=Ei;have st1:ct al (H1.push (aY 32 (bT 0))) 177 (.ptr (.box H1.boxes.length) 0) (.agg (bP d))=aa (H1.push (bP d)):=lq (ye _) pX dC rfl;have ix0:dy al 177 (.ptr (.box H1.boxes.length) 0) (.v (.int .i64 0))=aa (.ptr (.box H1.boxes.length) 0):=Gc (n:=0) aK;have l0:aI al Gt (H1.push (bP d)) 5 (.ptr (.box H1.boxes.length) 0)=aa (.v (.int .u8 ((di d 0).toNat:Nat))):=Jn (a9 _ _) bI;have m0:(((di d 0).toNat:Nat):Int).tmod 128=((jd (mask d) 1:Nat):Int):=by refine(nU (di d 0).toNat 128).trans ?_;rw[show jd (mask d) 1=(di d 0).toNat%128 from alY.resolve_right (by rintro rfl;simp at bI)]
 have ew0:IntKind.i64.wrap (((di d 0).toNat:Nat):Int)=(((di d 0).toNat:Nat):Int):=by have:=tM (di d 0);exact gf ag ag
 have hX:=aj.mk (x1.trans (Ext.push H1 (bP d)));have aA:=λi hi=>Wm bI (i:=i) hi;have mE:∀i,i≠0->di (mask d) i=di d i:=λi hi=>by rw[Ju bI,aG hi]
 have kB:=aj.mk (a9 H1 (bP d));have klt:=aj.mk aA;have ke:=aj.mk he;have kl:=aj.mk hl;have kml:=aj.mk mE;clear dC hl aA he mE x1 bI ho;unfold im;refine gP rfl Tryz.func123 rfl ?_;refine bM @PB @Mi ?_;refine cq (λm e H=>∃i:Nat,1<=i/\i<=8/\m=8 - i/\e.get 5=.ptr (.box H1.boxes.length) 0/\e.get 7=.v (.int .i64 i)/\e.get 6=.v (.int .i64 (jd (mask d) i:Nat))/\e.defers=[]/\H=H1.push (bP d)) ?_ 7 _ _ ?_;rotate_left 1
 ·refine⟨1,by decide,by decide,rfl,?_,?_,?_,?_,rfl⟩<;>(first|assumption|(exact gR))
 clear z177 st1 ix0 l0 c1 m0 ew0;rintro m e H ⟨i,Nf,hi,rfl,g5,g7,g6,hd,rfl⟩;by_cases h8:i=8
 ·subst h8;have e1:(((jd (mask d) 8:Nat):Int)).tmod 1073741789=((mb d:Nat):Int):=by rw[<-ke.out];exact nU _ _
  generalize jd (mask d) 8=A at *
  refine br @PB ?_;exact⟨_,rfl,hX.out⟩
 ·have aA:i<8:=by omega
  have a1:=klt.out i aA;have u1:=tM (di d i);have ix:=Gc (b:=H1.boxes.length) (n:=i) (k:=.i64) ag;have ld:aI al Gt (H1.push (bP d)) 5 (.ptr (.box H1.boxes.length) i)=aa (.v (.int .u8 ((di d i).toNat:Nat))):=Jn kB.out (by have:=kl.out;omega);have ew:IntKind.i64.wrap (((di d i).toNat:Nat):Int)=(((di d i).toNat:Nat):Int):=gf ag ag;have kstep:=aj.mk (show jd (mask d) (i+1)=jd (mask d) i * 256+(di d i).toNat by rw[<-kml.out i ag];rfl);generalize jd (mask d) i=A at *
  generalize (di d i).toNat=r at *
  have e2:IntKind.i64.wrap (((A:Nat):Int) * 256)=((A * 256:Nat):Int):=by rw[gf ag ag];omega
  have e3:IntKind.i64.wrap (((A * 256:Nat):Int)+((r:Nat):Int))=((A * 256+r:Nat):Int):=by rw[gf ag ag];omega
  refine bM @PB @Mi ?_;exact⟨8 - (i+1),by omega,i+1,by omega,by omega,rfl,by trivial,rfl,by rw[kstep.out],by trivial,by trivial⟩
def aok:Tryz.f119.results.toList=[.cell 2 96]:=au
def aol:Tryz.f120.results.toList=[.cell 2 96]:=au
def aom:Tryz.f121.results.toList=[.cell 2 96]:=au
def LK(n):mw al 96 [(0,.v (.int .i64 1)),(1,.v (.int .i64 n))]=aa (.agg (aH 1 n [] .nil 0 [])):=au
def LL(s):mw al 96 [(0,.v (.int .i64 2)),(2,.v (.string (bs s)))]=aa (.agg (aH 2 0 s .nil 0 [])):=au
def bdl(k)(sz)(ae):mw al 96 [(0,.v (.int .i64 3)),(3,.list k sz ae)]=aa (.agg (aH 3 0 [] k sz ae)):=au
def Kv{H:ak}{k n}{s}{t}{sz}{ae}:ct al (H.push (aH 0 0 [] .nil 0 [])) 96 (.ptr (.box H.boxes.length) 0) (.agg (aH k n s t sz ae))=aa (H.push (aH k n s t sz ae)):=lq rfl oY rfl rfl
def Ou{H:ak}{k n}{s}{t}{sz}{ae}:aI al Gt (H.push (aH k n s t sz ae)) 96 (.ptr (.box H.boxes.length) 0)=aa (.agg (aH k n s t sz ae)):=oU rfl (a9 _ _)
def amY(n:Int)(h:ak):W1.call 120 [.v (.int .i64 n)] h=aa (.ret (.agg (aH 1 n [] .nil 0 [])),h.push (aH 1 n [] .nil 0 [])):=by have z:=wE;refine cC rfl Tryz.func120 rfl ?_;exact mP @aol @LK @Kv @Ou
def ao4(s:List UInt8)(h:ak):W1.call 121 [.v (.string (bs s))] h=aa (.ret (.agg (aH 2 0 s .nil 0 [])),h.push (aH 2 0 s .nil 0 [])):=by have z:=wE;refine cC rfl Tryz.func121 rfl ?_;exact mP @aom @LL @Kv @Ou
def anH(k:Tok)(sz:Nat)(ae:List (List AV))(h:ak):W1.call 119 [.list k sz ae] h=aa (.ret (.agg (aH 3 0 [] k sz ae)),h.push (aH 3 0 [] k sz ae)):=by have z:=wE;refine cC rfl Tryz.func119 rfl ?_;exact mP @aok @bdl @Kv @Ou
def L2:List FuncId:=[28,29,30,46,65,66,69,78,82,94,118,119,120,121,123,132,138,140,146,194,201]
noncomputable def Pf:FuncId->Option (List AV->ak->Option (AV × ak)):=pq W1 L2
noncomputable abbrev W2:=whole al Gt Pf
def yE:o8 Pf L2:=wX
section
variable (a b n x:Int)
def RK:∀h,W2.call 28 [im a,im b] h=aa (.ret (im (cP a b)),h):=bm (L:=L2) rfl rfl rfl (abF a b _) rfl rfl
def OJ:∀h,W2.call 29 [im a,im b] h=aa (.ret (im (b9 a b)),h):=bm (L:=L2) rfl rfl rfl (ajX a b _) rfl rfl
def aiB:∀h,W2.call 201 [im n] h=aa (.ret (.tuple [im (if fmod n=0 then 0 else dV n),im (if fmod n=0 then 90 else 0)]),h):=bm (L:=L2) rfl rfl rfl (aiA n _) rfl rfl
def ar4:∀h,W2.call 46 [im x] h=aa (.ret (.v (.bool (bE x))),h):=bm (L:=L2) rfl rfl rfl (ar1 x _) rfl rfl
def agu:∀h,W2.call 69 [im a,im b] h=aa (.ret (.tuple [im (jB a b),im (mO a b)]),h):=bm (L:=L2) rfl rfl rfl (agt a b _) rfl rfl
def agz:∀h,W2.call 30 [im a,im n] h=aa (.ret (.tuple [im (fU a n),im (ma a)]),h):=bm (L:=L2) rfl rfl rfl (agy a n _) rfl rfl
def al0:∀h,W2.call 65 [im a,im b] h=aa (.ret (im (cP a b)),h):=bm (L:=L2) rfl rfl rfl (alZ a b _) rfl rfl
def anJ:∀h,W2.call 66 [im a,im b] h=aa (.ret (im (b9 a b)),h):=bm (L:=L2) rfl rfl rfl (anI a b _) rfl rfl
def am0:∀h,W2.call 194 [im n] h=aa (.ret (.tuple [im (if fmod n=0 then 0 else dV n),im (if fmod n=0 then 90 else 0)]),h):=bm (L:=L2) rfl rfl rfl (amZ n _) rfl rfl
def apr:∀h,W2.call 94 [im x] h=aa (.ret (.v (.bool (bE x))),h):=bm (L:=L2) rfl rfl rfl (apq x _) rfl rfl
def amz:∀h,W2.call 140 [im a,im b] h=aa (.ret (.tuple [im (jB a b),im (mO a b)]),h):=bm (L:=L2) rfl rfl rfl (amy a b _) rfl rfl
def amG:∀h,W2.call 132 [im a,im n] h=aa (.ret (.tuple [im (fU a n),im (ma a)]),h):=bm (L:=L2) rfl rfl rfl (amF a n _) rfl rfl
def amU:∀h,W2.call 120 [im n] h=aa (.ret (.agg (aH 1 n [] .nil 0 [])),h):=bm (L:=L2) rfl rfl rfl (amY n _) rfl rfl
end
def ao0(s):∀h,W2.call 121 [sv s] h=aa (.ret (.agg (aH 2 0 s .nil 0 [])),h):=bm (L:=L2) rfl rfl rfl (ao4 s _) rfl rfl
def uG:cA ⟨[],[],0,[]⟩=ah:=rfl
def agp(aZ b)(k)(hb:b.length<=1099511620000)(ht:aZ.length<=1099511620000):∀h,W2.call 78 [.v (.string (bs aZ)),.list k 1 (aW b)] h=aa (.ret (im (mb (fQ aZ b):Nat)),h):=
 bm (L:=L2) (cd:=[.v (.string (bs aZ)),.list (bR k) 1 (aW b)]) rfl (by rw[bV,bV,aC.eq_1,oQ];rfl) (by simp[aU,aL,eX,jz]) (ago aZ b _ hb ht _) rfl rfl
def amM(aZ b)(k)(hb:b.length<=1099511610000)(ht:aZ.length<=1099511610000):∀h,W2.call 123 [.v (.string (bs aZ)),.list k 1 (aW b)] h=aa (.ret (im (mb (fQ aZ b):Nat)),h):=by obtain⟨h',hc,-⟩:=amQ aZ b (bR k) ⟨[],[],0,[]⟩ uG hb ht;exact bm (L:=L2) (cd:=[.v (.string (bs aZ)),.list (bR k) 1 (aW b)]) rfl (by rw[bV,bV,aC.eq_1,oQ];rfl) (by simp[aU,aL,eX,jz]) hc rfl rfl
def afu{v}{r}(hv:cG v r)(hd:fT v<=16)(hl:(dt v).length<=1099511600000):∃t,∀h,W2.call 146 [.agg r] h=aa (.ret (.tuple [.list t 1 (aW (dt v)),.v (.int .i64 0)]),h):=by obtain⟨h1,h2⟩:=cG.hold v r hv;obtain⟨r',h',hc,t,rfl,-⟩:=afw h1 hd ag ⟨[],[],0,[]⟩ uG;exact⟨bR t,bm (L:=L2) (cd:=[.agg (bV r)]) rfl rfl (by simpa [aU,aL] using h2) hc rfl (by simp[aL,aU,eX,jz])⟩
def ami{v}{r}(hv:cG v r)(hd:fT v<=16)(hl:(dt v).length<=1099511600000):∃t,∀h,W2.call 118 [.agg r] h=aa (.ret (.tuple [.list t 1 (aW (dt v)),.v (.int .i64 0)]),h):=by obtain⟨h1,h2⟩:=cG.hold v r hv;obtain⟨r',h',hc,t,rfl,-⟩:=alX h1 hd ag ⟨[],[],0,[]⟩ uG;exact⟨bR t,bm (L:=L2) (cd:=[.agg (bV r)]) rfl rfl (by simpa [aU,aL] using h2) hc rfl (by simp[aL,aU,eX,jz])⟩
def ng(l:List Vl)(ae:List (List AV)):Prop:=ae.length=l.length/\∀(i:Nat) v r,l[i]?=aa v->ae[i]?=aa r->cG v r
def aoG:Tryz.f202.results.toList=[.tmp 4]:=au
def PN:Tryz.f219.results.toList=[]:=au
def oI:gx al 23=aa av:=au
def abN:gx al 203=aa av:=au
def uA{H}{b}{x}(hb:H.boxes[b]?=aa [x]):aI al Gt H 23 (.ptr (.box b) 0)=aa x:=by rw[lP oI hb];rfl
def vT{H}{b}{x}(hb:H.boxes[b]?=aa [x]):aI al Gt H 203 (.ptr (.box b) 0)=aa x:=by rw[lP abN hb];rfl
def xQ{H}{b k}{cs}{x}(hb:H.boxes[b]?=aa cs)(hk:cs[k]?=aa x):aI al Gt H 3 (.ptr (.box b) k)=aa x:=by rw[lP eM hb,HH,hk]
def sM{H}{b k}{cs}{x}(hb:H.boxes[b]?=aa cs)(hk:cs[k]?=aa x):aI al Gt H 23 (.ptr (.box b) k)=aa x:=by rw[lP oI hb,HH,hk]
def pQ{b len aB n}{k}(hn:n<len):dy al 23 (.arr b 0 len aB) (.v (.int k (n:Nat)))=aa (.ptr (.box b) n):=by rw[Du dJ fP ag ag,dL,nG,oF]
def Dw{b len aB n}{k}(hn:n<len):dy al 203 (.arr b 0 len aB) (.v (.int k (n:Nat)))=aa (.ptr (.box b) n):=by rw[Du Tryz.underlying203 iM ag ag,dL,nG,oF]
def RN(xb w c:Nat)(h:ak):W2.call 202 [.arr xb 0 w w,im (c:Nat)] h=aa (.ret (.func (.func 219) [] [.ptr (.box (h.boxes.length+1)) 0,.ptr (.box h.boxes.length) 0]),(h.push [.arr xb 0 w w]).push [im (c:Nat)]):=by have b1:(AV.arr xb 0 w w).b8=aa [.arr xb 0 w w]:=rfl;have b2:(AV.v (.int .i64 (c:Nat))).b8=aa [.v (.int .i64 (c:Nat))]:=rfl;unfold im;refine cC rfl Tryz.func202 rfl ?_;exact sf @aoG @bL @cK
def RP(l cb rb xb w c:Nat)(row:List Int)(Inv:Nat->ak->Prop)
 (h1:∀k H,Inv k H->H.boxes[cb]?=aa [im (c:Nat)]/\H.boxes[rb]?=aa [.arr xb 0 w w]/\(k<w->∃cs,H.boxes[xb]?=aa cs/\cs[k]?=aa (im (ai row k))))
 (hR:∀k H,c<=k->k<w->Inv k H->∃H',W2.round l [im (k:Nat),im (ai row k)] H=aa (.ret (.v (.bool ah)),H')/\Inv (k+1) H')
 (hc:c<=w) (jQ:w<=1000000) (H0:ak) (h0:Inv c H0):∃H',W2.call 219 [.yield l,.ptr (.box cb) 0,.ptr (.box rb) 0] H0=aa (.ret (.tuple []),H')/\Inv w H':=by
 have k1:=aj.mk h1;have kR:=aj.mk hR;have k0:=aj.mk h0;obtain⟨b1,b2,-⟩:=h1 c H0 h0;have l1:=kQ b1;unfold im at l1;have u23:=dJ;clear h1 hR h0 b1 b2;refine gP rfl Tryz.func219 rfl ?_;refine br @PN ?_;refine cq (λm e H=>∃k:Nat,c<=k/\k<=w/\m=w - k/\e.get 0=.yield l/\e.get 1=.ptr (.box cb) 0/\e.get 2=.ptr (.box rb) 0/\e.get 4=.v (.int .i64 k)/\e.defers=[]/\Inv k H) ?_ (w - c) _ _ ?_;rotate_left 1
 ·refine⟨c,aJ _,hc,rfl,?_,?_,?_,?_,?_,k0.out⟩<;>(first|assumption|(exact gR))
 clear l1 k0;rintro m e H ⟨k,y9,C9,rfl,g0,g1,g2,g4,hd,hI⟩;obtain⟨b1,b2,b3⟩:=k1.out k H hI;have l2:=uA b2;have kI:=aj.mk hI;clear b1 hI;by_cases aA:k<w
 ·obtain⟨cs,b4,b5⟩:=b3 aA;obtain⟨H',r1,r2⟩:=kR.out k H y9 aA kI.out;have ix:=pQ (b:=xb) (len:=w) (aB:=w) (k:=.i64) aA;have l3:=xQ b4 b5;have kI2:=aj.mk r2;have fL:((k:Nat):Int)<((w:Nat):Int):=by omega
  unfold im at *
  clear b2 b3 b4 b5 r2 kI;refine bM @PN @Aq ?_;exact⟨w - (k+1),by omega,k+1,by omega,by omega,rfl,by trivial,by trivial,by trivial,by simp,by trivial,kI2.out⟩
 ·have:k=w:=by omega
  subst this;clear b2 b3;refine br @PN ?_;exact⟨_,rfl,kI.out⟩
end Go.Proofs.YtnfciiiohoafaaaGreatDoor
end
