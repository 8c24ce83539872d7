/-
  The engine, part 47: lists that grow.
-/
import Derived.Test.YtnfciiiohoafaaaGreatDoorXC
import Derived.Test.YtnfciiiohoafaaaGreatDoorXB
open True renaming intro->aY
open List renaming replicate->br,replicate_succ->Cc,flatten_cons->pW,length_nil->lP,getElem?_toArray->jI,getElem?_cons_zero->lu,getElem?_cons_succ->qw,getElem?_map->ey,take_append_drop->zd,flatten_append->rX,length_append->dM,getElem?_eq_getElem->aU,take_length->fN,mem_of_getElem?->dy,mem_flatten->N5,mem_cons_self->gq,not_mem_nil->xC,getElem?_eq_some_iff->aW,mem_of_mem_take->pY,length_replicate->mX,nil_append->mh,replicate_zero->aeb,append_nil->jC,length_map->bF,drop_zero->jm,take_of_length_le->gK,map_cons->eL,map_nil->wc,head?_drop->Ke,getD_eq_getElem?_getD->eE,foldl_append->oI,getElem?_set->mW,length_set->mJ,all_eq_true->eK,mem_cons->iU,length_take->fm,length_drop->iC,mem_map->kC,getElem?_take->o7,getElem?_drop->pX,range->bO,mem_filter->we,set_set->Ev,ext_getElem?->rW,mem_cons_of_mem->fM,filter_cons_of_neg->adT,filter_cons_of_pos->adU,ext_getElem->Kc,getElem_map->qx,getElem_range->B8,mem_range->gf,getElem?_append_right->AL,mem_singleton->nC,mem_or_eq_of_mem_set->xB,getElem_mem->iK,eq_of_mem_replicate->Kb,getElem?_replicate->NY,nodup_cons->GX,foldl_cons->v9,contains_iff_mem->adN,mem_iff_getElem->Cb,getElem?_mapIdx->adX,map_map->Ca,cons_append->lO,append_assoc->ua,take_succ_cons->iV,take_zero->gF,length_cons->jd,getElem?_range->y8
open Go.Proofs.Tryz renaming prog->aq,underlying28->jJ,underlying3->AO,func206->aeN,underlying23->dY,underlying9->EE,func132->aeF,func140->UW,underlying94->qD,func207->U0,func186->UY,func187->UZ,func188->aeK,func164->UX
open Option renaming some->aa,none->av,bind_some->qB,map_some->ft,some.injEq->eg,map_map->Oo
open Nat renaming beq->kK,ble->Oe,eq_of_beq_eq_true->lD,le_of_ble_eq_true->jS,mul_le_mul->ri,mul_one->ph,zero_add->qA,le_trans->fG,zero_le->cD,reduceEqDiff->aS,eq_zero_or_pos->Hc,le_refl->aL,sub_self->ve,and_two_pow_sub_one_eq_mod->aek,pow_succ->Cj,mul_pos->Oj,pow_pos->Ol,mod_lt->nF,add_mul->gZ,mod_eq_of_lt->oJ,pow_le_pow_right->aex,shiftLeft_eq->Ck,shiftLeft_add_eq_or_of_lt->Om,lt_of_lt_of_le->nE,lt_succ_of_lt->xD,lt_or_ge->ez,shiftLeft_add->UE,shiftLeft_or_distrib->UF
open Bool renaming false->aB,true->ah,and_eq_true->bI,and_true->Gz,not_eq_true'->At
open Int renaming sub_zero->Er,natCast_zero->tY,dvd_add->yW,zero_mul->Ka,emod_eq_emod_iff_emod_sub_eq_zero->adB,emod_emod_of_dvd->Eo,dvd_refl->En,emod_eq_of_lt->NN,zero_add->GO,toNat_natCast->dW,mul_comm->AG,mul_sub->AH,dvd_mul_of_dvd_right->GJ,fdiv_eq_ediv_of_nonneg->GK
open And renaming intro->az
open Go renaming Program->bL,TypeId->aP,FuncId->bq,Value->aT
open Prod renaming mk.injEq->dF,fst->Hk
set_option maxHeartbeats 64000000
set_option maxRecDepth 100000
set_option linter.unusedSimpArgs false
set_option linter.unusedVariables false
set_option linter.constructorNameAsVariable false
set_option linter.defProp false
section
namespace Go.Proofs.YtnfciiiohoafaaaGreatDoor
open Go.AE Go.NT
def SE(z:AV):∀n:Nat,(br n [z]).flatten=br n z
 |0=>rfl|n+1=>by rw[Cc,pW,SE z n,Cc];rfl
def abP:Tryz.f206.results.toList=[.tmp 4]:=aw
def BQ:Tryz.f182.results.toList=[.tmp 2]:=aw
def V1:EN aq 28 (.list .nil 0 [])=aa (.v (.int .i64 0)):=aw
def ack:jc aq 28 (.list .nil 0 []) av (aa (.v (.int .i64 0))) av=aa (.list .nil 0 []):=aw
def Dz:∃i,aq.info? 5=aa i/\i.size=1/\i.bytes<=8/\(i.zero.map λz=>z.cells.size)=aa 1:=by
 have h:(match aq.info? 5 with|some i=>kK i.size 1&&Oe i.bytes 8&&decide ((i.zero.map λz=>z.cells.size)=aa 1)|none=>aB)=ah:=aw;split at h
 ·rename_i i hi;simp only[bI,decide_eq_true_eq] at h;exact⟨i,hi,lD h.1.1,jS h.1.2,h.2⟩
 ·cases h
def zr5:(iB aq 5).bind AV.cd=aa [cB 0]:=aw
def afT{H}{n}(h0:0<n)(hn:n<=1099511627776):hU aq H #[28,3] (.list .nil 0 []) (.v (.int .i64 (n:Nat)))=aa (.arr H.boxes.length 0 n n,H.push (br n [cB 0]).flatten):=by obtain⟨i,h1,h2,h3,h4⟩:=Dz;have:=ri hn h3;exact Vq jJ AO h1 zr5 h0 ai ai ai h2.symm
def akA(n:Nat)(h0:0<n)(hn:n<=1099511627776)(H:ar):W.call 206 [.list .nil 0 [],.v (.int .i64 (n:Nat))] H=aa (.ret (.arr H.boxes.length 0 0 n),H.push (br n [cB 0]).flatten):=by
 have u28:=jJ;have a:=afT (H:=H) h0 hn;have e1:IntKind.i64.wrap ((0:Int) - 0)=0:=by rfl
 have e2:IntKind.i64.wrap (((n:Nat):Int) - 0)=((n:Nat):Int):=by rw[Er,gh ai ai]
 have s2:jc aq 28 (.arr H.boxes.length 0 n n) av (aa (.v (.int .i64 (0:Nat)))) av=aa (.arr H.boxes.length 0 0 n):=aci u28 tW aZ aZ ai h0;have s2:jc aq 28 (.arr H.boxes.length 0 n n) av (aa (.v (.int .i64 0))) av=aa (.arr H.boxes.length 0 0 n):=s2;have aC:(0:Int)<(n:Nat):=by omega
 refine cN rfl aeN rfl ?_;exact K6 @abP @HB @V1 (az @ack (az @lP.{0} (az @tY @Er)))
def akB(H:ar):W.call 206 [.list .nil 0 [],.v (.int .i64 (0:Nat))] H=aa (.ret (.list .nil 0 []),H):=by
 have u28:=jJ;refine cN rfl aeN rfl ?_;have e1:IntKind.i64.wrap ((0:Int) - 0)=0:=by rfl
 have e2:IntKind.i64.wrap (((0:Nat):Int) - 0)=0:=by rfl
 exact K6 @abP @HB @V1 (az @ack (az @lP.{0} (az @tY @Er)))
def afp:gY aq 28=aa aB:=aw
def acU:dJ aq 28=aa 1:=aw
def aeX{H}{b len aF}{cs}{new}{x}(s:eu 1 H x new)(hb:H.boxes[b]?=aa cs)(h2:len+new.length<=aF)(h3:aF<=cs.length):
 hU aq H #[28,28] (.arr b 0 len aF) x=aa (.arr b 0 (len+new.length) aF,H.put b (fe cs len new.flatten)):=by
 obtain⟨i,h1,q2,-,h4⟩:=Dz;have:=Vo (off:=0) jJ jJ h1 ai (by rw[q2];exact h4) (by rw[q2];exact s.news) hb h2 (by rw[q2];omega)
 rwa [q2,ph,qA] at this
def afw{H}{x}(s:eu 1 H x []):hU aq H #[28,28] (.list .nil 0 []) x=aa (.list .nil 0 [],H):=by
 obtain⟨i,h1,q2,-,h4⟩:=Dz;have hx:np H i.size x=aa []:=by rw[q2];exact s.news
 unfold hU;simp only[jI,lu,qw,qB,jJ,h1,hx];rw[aH ⟨ai,by rw[q2];exact h4⟩];simp
def air(k:Tok)(xs:List AV)(dD:List (List (List AV)))(hl:xs.length=dD.length)(H:ar)(hs:∀(i:Nat) x rs,xs[i]?=aa x->dD[i]?=aa rs->eu 1 H x rs)(hb:dD.flatten.length<=1099511627776)(dR:xs.length<=1000):
 ∃r H',W.call 182 [.list k 1 (xs.map λx=>[x])] H=aa (r,H')/\∃y,r=.ret y/\Ext H H'/\eu 1 H' y dD.flatten:=by
 have u28:=jJ;have u233:=Tryz.underlying233;have aE:=afp;have sE:=acU;have hr:∀(i:Nat) x,xs[i]?=aa x->(xs.map λx=>[x])[i]?=aa [x]:=λi x hx=>by rw[ey,hx];rfl
 have eX:∀i,(dD.take i).flatten.length<=1099511627776:=λi=>by
  refine fG ?_ hb
  conv=>rhs;rw[<-zd i dD,rX,dM]
  omega
 have jQ:∀(i:Nat) rs,dD[i]?=aa rs->(dD.take (i+1)).flatten=(dD.take i).flatten++rs:=λi rs hi=>by rw[fE hi,rX];simp
 have kS:=ao.mk hs;have kl:=ao.mk hl;have kr:=ao.mk hr;have kst:=ao.mk jQ;have kle:=ao.mk eX;have nP:(xs.map λx=>[x]).length=xs.length:=by simp
 clear hs hr jQ eX hl;generalize hM:(xs.map λx=>[x])=M at *
 refine di rfl Tryz.func182 rfl ?_;refine bC @BQ ?_;refine cH (λm e h'=>∃i:Nat,i<=xs.length/\m=xs.length - i/\e.get 0=.list k 1 M/\e.get 9=.list k 1 M/\e.get 10=.v (.int .i64 (xs.length:Nat))/\e.get 11=.v (.int .i64 i)/\e.get 3=.v (.int .i64 ((dD.take i).flatten.length:Nat))/\e.get 2=.list .nil 0 []/\e.defers=[]/\h'=H) ?_ xs.length _ _ ?_;rotate_left 1
 ·refine⟨0,cD _,rfl,?_,?_,?_,?_,?_,?_,?_,rfl⟩<;>(first|assumption|(simp only[gW,reduceIte,aS,aO,nP]<;>rfl))
 rintro m e h' ⟨i,hi,rfl,g0,g9,g10,g11,g3,g2,hd,rfl⟩;by_cases aC:i<xs.length
 ·obtain⟨x,hx⟩:∃x,xs[i]?=aa x:=⟨_,aU aC⟩;obtain⟨rs,jP⟩:∃rs,dD[i]?=aa rs:=⟨_,aU (by have:=kl.out;omega)⟩;have s1:=kS.out i x rs hx jP;have ls:=s1.len u28;have wN:=kr.out i x hx;have Db:(i:Int)<(M.length:Int):=by omega
  have q:=kst.out i rs jP;have q1:=kle.out (i+1);rw[q,dM] at q1;have ksum:=ao.mk (show(dD.take (i+1)).flatten.length=(dD.take i).flatten.length+rs.length by rw[q,dM]);generalize (dD.take i).flatten.length=n1 at *
  have e1:IntKind.i64.wrap (((n1:Nat):Int)+((rs.length:Nat):Int))=((n1+rs.length:Nat):Int):=by rw[gh ai ai];omega
  have nn:¬(((n1+rs.length:Nat):Int)<0):=by omega
  have ld:aI aq Gt h' 28 (.elem 1 M i 0)=aa x:=by rw[sI aE wN];rfl
  clear q q1 s1;refine bQ @BQ @bp ?_;exact⟨xs.length - (i+1),by omega,i+1,by omega,rfl,by trivial,by trivial,by trivial,by simp,by rw[ksum.out],by trivial,by trivial,by trivial⟩
 have:i=xs.length:=by omega
 subst this;rw[show dD.take xs.length=dD by rw[kl.out];exact fN] at g3;have hn:=kle.out xs.length;rw[show dD.take xs.length=dD by rw[kl.out];exact fN] at hn;generalize hN:dD.flatten.length=n at *
 rcases Hc n with h0|h0
 ·subst h0;have gn:=akB h';have qi:dD.flatten=[]:=List.eq_nil_of_length_eq_zero hN;refine bC @BQ ?_;refine cH (λm e H1=>∃i:Nat,i<=xs.length/\m=xs.length - i/\e.get 25=.list k 1 M/\e.get 26=.v (.int .i64 (xs.length:Nat))/\e.get 27=.v (.int .i64 i)/\e.get 6=.list .nil 0 []/\e.defers=[]/\H1=h') ?_ xs.length _ _ ?_;rotate_left 1
  ·refine⟨0,cD _,rfl,?_,?_,?_,?_,?_,rfl⟩<;>(first|assumption|(simp only[gW,reduceIte,aS,aO,nP]<;>rfl))
  clear g0 g9 g10 g11 g3 g2 hd gn;rintro m e H1 ⟨i,hi,rfl,g25,g26,g27,g6,hd,rfl⟩;by_cases aC:i<xs.length
  ·obtain⟨x,hx⟩:∃x,xs[i]?=aa x:=⟨_,aU aC⟩;obtain⟨rs,jP⟩:∃rs,dD[i]?=aa rs:=⟨_,aU (by have:=kl.out;omega)⟩;have s1:=kS.out i x rs hx jP;have Q4:rs=[]:=by
    have:=dy jP;cases rs with|nil=>rfl|cons a l=>exact absurd (N5.2 ⟨_,this,gq⟩) (by rw[qi];exact xC)
   subst Q4;have an:=afw s1;have wN:=kr.out i x hx;have Db:(i:Int)<(M.length:Int):=(by omega);have ld:aI aq Gt H1 28 (.elem 1 M i 0)=aa x:=(by rw[sI aE wN];rfl);clear s1;refine bQ @BQ @bp ?_;exact⟨xs.length - (i+1),by omega,i+1,by omega,rfl,by trivial,by trivial,by simp,by trivial,by trivial,by trivial⟩
  ·have:i=xs.length:=(by omega);subst this;refine bC @BQ ?_;exact⟨_,_,rfl,_,rfl,Ext.refl _,by(try rw[qi]);exact eu.list (λr hr=>by cases hr) (λq=>absurd rfl q)⟩
 ·have gn:=akA n h0 hn h';refine bC @BQ ?_;rw[SE];have Dn:∀(i:Nat) rs,dD[i]?=aa rs->∀r∈rs,r.length=1:=λi rs hi=>by obtain⟨x,hx⟩:∃x,xs[i]?=aa x:=⟨_,aU (by rw[kl.out];exact(aW.1 hi).1)⟩;exact(kS.out i x rs hx hi).1
  have jO:∀i,∀r∈(dD.take i).flatten,r.length=1:=λi r hr=>by obtain⟨rs,h1,h2⟩:=N5.1 hr;obtain⟨j,hj⟩:=List.mem_iff_getElem?.1 (pY h1);exact Dn j rs hj r h2
  have ot:∀i,(dD.take i).flatten.flatten.length=(dD.take i).flatten.length:=λi=>by rw[oh (jO i),ph]
  have Ir:∀i,(dD.take i).flatten.length<=n:=λi=>by
   rw[<-hN]
   conv=>rhs;rw[<-zd i dD,rX,dM]
   omega
  have kfl:=ao.mk ot;have kmo:=ao.mk Ir;have kr2:=ao.mk jO;clear Dn ot Ir jO gn;refine cH (λm e H1=>∃i:Nat,i<=xs.length/\m=xs.length - i/\e.get 25=.list k 1 M/\e.get 26=.v (.int .i64 (xs.length:Nat))/\e.get 27=.v (.int .i64 i)/\e.get 6=.arr h'.boxes.length 0 (dD.take i).flatten.length n/\e.defers=[]/\H1.boxes[h'.boxes.length]?=aa ((dD.take i).flatten.flatten++br (n - (dD.take i).flatten.length) (cB 0))/\Ext h' H1) ?_ xs.length _ _ ?_;rotate_left 1
  ·refine⟨0,cD _,rfl,?_,?_,?_,?_,?_,?_,Ext.push _ _⟩<;>(first|assumption|exact bg _ _|(simp only[gW,reduceIte,aS,aO,nP]<;>rfl))
  clear g0 g9 g10 g11 g3 g2 hd;rintro m e H1 ⟨i,hi,rfl,g25,g26,g27,g6,hd,hB,hX⟩;by_cases aC:i<xs.length
  ·obtain⟨x,hx⟩:∃x,xs[i]?=aa x:=⟨_,aU aC⟩;obtain⟨rs,jP⟩:∃rs,dD[i]?=aa rs:=⟨_,aU (by have:=kl.out;omega)⟩;have s1:=(kS.out i x rs hx jP).ext hX;have q:=kst.out i rs jP;have m1:=kmo.out (i+1);have f0:=kfl.out i;have Bx:(dD.take (i+1)).flatten.length=(dD.take i).flatten.length+rs.length:=(by rw[q,dM]);rw[Bx] at m1;have Q5:rs.flatten.length=rs.length:=(by rw[oh s1.1,ph]);have ap:=aeX s1 hB m1 (by rw[dM,mX,f0];omega);have mb:fe ((dD.take i).flatten.flatten++br (n - (dD.take i).flatten.length) (cB 0)) (dD.take i).flatten.length rs.flatten=(dD.take (i+1)).flatten.flatten++br (n - (dD.take (i+1)).flatten.length) (cB 0):=(by unfold fe;rw[List.take_left' f0,List.drop_append,List.drop_of_length_le (by rw[f0];omega),mh,f0,List.drop_replicate,q,rX,dM,Q5];congr 2;omega);rw[mb] at ap;have wN:=kr.out i x hx;have Db:(i:Int)<(M.length:Int):=(by omega);have ld:aI aq Gt H1 28 (.elem 1 M i 0)=aa x:=(by rw[sI aE wN];rfl);have kX:=ao.mk hX;have ox:=(aW.1 hB).1;have ks:=ao.mk Bx;clear s1 hX hB mb q f0 Bx;refine bQ @BQ @bp ?_;refine⟨xs.length - (i+1),by omega,i+1,by omega,rfl,by trivial,by trivial,by simp,by rw[ks.out],by trivial,?_,kX.out.fZ (aL _) _⟩;exact eO ox
  ·have:i=xs.length:=(by omega);subst this;have ht:dD.take xs.length=dD:=(by rw[kl.out];exact fN);have f0:=kfl.out xs.length;have jO:=kr2.out xs.length;rw[ht] at hB g6 f0 jO;rw[hN] at hB g6;rw[ve,aeb,jC] at hB;have kB:=ao.mk hB;have kX:=ao.mk hX;clear hB hX;refine bC @BQ ?_;exact⟨_,_,rfl,_,rfl,kX.out,eu.box jO hN.symm kB.out⟩
def abJ:Tryz.f158.results.toList=[.tmp 4]:=aw
def BO:Tryz.f109.results.toList=[.tmp 2]:=aw
def V0:EN aq 23 (.list .nil 0 [])=aa (.v (.int .i64 0)):=aw
def acj:jc aq 23 (.list .nil 0 []) av (aa (.v (.int .i64 0))) av=aa (.list .nil 0 []):=aw
def FJ:∃i,aq.info? 3=aa i/\i.size=1/\i.bytes<=8/\(i.zero.map λz=>z.cells.size)=aa 1:=by
 have h:(match aq.info? 3 with|some i=>kK i.size 1&&Oe i.bytes 8&&decide ((i.zero.map λz=>z.cells.size)=aa 1)|none=>aB)=ah:=aw;split at h
 ·rename_i i hi;simp only[bI,decide_eq_true_eq] at h;exact⟨i,hi,lD h.1.1,jS h.1.2,h.2⟩
 ·cases h
def zr3:(iB aq 3).bind AV.cd=aa [im 0]:=aw
def afS{H}{n}(h0:0<n)(hn:n<=1099511627776):hU aq H #[23,3] (.list .nil 0 []) (.v (.int .i64 (n:Nat)))=aa (.arr H.boxes.length 0 n n,H.push (br n [im 0]).flatten):=by obtain⟨i,h1,h2,h3,h4⟩:=FJ;have:=ri hn h3;exact Vq dY AO h1 zr3 h0 ai ai ai h2.symm
def afo:gY aq 23=aa aB:=aw
def iA:dJ aq 23=aa 1:=aw
def aeW{H}{b len aF}{cs}{new}{x}(s:eu 1 H x new)(hb:H.boxes[b]?=aa cs)(h2:len+new.length<=aF)(h3:aF<=cs.length):
 hU aq H #[23,23] (.arr b 0 len aF) x=aa (.arr b 0 (len+new.length) aF,H.put b (fe cs len new.flatten)):=by
 obtain⟨i,h1,q2,-,h4⟩:=FJ;have:=Vo (off:=0) dY dY h1 ai (by rw[q2];exact h4) (by rw[q2];exact s.news) hb h2 (by rw[q2];omega)
 rwa [q2,ph,qA] at this
def afv{H}{x}(s:eu 1 H x []):hU aq H #[23,23] (.list .nil 0 []) x=aa (.list .nil 0 [],H):=by
 obtain⟨i,h1,q2,-,h4⟩:=FJ;have hx:np H i.size x=aa []:=by rw[q2];exact s.news
 unfold hU;simp only[jI,lu,qw,qB,dY,h1,hx];rw[aH ⟨ai,by rw[q2];exact h4⟩];simp
def asB:Tryz.f145.results.toList=[.cell 4 177]:=aw
def Wx(l)(h):oa aq h 9 28 (.v (.string (bs l)))=aa (.list (.free h.tn) 1 (bf l),h.app .nil):=by have h1:aq.underlying 9=aa .string:=EE;have h2:aq.underlying 28=aa (.slice 5):=jJ;have h3:aq.underlying 5=aa (.int .u8):=Tryz.underlying5;obtain⟨i,q1,q2,-⟩:=Dz;unfold oa;simp only[h1,h2,h3,q1,q2,if_true];simp[bs,ar.fresh,ar.app]
def agz(x y)(hx:x.eH=ah)(hy:y.eH=ah):gG aq 233 2 [(0,x),(1,y)]=aa (.list .tight 1 [[x],[y]]):=by cases x<;>first|(cases hx;done)|(cases y<;>first|(cases hy;done)|kernel_rfl)
def eu.cell{sz}{h}{x}{ae}(s:eu sz h x ae):x.eH=ah:=by rcases s.2 with⟨k,s',rfl,-⟩|⟨b,off,aF,cs,rfl,-⟩<;>rfl
def uS(b):(fk b).length=32:=by unfold fk;rw[DN,wq _ _ _ rfl]
def acg(M):jc aq 177 (.ptr (.box M) 0) av av av=aa (.arr M 0 32 32):=aw
def avM(bA b:List UInt8)(x:AV)(h:ar)(s:eu 1 h x (bf b))(hb:b.length<=1099511620000)(ht:bA.length<=1099511620000):
 ∃h',W.call 145 [.v (.string (bs bA)),x] h=aa (.ret (.agg (ct (gO bA b))),h')/\Ext h h':=by
 have z177:=Gx;have x0:Ext h ((h.push (br 32 (cB 0))).app .nil):=(Ext.push _ _).trans (Ext.app (Ext.refl _) (.inl rfl));have e0:((h.push (br 32 (cB 0))).app .nil).boxes=(h.push (br 32 (cB 0))).boxes:=eC _ _;obtain⟨H2,c2,x2⟩:=acb bA (.list (.free (h.push (br 32 (cB 0))).tn) 1 (bf bA)) ((h.push (br 32 (cB 0))).app .nil) (eu.list (AS _) λ_=>rfl) ai;have d0:H2.boxes[h.boxes.length]?=aa (br 32 (cB 0)):=x2.box _ _ (by rw[e0];exact bg _ _);have tl:(ct (fk bA)).length=32:=by rw[mI,uS]
 have st1:cE aq (H2.push (br 32 (cB 0))) 177 (.ptr (.box H2.boxes.length) 0) (.agg (ct (fk bA)))=aa (H2.push (ct (fk bA))):=lq (Am _) rQ tl rfl;have sx:eu 1 (H2.push (ct (fk bA))) x (bf b):=((s.ext x0).ext x2).ext (Ext.push _ _);have sy:eu 1 (H2.push (ct (fk bA))) (.arr H2.boxes.length 0 32 32) (bf (fk bA)):=eu.box (AS _) (by rw[bF,uS]) (by rw[JQ];exact bg _ _);obtain⟨r3,H3,c3,y,rfl,x3,s3⟩:=air .tight [.arr H2.boxes.length 0 32 32,x] [bf (fk bA),bf b] rfl (H2.push (ct (fk bA))) (λi z rs hz jP=>by
  rcases i with _|_|i
  ·injection hz with hz;injection jP with jP;subst hz;subst jP;exact sy
  ·injection hz with hz;injection jP with jP;subst hz;subst jP;exact sx
  ·cases hz) (by simp[uS];omega) bJ
 have ef:[bf (fk bA),bf b].flatten=bf (fk bA++b):=by simp[bf]
 rw[ef] at s3;have bl:=agz _ x (eu.cell sy) (eu.cell sx);obtain⟨H4,c4,x4⟩:=acb (fk bA++b) y H3 s3 (by rw[dM,uS];omega);have hX:Ext H2 H4:=(Ext.push _ _).trans (x3.trans x4);have d4:H4.boxes[h.boxes.length]?=aa (br 32 (cB 0)):=hX.box _ _ d0;have tl2:(ct (gO bA b)).length=32:=by rw[mI];exact uS _
 have st2:cE aq H4 177 (.ptr (.box h.boxes.length) 0) (.agg (ct (gO bA b)))=aa (H4.put h.boxes.length (ct (gO bA b))):=by rw[fK (Am _) rQ d4 tl2 bJ,xo (by rw[tl2];simp)]
 have ld2:aI aq Gt (H4.put h.boxes.length (ct (gO bA b))) 177 (.ptr (.box h.boxes.length) 0)=aa (.agg (ct (gO bA b))):=by rw[iP EF rQ (eO (aW.1 d4).1) (by rw[tl2];exact aL _),jm,gK (by rw[tl2];exact aL _)]
 replace c4:W.call 181 [y] H3=aa (.ret (.agg (ct (gO bA b))),H4):=c4;have kX:=ao.mk (((x0.trans x2).trans hX).fZ (aL _) (ct (gO bA b)));simp only[eL,wc] at c3;clear s sx sy s3 x0 e0 x2 x3 x4 hX d0 d4 ef tl tl2;refine iD rfl Tryz.func145 rfl ?_;refine cX @asB @Wx @acg ?_;exact⟨_,rfl,kX.out⟩
def S8:Tryz.f78.results.toList=[.tmp 4]:=aw
def IN{b n}{k}(hn:n<32):dS aq 177 (.ptr (.box b) 0) (.v (.int k (n:Nat)))=aa (.ptr (.box b) n):=by have h1:aq.underlying 177=aa (.array 32 5):=Tryz.underlying177;unfold dS;simp only[h1,tW];rw[aH ⟨ai,by omega⟩];simp
def LK{H}{b i}{l}(hb:H.boxes[b]?=aa (ct l))(hi:i<l.length):aI aq Gt H 5 (.ptr (.box b) i)=aa (cB (dO l i)):=by rw[mT Kq hb,Ke,ey,aU hi];unfold dO;rw[eE,aU hi];rfl
def O9(n)(h):oa aq h 5 3 (.v (.int .u8 n))=aa (.v (.int .i64 (IntKind.i64.wrap n)),h):=aw
def U7(b):∀i,i<=b.length->jK b i=(b.take i).foldl (λn c=>n * 256+c.toNat) 0
 |0,_=>rfl
 |i+1,hi=>by
  rw[jK,U7 b i ai];have:b[i]?=aa (dO b i):=by unfold dO;rw[eE,aU ai];rfl
  rw[fE this,oI];rfl
def mask(b:List UInt8):List UInt8:=b.set 0 (dO b 0&&&127)
def LS{b}{i}(hb:0<b.length):dO (mask b) i=if i=0 then dO b 0&&&127 else dO b i:=by
 unfold mask dO;rw[eE,mW];split
 ·rename_i h;subst h;simp[hb]
 ·rename_i h;rw[aJ (λq=>h q.symm),eE]
def OC(c:UInt8):(c&&&127).toNat=c.toNat%128:=by rw[UInt8.toNat_and];exact aek c.toNat 7
def RK{b}(hb:0<b.length):∀i,jK (mask b) (i+1)=jK b (i+1)%(128 * 256^i)
 |0=>by show 0 * 256+(dO (mask b) 0).toNat=(0 * 256+(dO b 0).toNat)%128;rw[LS hb,aH rfl,OC];omega
 |i+1=>by
  rw[jK,RK hb i,LS hb,aJ ai,jK.eq_2 b (i+1)];have:=vV (dO b (i+1));generalize jK b (i+1)=A at *
  generalize (dO b (i+1)).toNat=r at *
  rw[Cj,<-Nat.mul_assoc];have hM:0<128 * 256^i:=Oj aZ (Ol aZ);generalize 128 * 256^i=M at *
  have h1:=nF A hM;have h2:=Nat.div_add_mod A M;have h3:A * 256+r=M * 256 * (A/M)+(A%M * 256+r):=by rw[Nat.mul_right_comm,<-Nat.add_assoc,<-gZ,h2]
  rw[h3,Nat.mul_add_mod,oJ (a:=A%M * 256+r) (b:=M * 256) (by have:(A%M+1) * 256<=M * 256:=Nat.mul_le_mul_right _ h1;rw[gZ] at this;omega)]
def aak{b}(hb:0<b.length){i}(hi:i<8):jK (mask b) i<36028797018963968:=by
 cases i with
 |zero=>show 0<_;decide|succ i=>
  rw[RK hb];have h1:=nF (jK b (i+1)) (show 0<128 * 256^i from Oj aZ (Ol aZ));have h2:256^i<=256^6:=aex aZ ai;have h3:256^6=281474976710656:=by decide
  omega
def hash_eq{b}(hb:8<=b.length):jK (mask b) 8%Q=nj b:=by unfold nj;rw[RK ai 7,U7 b 8 hb]
def aud{t}{x y}{n}(hn:n<36028797018963968):dn aq .shl t x y (.v (.int .i64 (n:Nat))) (.v (.int .u64 8))=aa (.v (.int .i64 ((n * 256:Nat):Int))):=by rw[OP aZ];congr 3;show IntKind.i64.wrap (((n:Nat):Int) * 256)=_;rw[gh ai ai];omega
def ori{t}{x y}{n m}(hn:n<36028797018963968)(hm:m<256):dn aq .or t x y (.v (.int .i64 ((n * 256:Nat):Int))) (.v (.int .i64 (m:Nat)))=aa (.v (.int .i64 ((n * 256+m:Nat):Int))):=by
 rw[OO];congr 3;have e1:BitVec.ofInt IntKind.i64.bits ((n * 256:Nat):Int)=BitVec.ofNat 64 (n * 256):=by apply BitVec.eq_of_toNat_eq;show(BitVec.ofInt 64 ((n * 256:Nat):Int)).toNat=(BitVec.ofNat 64 (n * 256)).toNat;rw[BitVec.toNat_ofInt,BitVec.toNat_ofNat];omega
 have e2:BitVec.ofInt IntKind.i64.bits ((m:Nat):Int)=BitVec.ofNat 64 m:=by apply BitVec.eq_of_toNat_eq;show(BitVec.ofInt 64 ((m:Nat):Int)).toNat=(BitVec.ofNat 64 m).toNat;rw[BitVec.toNat_ofInt,BitVec.toNat_ofNat];omega
 have e3:(BitVec.ofNat 64 (n * 256)|||BitVec.ofNat 64 m).toNat=n * 256+m:=by
  rw[BitVec.toNat_or,BitVec.toNat_ofNat,BitVec.toNat_ofNat,oJ (ai:n * 256<2^64),oJ (ai:m<2^64)];have h1:n<<<8=n * 256:=by rw[Ck]
  rw[<-h1,<-Om (ai:m<2^8)]
 have e4:(BitVec.ofInt IntKind.i64.bits ((n * 256:Nat):Int)|||BitVec.ofInt IntKind.i64.bits ((m:Nat):Int)).toNat=n * 256+m:=by rw[e1,e2];exact e3
 rw[e4,gh ai ai]
def afx{t}{x y}(c):dn aq .and t x y (cB c) (.v (.int .u8 127))=aa (cB (c&&&127)):=by
 unfold cB;rw[ug];congr 3;have hc:=vV c;have e1:BitVec.ofInt IntKind.u8.bits ((c.toNat:Nat):Int)=BitVec.ofNat 8 c.toNat:=by apply BitVec.eq_of_toNat_eq;show(BitVec.ofInt 8 ((c.toNat:Nat):Int)).toNat=(BitVec.ofNat 8 c.toNat).toNat;rw[BitVec.toNat_ofInt,BitVec.toNat_ofNat];omega
 have e3:(BitVec.ofInt IntKind.u8.bits ((c.toNat:Nat):Int)&&&BitVec.ofInt IntKind.u8.bits 127).toNat=c.toNat%128:=by rw[e1];show(BitVec.ofNat 8 c.toNat&&&127#8).toNat=_;rw[BitVec.toNat_and,BitVec.toNat_ofNat,oJ (ai:c.toNat<2^8)];exact aek c.toNat 7
 rw[e3,Pn ai ai,OC]
def anK(l):(ct l).set 0 (cB (dO l 0&&&127))=ct (mask l):=by unfold mask ct;rw[List.map_set]
def ako(bA b:List UInt8)(x:AV)(h:ar)(s:eu 1 h x (bf b))(hb:b.length<=1099511620000)(ht:bA.length<=1099511620000):
 ∃h',W.call 78 [.v (.string (bs bA)),x] h=aa (.ret (im (nj (gO bA b):Nat)),h')/\Ext h h':=by
 obtain⟨H1,c1,x1⟩:=avM bA b x h s hb ht;have hl:(gO bA b).length=32:=uS _;have db:(ct (gO bA b)).length=32:=by rw[mI,hl]
 have he:=hash_eq (b:=gO bA b) ai;generalize gO bA b=d at *
 have bE:0<d.length:=by omega
 have z177:=Gx;have st1:cE aq (H1.push (br 32 (cB 0))) 177 (.ptr (.box H1.boxes.length) 0) (.agg (ct d))=aa (H1.push (ct d)):=lq (Am _) rQ db rfl;have ix0:dS aq 177 (.ptr (.box H1.boxes.length) 0) (.v (.int .i64 0))=aa (.ptr (.box H1.boxes.length) 0):=IN (n:=0) aZ;have l0:aI aq Gt (H1.push (ct d)) 5 (.ptr (.box H1.boxes.length) 0)=aa (cB (dO d 0)):=LK (bg _ _) bE;have st2:cE aq (H1.push (ct d)) 5 (.ptr (.box H1.boxes.length) 0) (cB (dO d 0&&&127))=aa (H1.push (ct (mask d))):=by rw[Nc (bg _ _) (by rw[db];decide),anK,qs]
 have nP:(mask d).length=32:=by unfold mask;rw[mJ,hl]
 have hX:=ao.mk (x1.trans (Ext.push H1 (ct (mask d))));have hB:=bg H1 (ct (mask d));have aC:=λi hi=>aak bE (i:=i) hi;have kB:=ao.mk hB;have klt:=ao.mk aC;have ke:=ao.mk he;have kml:=ao.mk nP;clear s db hl hB aC he nP x1 bE;unfold im;refine iD rfl Tryz.func78 rfl ?_;refine bQ @S8 @afx ?_;refine cH (λm e H=>∃i:Nat,i<=8/\m=8 - i/\e.get 5=.ptr (.box H1.boxes.length) 0/\e.get 14=.v (.int .i64 i)/\e.get 4=.v (.int .i64 (jK (mask d) i:Nat))/\e.defers=[]/\H=H1.push (ct (mask d))) ?_ 8 _ _ ?_;rotate_left 1
 ·refine⟨0,by decide,rfl,?_,?_,?_,?_,rfl⟩<;>(first|assumption|(exact gR))
 clear z177 st1 ix0 l0 st2 c1;rintro m e H ⟨i,hi,rfl,g5,g14,g4,hd,rfl⟩;by_cases h8:i=8
 ·subst h8;have e1:(((jK (mask d) 8:Nat):Int)).tmod 1073741789=((nj d:Nat):Int):=by rw[<-ke.out];exact pR _ _
  generalize jK (mask d) 8=A at *
  refine bC @S8 ?_;exact⟨_,rfl,hX.out⟩
 ·have aC:i<8:=by omega
  have a1:=klt.out i aC;have u1:=vV (dO (mask d) i);have ix:=IN (b:=H1.boxes.length) (n:=i) (k:=.i64) ai;have ld:aI aq Gt (H1.push (ct (mask d))) 5 (.ptr (.box H1.boxes.length) i)=aa (.v (.int .u8 ((dO (mask d) i).toNat:Nat))):=LK kB.out (by have:=kml.out;omega);have ew:IntKind.i64.wrap (((dO (mask d) i).toNat:Nat):Int)=(((dO (mask d) i).toNat:Nat):Int):=gh ai ai;have s1:=λt x y=>aud (t:=t) (x:=x) (y:=y) a1;have s2:=λt x y=>ori (t:=t) (x:=x) (y:=y) a1 u1;have kstep:=ao.mk (show jK (mask d) (i+1)=jK (mask d) i * 256+(dO (mask d) i).toNat from rfl);generalize jK (mask d) i=A at *
  generalize (dO (mask d) i).toNat=r at *
  refine bQ @S8 @O9 ?_;exact⟨8 - (i+1),by omega,i+1,by omega,rfl,by trivial,rfl,by rw[kstep.out],by trivial,by trivial⟩
end Go.Proofs.YtnfciiiohoafaaaGreatDoor
end
section
namespace Go.AE
structure Grown(n0:Nat)(h h':ar)(t:Tok):Prop where
 box:∀(b:Nat) (cs:List AV),h.boxes[b]?=aa cs->h'.boxes[b]?=aa cs
 loop:∀(l:Nat) (r:iW),h.loops[l]?=aa r->h'.loops[l]?=aa r
 can:du n0 h' t
 ok:cK h'=ah
 tn:h.tn<=h'.tn
 dead:∀n,n<n0->n∈h'.dead->n∈h.dead
section
variable {n0:Nat} {h0 h h' h2:ar} {t k:Tok}
def Grown.refl(hk:du n0 h k)(ho:cK h=ah):Grown n0 h h k:=⟨λ_ _ q=>q,λ_ _ q=>q,hk,ho,aL _,λ_ _ q=>q⟩
def Grown.trans(g:Grown n0 h h' t)(g2:Grown n0 h' h2 k):Grown n0 h h2 k:=
 ⟨λb cs q=>g2.box b cs (g.box b cs q),λb cs q=>g2.loop b cs (g.loop b cs q),g2.can,g2.ok,fG g.tn g2.tn,λn hn q=>g.dead n hn (g2.dead n hn q)⟩
def Grown.ext(g:Grown n0 h h' t)(x:Ext h0 h)(hn:h0.tn<=n0):Ext h0 h':=
 ⟨λb cs hb=>g.box b cs (x.box b cs hb),λl r hl=>g.loop l r (x.loop l r hl),fG x.tn g.tn,λn q hd=>x.dead n q (g.dead n (nE q hn) hd),λ_=>g.ok⟩
def EH(ho:cK h=ah)(hk:du n0 h k):cK (h.app k)=ah:=by
 unfold cK at *
 rw[eK] at *
 intro n hn;rcases hk with rfl|rfl|⟨m,rfl,-,ha⟩
 ·exact b8 (xD (of_decide_eq_true (ho n hn)))
 ·exact b8 (xD (of_decide_eq_true (ho n hn)))
 ·rcases iU.1 hn with rfl|q
  ·exact b8 (xD (vi ha))
  ·exact b8 (xD (of_decide_eq_true (ho n q)))
def Grown.one(hk:du n0 h k)(ho:cK h=ah)(hn:n0<=h.tn):Grown n0 h (h.app k) (.free h.tn):=by
 refine⟨λb cs q=>by rw[eC];exact q,λb cs q=>by rw[xN];exact q,hk.next ho hn,EH ho hk,by rw[EI];omega,λn q hd=>?_⟩;rcases hk with rfl|rfl|⟨m,rfl,hm,ha⟩
 ·exact hd
 ·exact hd
 ·rcases iU.1 hd with rfl|hd
  ·omega
  ·exact hd
def Grown.push(g:Grown n0 h h' t)(cs:List AV):Grown n0 h (h'.push cs) t:=⟨λb cs q=>bh (g.box b cs q),g.loop,g.can,g.ok,g.tn,g.dead⟩
def Grown.app(g:Grown n0 h h' t)(hn:n0<=h.tn):Grown n0 h (h'.app t) (.free h'.tn):=g.trans (Grown.one g.can g.ok (fG hn g.tn))
variable {P:bL} {t0 t1 elem:aP} {i:TypeInfo} {sz:Nat} {es new:List (List AV)} {x:AV}
def Hs(h0:P.underlying t0=aa (.slice elem))(h1:(∃e,P.underlying t1=aa (.slice e))∨P.underlying t1=aa .string)(hi:P.info? elem=aa i)(dP:0<i.size)(hz:(i.zero.map λz=>z.cells.size)=aa i.size)
 (hx:np h i.size x=aa new) (mD:new≠[]) (hb:(es.length+new.length) * i.bytes<=140737488355328) (hl:es.length+new.length<=9223372036854775807) (hs:sz=i.size∨(es=[]/\k=.nil)) (hk:du n0 h k):
 hU P h #[t0,t1] (.list k sz es) x=aa (.list (.free h.tn) i.size (es++new),h.app k):=by
 unfold hU;rcases h1 with⟨e,h1⟩|h1
 all_goals
  simp only[jI,lu,qw,qB,h0,h1,hi,hx];rw[aH ⟨dP,hz⟩,aH (hs.imp_right λq=>q.1),aJ mD,aH ⟨hb,hl⟩];rcases hk with rfl|rfl|⟨m,rfl,-,ha⟩
  ·rfl
  ·rfl
  ·have hs:sz=i.size:=by
    rcases hs with hs|⟨-,hs⟩
    ·exact hs
    ·cases hs
   simp only[ha,hs,decide_true,Bool.and_self,if_true];rfl
def Vp(h0:P.underlying t0=aa (.slice elem))(h1:(∃e,P.underlying t1=aa (.slice e))∨P.underlying t1=aa .string)(hi:P.info? elem=aa i)(dP:0<i.size)(hz:(i.zero.map λz=>z.cells.size)=aa i.size)
 (hx:np h i.size x=aa []) (hs:sz=i.size∨es=[]):hU P h #[t0,t1] (.list k sz es) x=aa (.list k sz es,h):=by
 unfold hU;rcases h1 with⟨e,h1⟩|h1
 ·simp only[jI,lu,qw,qB,h0,h1,hi,hx];rw[aH ⟨dP,hz⟩,aH hs,aH trivial]
 ·simp only[jI,lu,qw,qB,h0,h1,hi,hx];rw[aH ⟨dP,hz⟩,aH hs,aH trivial]
end
end Go.AE
end
section
namespace Go.AE
open Go.RowKit (Below)
mutual
def gX(h:ar):AV->AV
 | .list k sz es=>.list (bX k) sz es
 | .arr b off len _=>match h.boxes[b]? with
  |some cs=>if off+len<=cs.length then .list .held 1 (((cs.drop off).take len).map λc=>[c]) else .bad
  |none=>.bad
 | .tuple cs=>.tuple (uJ h cs)
 | .agg cs=>.agg (uJ h cs)
 |x=>x
def uJ(h:ar):List AV->List AV
 | []=>[]
 |x::r=>gX h x::uJ h r
end
def FU(R:Rec)(g:bq)(args:List AV):Option AV:=
 if aR 0 0 0 (bZ args)=ah then
  match R.call g (bZ args) ⟨[],[],0,[]⟩ with
  |some (.ret y,h2)=>if aK 0 0 0 (gX h2 y)=ah then aa (gX h2 y) else av
  |_=>av
 else av
def EL(R:Rec)(g:bq)(args:List AV)(h:ar):Option (AV × ar):=(FU R g args).map (·,h)
def Gq:∀l:List AV,(l.map λc=>[c]).flatten=l
 | []=>rfl
 |x::l=>by rw[eL,pW,Gq l];rfl
section
variable {P:bL} {G:Nat->Option (List AV)} {ok:bq->Nat->Code->Bool} {w0 w w':World} {K K1 K2:a8} {h h2:ar}
mutual
def a9.nh(jW:∀g j c,K1.ic g j=aa c->K2.ic g j=aa c):∀{x:AV} {c:aT},a9 K1 x c->aK 0 0 0 x=ah->a9 K2 x c
 |_,_,.bad c,_=>.bad c
 |_,_,.v x hx,_=>.v x hx
 |_,_,.nil sz,_=>.nil sz
 |_,_,.jH sz a,_=>.jH sz a
 |_,_,.list k sz es g off m aF cells hn hr hv hc ht ha,h=>by
  rw[aK,bI] at h;refine .list k sz es g off m aF cells hn hr (aV.nh jW hv (by rw[um];exact h.2)) (λj c hj=>jW _ _ _ (hc j c hj)) ⟨ht.1,?_⟩ ha;have h1:=h.1;have h2:=ht.2;cases k with|free i=>simp[sV] at h1|_=>exact h2
 |_,_,.arr _ _ _ _ _ _ _ _ _ _ _ _,h=>by simp[aK] at h
 |_,_,.agg cs vs hv,h=>.agg cs vs (aV.nh jW hv (by rw[aK] at h;exact h))
 |_,_,.tuple cs vs hv,h=>.tuple cs vs (aV.nh jW hv (by rw[aK] at h;exact h))
 |_,_,.box _ _ _ _,h=>by simp[aK] at h
 |_,_,.fb g off,_=>.fb g off
 |_,_,.elem sz es i off g o p cells hr hv hc hi hp ha,h=>.elem sz es i off g o p cells hr (aV.nh jW hv (by rw[um];rw[aK] at h;exact h)) (λj c hj=>jW _ _ _ (hc j c hj)) hi hp ha
 |_,_,.func fn first aF fs cs h1 h2,h=>.func fn first aF fs cs (aV.nh jW h1 (by rw[aK,bI] at h;exact h.1)) (aV.nh jW h2 (by rw[aK,bI] at h;exact h.2))
 |_,_,.yield _ _ _,h=>by simp[aK] at h
 |_,_,.iface t x c hx,h=>.iface t x c (a9.nh jW hx (by rw[aK] at h;exact h))
def aV.nh(jW:∀g j c,K1.ic g j=aa c->K2.ic g j=aa c):∀{xs:List AV} {cs:List aT},aV K1 xs cs->aR 0 0 0 xs=ah->aV K2 xs cs
 |_,_,.nil,_=>.nil
 |_,_,.cons x c xs cs hx hs,h=>.cons x c xs cs (a9.nh jW hx (by rw[aR,bI] at h;exact h.1)) (aV.nh jW hs (by rw[aR,bI] at h;exact h.2))
end
mutual
def a9.pM(s1:b9 K1 G ok w h2 w')(jW:∀g j c,K1.ic g j=aa c->K2.ic g j=aa c)(mD:∀g j c,K1.base<=g->w'.cell? ⟨g,j,av⟩=aa c->K2.ic g j=aa c):
 ∀{x:AV} {c:aT},a9 K1 x c->aK 0 0 0 (gX h2 x)=ah->a9 K2 (gX h2 x) c
 |_,_,.bad c,_=>.bad c
 |_,_,.v x hx,_=>.v x hx
 |_,_,.nil sz,_=>.nil sz
 |_,_,.jH sz a,_=>.jH sz a
 |_,_,.list k sz es g off m aF cells hn hr hv hc ht ha,h=>by
  have hf:ie 0 0 0 es=ah:=by simp only[gX,aK,bI] at h;exact h.2
  have oz:aV K2 es.flatten cells:=aV.nh jW hv (by rw[um];exact hf);cases k with|nil=>exact ht.2.elim|tight=>exact .list .tight sz es g off m aF cells hn hr oz (λj c hj=>jW _ _ _ (hc j c hj)) ⟨ht.1,ht.2⟩ ha|free i=>exact .list .held sz es g off m aF cells hn hr oz (λj c hj=>jW _ _ _ (hc j c hj)) ⟨ht.1,aY⟩ ha|held=>exact .list .held sz es g off m aF cells hn hr oz (λj c hj=>jW _ _ _ (hc j c hj)) ⟨ht.1,aY⟩ ha
 |_,_,.arr b g off len aF fP iX hb hl qc ho hr,h=>by
  simp only[gX] at h ⊢;cases cI:h2.boxes[b]? with
  |none=>exact .bad _|some cs=>
   rw[cI] at h;simp only at h ⊢;split at h
   ·rename_i eX;rw[aH eX];have hf:ie 0 0 0 (((cs.drop off).take len).map λc=>[c])=ah:=(by simp only[aK,bI] at h;exact h.2);obtain⟨q1,q2,q3,cells,e,q4,q5⟩:=s1.box b g cs hb cI;have alH:=q5.le;by_cases h0:aF=0
    ·have:len=0:=(by omega);subst this;exact .list .held 1 [] g fP 0 iX [] rfl (λ_ h=>by cases h) .nil (λ_ _ h=>by simp at h) ⟨cD _,aY⟩ rfl
    ·have Bt:fP=off:=by rcases ho with p|p<;>omega
     subst Bt;have hv:aV K1 ((cs.drop fP).take len) (((cells.toList.take cs.length).drop fP).take len):=(q5.1.drop fP).take len;have bR:((cs.drop fP).take len).length=len:=(by rw[fm,iC];omega);refine .list .held 1 _ g fP len iX (((cells.toList.take cs.length).drop fP).take len) (by rw[bF,bR]) (λr hr=>?_) ?_ (λj c hj=>?_) ⟨ai,aY⟩ ?_
     ·obtain⟨c,-,rfl⟩:=kC.1 hr;rfl
     ·rw[Gq];rw[<-um,Gq] at hf;exact aV.nh jW hv hf
     ·refine mD _ _ _ q1 ?_;have ov:j<len:=(by have:=(aW.1 hj).1;rw[fm] at this;omega);rw[o7,aH ov,pX,o7,aH ai] at hj;rw[tw q4];simpa using hj
     ·rw[Gq];rw[eK] at q3 ⊢;exactλx hx=>q3 x (List.mem_of_mem_drop (pY hx))
   ·rename_i eX;rw[aJ eX];exact .bad _
 |_,_,.agg cs vs hv,h=>.agg _ vs (aV.pM s1 jW mD hv (by simpa only[gX,aK] using h))
 |_,_,.tuple cs vs hv,h=>.tuple _ vs (aV.pM s1 jW mD hv (by simpa only[gX,aK] using h))
 |_,_,.box b g off hb,h=>by simp[gX,aK] at h
 |_,_,.fb g off,_=>.fb g off
 |_,_,.elem sz es i off g o p cells hr hv hc hi hp ha,h=>.elem sz es i off g o p cells hr (aV.nh jW hv (by rw[um];simpa only[gX,aK] using h)) (λj c hj=>jW _ _ _ (hc j c hj)) hi hp ha
 |_,_,.func fn first aF fs cs h1 h2,h=>by simp only[gX,aK,bI] at h;exact .func fn first aF fs cs (aV.nh jW h1 h.1) (aV.nh jW h2 h.2)
 |_,_,.yield l g hl,h=>by simp[gX,aK] at h
 |_,_,.iface t x c hx,h=>by simp only[gX,aK] at h;exact .iface t x c (a9.nh jW hx h)
def aV.pM(s1:b9 K1 G ok w h2 w')(jW:∀g j c,K1.ic g j=aa c->K2.ic g j=aa c)(mD:∀g j c,K1.base<=g->w'.cell? ⟨g,j,av⟩=aa c->K2.ic g j=aa c):
 ∀{xs:List AV} {cs:List aT},aV K1 xs cs->aR 0 0 0 (uJ h2 xs)=ah->aV K2 (uJ h2 xs) cs
 |_,_,.nil,_=>.nil
 |_,_,.cons x c xs cs hx hs,h=>by simp only[uJ,aR,bI] at h;exact .cons _ c _ cs (a9.pM s1 jW mD hx h.1) (aV.pM s1 jW mD hs h.2)
end
def a8.sees(K:a8)(n:Nat)(w:World):a8:={K with ic:=λg j=>if g<n then K.ic g j else w.cell? ⟨g,j,av⟩}
def a8.RC(s:b9 K G ok w0 h w):K.Le (K.sees w.heap.size w'):=by
 refine⟨rfl,λg j c hc=>?_,λ_ _ h=>h,λ_ _ h=>h,aL _,λ_ _=>rfl,λ_ h=>h,λ_ _=>rfl,λg j c hc=>?_⟩
 ·simp only[a8.sees,aH (s.BD hc),hc]
 ·simp only[a8.sees] at hc;split at hc
  ·exact .inl hc
  ·exact .inr (by have:=s.size;omega)
def b9.sees(s:b9 K G ok w0 h w)(b:Below w.heap.size w w'):b9 (K.sees w.heap.size w') G ok w0 h w':=by
 have g:=s.grown b;have le:K.Le (K.sees w.heap.size w'):=a8.RC s;refine⟨g.dw,g.size,λg1 j c hc=>?_,λg1 cs hg=>?_,g.my,g.rf,λb1 g1 cs hb hc=>?_,g.o5,g.rR,λl g1 r hl hr=>?_,g.tn,λt ht=>?_,g.qX,g.md,g.all⟩
 ·simp only[a8.sees] at hc;split at hc
  ·exact g.ic g1 j c hc
  ·exact hc
 ·obtain⟨cells,q1,q2⟩:=g.fb g1 cs hg;exact⟨cells,q1.mono le,λj c hj=>le.ic _ _ _ (q2 j c hj)⟩
 ·obtain⟨q1,q2,q3,cells,e,q4,q5⟩:=g.box b1 g1 cs hb hc;obtain⟨-,-,-,cells0,e0,p4,-⟩:=s.box b1 g1 cs hb hc;refine⟨q1,λj=>?_,q3,cells,e,q4,q5.mono le (aW.1 hb).1⟩;simp only[a8.sees,aH (pO p4)];exact q2 j
 ·obtain⟨q1,fn,tmps,d,q2,q3,q4⟩:=g.loop l g1 r hl hr;exact⟨q1,fn,tmps,d,q2,q3.mono le,q4⟩
 ·obtain⟨q1,q2,q3,q4⟩:=g.tok t ht;obtain⟨-,-,-,cells0,e0,z0,p4,-⟩:=s.tok t ht;refine⟨q1,q2,λj hj=>?_,q4⟩;simp only[a8.sees,aH (pO p4)];exact q3 j hj
def a8.alone(K:a8)(n:Nat):a8:={K with base:=n,β:=[],γ:=[],tn:=0,md:=[]}
def b9.alone(s:b9 K G ok w0 h w)(hG:∀g cs,G g=aa cs->aR 0 0 0 cs=ah):b9 (K.alone w.heap.size) G ok w ⟨[],[],0,[]⟩ w:=by
 refine⟨Below.refl _ _,aL _,s.ic,λg cs hg=>?_,rfl,λb b' g hb=>by simp[a8.alone] at hb,λb g cs hb=>by simp[a8.alone] at hb,rfl,λb b' g hb=>by simp[a8.alone] at hb,λl g r hl=>by simp[a8.alone] at hl,rfl,λt ht=>?_,λt t' ht=>?_,λr hr=>by simp[a8.alone] at hr,rfl⟩
 ·obtain⟨cells,q1,q2⟩:=s.fb g cs hg;exact⟨cells,aV.nh (K1:=K) (K2:=K.alone w.heap.size) (λ_ _ _ h=>h) q1 (hG g cs hg),q2⟩
 ·simp[alive] at ht
 ·simp[alive] at ht
def VY{aQ:bq->Option (List AV->ar->Option (AV × ar))}(hp:Prog P)(hG:∀g cs,G g=aa cs->aR 0 0 0 cs=ah)(pK:∀V g p,aQ g=aa p->ue P G V g p){g:bq}(iG:∃fn,P.funcs[g]?=aa fn/\fn.body.isSome=ah)(V:World):
 ue P G V g (EL (whole P G aQ) g):=by
 refine⟨iG,λargs h x h' hx K w fJ hv hs cs=>?_⟩;unfold EL FU at hx;split at hx
 ·rename_i hf;split at hx
  ·rename_i y h2 hc;split at hx
   ·rename_i Bk;simp only[ft,eg,dF] at hx;obtain⟨rfl,rfl⟩:=hx;obtain⟨-,IE⟩:=(TW hp (pK w)).call g _ _ _ _ hc;have s0:=b9.alone hs hG;obtain⟨K1,w',fr,le,s1,bT,yk,v,rG,eX⟩:=IE (K.alone w.heap.size) w fJ (aV.nh (K1:=K) (K2:=K.alone w.heap.size) (λ_ _ _ h=>h) hv.hold hf) s0 cs;have hb:Below w.heap.size w w':=(by have:=s1.dw;rwa [le.base] at this);refine⟨.returned v,w',fr,⟨v,_,rfl,a8.RC hs,a9.pM (K2:=K.sees w.heap.size w') s1 (λg j c hc=>?_) (λg j c hg hc=>?_) rG Bk,b9.sees hs hb⟩,bT,yk,eX⟩
    ·rcases le.new g j c hc with q|q
     ·have:g<w.heap.size:=hs.BD q;simp only[a8.sees,aH this];exact q
     ·have q:w.heap.size<=g:=q;simp only[a8.sees,aJ (ai:¬g<w.heap.size)];exact s1.ic g j c hc
    ·have q:w.heap.size<=g:=(by rw[le.base] at hg;exact hg);simp only[a8.sees,aJ (ai:¬g<w.heap.size)];exact hc
   ·cases hx
  ·cases hx
 ·cases hx
def qG(R:Rec)(L:List bq)(g:bq):Option (List AV->ar->Option (AV × ar)):=if L.contains g=ah then aa (EL R g) else av
def xT{aQ:bq->Option (List AV->ar->Option (AV × ar))}(hp:Prog P)(hG:∀g cs,G g=aa cs->aR 0 0 0 cs=ah)(pK:∀V g p,aQ g=aa p->ue P G V g p){L:List bq}(hL:∀g∈L,∃fn,P.funcs[g]?=aa fn/\fn.body.isSome=ah):
 ∀V g p,qG (whole P G aQ) L g=some p->ue P G V g p:=by
 intro V g p he;unfold qG at he;split at he
 ·rename_i hg;injection he with he;subst he;exact VY hp hG pK (hL g (by simpa using hg)) V
 ·cases he
def bm{R:Rec}{L:List bq}{g:bq}{args b7:List AV}{x y:AV}{h1:ar}(hg:L.contains g=ah)(ha:bZ args=b7)(hf:aR 0 0 0 b7=ah)(hc:R.call g b7 ⟨[],[],0,[]⟩=aa (.ret y,h1))(hy:gX h1 y=x)(hx:aK 0 0 0 x=ah):
 ∀h,(whole P G (qG R L)).call g args h=aa (.ret x,h):=by
 intro h;subst ha;subst hy;rw[JT];unfold sf qG;rw[aH hg];simp only[EL,FU,aH hf,hc,aH hx,ft]
end
end Go.AE
end
section
namespace Go.AE
def RW(P:bL)(s d:aP):Bool:=
 match P.underlying s,P.underlying d with
 |some (.int _),aa (.int _)=>ah
 |_,_=>aB
def OY(P:bL)(ops:Array Oper)(L:List bq)(k:Nat):Bool:=
 match ops[k]? with
 |some o=>o.guard.isNone&&match o.op with
  | .call {callee:=.value (.func f),.. }=>L.contains f
  | .call {callee:=.builtin .max,.. }=>ah
  | .call {callee:=.builtin .min,.. }=>ah
  | .convert s d _=>RW P s d
  |_=>aB
 |none=>aB
def OZ(P:bL)(ops:Array Oper)(L:List bq):List Nat:=(bO ops.size).filter (OY P ops L)
section
variable {P:bL} {G:Nat->Option (List AV)} {aQ:bq->Option (List AV->ar->Option (AV × ar))} {Q:Xt->Env->ar->Prop} {e:Env} {h:ar} {L:List bq}
def qu(aQ:bq->Option (List AV->ar->Option (AV × ar)))(L:List bq):Prop:=∀g∈L,∃q:List AV->Option AV,aQ g=aa λargs h=>(q args).map (·,h)
def xU{R:Rec}:qu (qG R L) L:=λg hg=>⟨FU R g,by unfold qG;rw[aH (by simpa using hg)];rfl⟩
def an6{s d:aP}{x:AV}(hn:RW P s d=ah):∃q:Option AV,∀hm,oa P hm s d x=q.map (·,hm):=by
 unfold RW at hn;split at hn
 ·rename_i k1 k2 h1 h2;unfold oa;simp only[h1,h2];cases x<;>first|exact⟨av,λhm=>rfl⟩|exact⟨_,λhm=>rfl⟩
 ·cases hn
def afU{hm:ar}{ts:Array aP}{ty:aP}{xs:List AV}:jT P hm .max ts ty xs=(match flatAll xs with|some l=>(gJ P (Builtin.max_ ts ty l.toArray)).bind pQ|none=>av).map (·,hm):=by rcases xs with _|⟨x,_|⟨y,xs⟩⟩<;>(unfold jT;simp only[];cases flatAll _<;>rfl)
def afV{hm:ar}{ts:Array aP}{ty:aP}{xs:List AV}:jT P hm .min ts ty xs=(match flatAll xs with|some l=>(gJ P (Builtin.min_ ts ty l.toArray)).bind pQ|none=>av).map (·,hm):=by rcases xs with _|⟨x,_|⟨y,xs⟩⟩<;>(unfold jT;simp only[];cases flatAll _<;>rfl)
def KA{o:Oper}(hg:o.guard=av)(hq:AX o.op=ah)(bV:∀er:Env,∃q:Option AV,∀hm,eI P G (whole P G aQ) er hm o=q.map λx=>(.ret x,er,hm)){ops:Array Oper}{en:Env}{hn:ar}
 (eW:dx P G (whole P G aQ) ops (bO ops.size) e h=aa (.normal,en,hn)) {k:Nat} (ho:ops[k]?=aa o):AY P G (whole P G aQ) ops e h k:=by
 have YK:k<ops.size:=(Array.getElem?_eq_some_iff.1 ho).1;obtain⟨-,tr,st⟩:=trace eW;obtain⟨s1,-⟩:=st k YK;obtain⟨q,qj⟩:=bV (dp P G (whole P G aQ) ops e h k).1;unfold lM at s1;simp only[ho,fL,hg,qj] at s1;cases hx:q with|none=>rw[hx] at s1;simp at s1|some x=>exact⟨o,x,_,_,ho,hq,tr k (Nat.le_of_lt YK),λm hm=>⟨_,_,tr m hm,by rw[qj,hx];rfl⟩⟩
def VZ{ops:Array Oper}(hL:qu aQ L){en:Env}{hn:ar}(eW:dx P G (whole P G aQ) ops (bO ops.size) e h=aa (.normal,en,hn)){k:Nat}(hk:OY P ops L k=ah):AY P G (whole P G aQ) ops e h k:=by
 unfold OY at hk;split at hk
 ·rename_i o ho;simp only[bI,Option.isNone_iff_eq_none] at hk;obtain⟨hg,hk⟩:=hk;split at hk
  ·rename_i f args ts bV;obtain⟨q,hq⟩:=hL f (by simpa using hk);refine KA hg (by rw[bV];rfl) (λer=>⟨q (args.toList.map er.eval),λhm=>?_⟩) eW ho;have:eI P G (whole P G aQ) er hm o=(mK P (whole P G aQ) er hm {callee:=.value (.func f),args,argTypes:=ts}).map λ(r,h1)=>(r,er,h1):=(by unfold eI;rw[bV]);rw[this,VP,JT];unfold sf;rw[hq];simp only[Oo];rfl
  ·rename_i args ts bV;refine KA hg (by rw[bV];rfl) (λer=>⟨match flatAll (args.toList.map er.eval) with|some l=>(gJ P (Builtin.max_ ts o.type l.toArray)).bind pQ|none=>av,λhm=>?_⟩) eW ho
   ·unfold eI;simp only[bV];show(jT P hm .max ts o.type (args.toList.map er.eval)).map _=_;rw[afU,Oo];rfl
  ·rename_i args ts bV;refine KA hg (by rw[bV];rfl) (λer=>⟨match flatAll (args.toList.map er.eval) with|some l=>(gJ P (Builtin.min_ ts o.type l.toArray)).bind pQ|none=>av,λhm=>?_⟩) eW ho
   ·unfold eI;simp only[bV];show(jT P hm .min ts o.type (args.toList.map er.eval)).map _=_;rw[afV,Oo];rfl
  ·rename_i s d x bV;refine KA hg (by rw[bV];rfl) (λer=>?_) eW ho;obtain⟨q,hq⟩:=an6 (P:=P) (x:=er.eval x) hk;refine⟨q,λhm=>?_⟩;unfold eI;simp only[bV,eo,hq,Oo];rfl
  ·cases hk
 ·cases hk
def nW{id:Nat}{ops:Array Oper}(ps:List (Nat × Nat))(hL:qu aQ L)(hd:ES ops (OZ P ops L) ps=ah)(hs:∀p∈ps,mH P G (whole P G aQ) ops e h p.1 p.2=ah)
 (hr:da P G (whole P G aQ) ops ops.toList e h (zr Q)):bM (whole P G aQ) (.region id ops ah) e h Q:=by
 have gI:=hr;obtain⟨o,en,hn,h1,h2⟩:=gI;cases o with
 |normal=>
  have eW:dx P G (whole P G aQ) ops (bO ops.size) e h=aa (.normal,en,hn):=by rw[tQ (aL _),<-Array.length_toList,fN];exact h1
  exact Tf (Pl hd (λk hk=>VZ hL eW (we.1 hk).2) hs) hr
 |_=>exact h2.elim
def eJ{id:Nat}{ops:Array Oper}(hL:qu aQ L)(hd:ES ops (OZ P ops L) []=ah)
 (hr:da P G (whole P G aQ) ops ops.toList e h (zr Q)):bM (whole P G aQ) (.region id ops ah) e h Q:=nW [] hL hd (λp hp=>nomatch hp) hr
end
end Go.AE
end
section
namespace Go.AE
structure gP(S:List Nat)(n0:Nat)(h h':ar):Prop where
 box:∀(c:Nat) (cs:List AV),c∉S->h.boxes[c]?=aa cs->h'.boxes[c]?=aa cs
 len:h.boxes.length<=h'.boxes.length
 loop:∀(l:Nat) (r:iW),h.loops[l]?=aa r->h'.loops[l]?=aa r
 tn:h.tn<=h'.tn
 dead:∀n,n<n0->n∈h'.dead->n∈h.dead
 ok:cK h=ah->cK h'=ah
section
variable {S S':List Nat} {n0:Nat} {h0 h h' h2:ar}
def gP.refl:gP S n0 h h:=⟨λ_ _ _ q=>q,aL _,λ_ _ q=>q,aL _,λ_ _ q=>q,λq=>q⟩
def gP.trans(m:gP S n0 h h')(k:gP S n0 h' h2):gP S n0 h h2:=
 ⟨λc cs hc hb=>k.box c cs hc (m.box c cs hc hb),fG m.len k.len,λl r q=>k.loop l r (m.loop l r q),fG m.tn k.tn,λn hn q=>m.dead n hn (k.dead n hn q),λq=>k.ok (m.ok q)⟩
def gP.mono(m:gP S n0 h h')(hs:∀b∈S,b∈S'):gP S' n0 h h':=⟨λc cs hc=>m.box c cs λq=>hc (hs c q),m.len,m.loop,m.tn,m.dead,m.ok⟩
def gP.put{b:Nat}(hb:b∈S)(cs:List AV):gP S n0 h (h.put b cs):=
 ⟨λc ds hc q=>by rw[dh (λ(e:c=b)=>hc (by rw[e];exact hb))];exact q,by rw[mE];exact aL _,λ_ _ q=>q,aL _,λ_ _ q=>q,λq=>q⟩
def gP.fZ(m:gP S n0 h h'){b:Nat}(hb:h.boxes.length<=b)(cs:List AV):gP S n0 h (h'.put b cs):=
 ⟨λc ds hc q=>by have:=(aW.1 q).1;rw[dh ai];exact m.box c ds hc q,by rw[mE];exact m.len,m.loop,m.tn,m.dead,m.ok⟩
def gP.push(m:gP S n0 h h')(cs:List AV):gP S n0 h (h'.push cs):=
 ⟨λc ds hc q=>bh (m.box c ds hc q),by rw[cR];exact Nat.le_succ_of_le m.len,m.loop,m.tn,m.dead,m.ok⟩
def gP.BC(m:gP S n0 h h')(r:iW):gP S n0 h (h'.loop r):=⟨m.box,m.len,λl q hq=>aag (m.loop l q hq),m.tn,m.dead,m.ok⟩
def gP.fc(m:gP S n0 h h'){l:Nat}(hl:h.loops.length<=l)(r:iW):gP S n0 h (h'.fc l r):=
 ⟨m.box,m.len,λk q hq=>by have:=(aW.1 hq).1;rw[ab8 ai];exact m.loop k q hq,m.tn,m.dead,m.ok⟩
def gP.DK(x:Ext h h')(hn:n0<=h.tn):gP S n0 h h':=⟨λc cs _ hb=>x.box c cs hb,x.len,x.loop,x.tn,λn hl hd=>x.dead n (nE hl hn) hd,x.ok⟩
def gP.uW{n1:Nat}(m:gP S n1 h h')(hn:n0<=n1):gP S n0 h h':=⟨m.box,m.len,m.loop,m.tn,λn hl hd=>m.dead n (nE hl hn) hd,m.ok⟩
def Ext.RR(x:Ext h0 h)(m:gP S h0.tn h h')(hb:∀b∈S,h0.boxes.length<=b):Ext h0 h':=
 ⟨λc cs q=>m.box c cs (λhc=>by have:=hb c hc;have:=(aW.1 q).1;omega) (x.box c cs q),λl r q=>m.loop l r (x.loop l r q),fG x.tn m.tn,λn hn hd=>x.dead n hn (m.dead n hn hd),λq=>m.ok (x.ok q)⟩
def Grown.RR{t:Tok}(g:Grown n0 h h' t):gP S n0 h h':=⟨λc cs _ q=>g.box c cs q,by
 rcases ez h'.boxes.length h.boxes.length with aC|eF
 ·have h1:=g.box h'.boxes.length _ (aU aC);have:=(aW.1 h1).1;omega
 ·exact eF,g.loop,g.tn,g.dead,λ_=>g.ok⟩
end
section
variable {P:bL} {G:Nat->Option (List AV)} {aQ:bq->Option (List AV->ar->Option (AV × ar))} {H:ar} {l:Nat} {rec:iW} {args:List AV}
def asd{Post:ar->Prop}(hr:H.loops[l]?=aa rec)(hs:rec.params.size=args.length)(bT:rec.state=.ready)(hp:rec.pending=av)
 (ha:bM (whole P G aQ) rec.assign (nV l rec args) H (λo e1 h1=>o=.normal/\h1=H/\bM (whole P G aQ) rec.body e1 (H.busy l rec) (λo _ h2=>o=.normal/\h2.loops=(H.busy l rec).loops/\Post {h2 with loops:=H.loops}))):
 ∃H',(whole P G aQ).round l args H=aa (.ret (.v (.bool ah)),H')/\H'.loops=H.loops/\Post H':=by
 obtain⟨o,e1,h1,q1,rfl,rfl,o2,e2,h2,q2,rfl,q3,q4⟩:=ha;have dG:=(aW.1 hr).1;have hb:(h1.busy l rec).loops[l]?=aa {rec with state:=.busy}:=by show(h1.loops.set l _)[l]?=_;simp[dG]
 refine⟨{h2 with loops:=h1.loops},Mr hr hs ⟨_,e1,h1,q1,rfl,rec,hr,bT,.normal,e2,h2,q2,{rec with state:=.busy},by rw[q3];exact hb,rfl,?_⟩,rfl,q4⟩;have Bw:{rec with state:=LoopState.ready,pending:=av}=rec:=by cases rec;cases bT;cases hp;rfl
 have zO:h2.loops.set l rec=h1.loops:=by
  rw[q3];show(h1.loops.set l _).set l rec=_;rw[Ev];apply rW;intro k;rw[mW];split
  ·rename_i e;subst e;exact hr.symm
  ·rfl
 show _=({h2 with loops:=h2.loops.set l {rec with state:=LoopState.ready,pending:=av}}:ar);rw[Bw,zO]
def Ji{Post:ar->Prop}(hr:H.loops[l]?=aa rec)(hs:rec.params.size=args.length)(bT:rec.state=.ready)(hp:rec.pending=av)
 (ha:bM (whole P G aQ) rec.assign (nV l rec args) H (λo e1 h1=>o=.normal/\h1=H/\bM (whole P G aQ) rec.body e1 (H.busy l rec) (λo _ h2=>o=.normal/\h2.loops=(H.busy l rec).loops/\Post {h2 with loops:=H.loops}))):
 ∃H',(whole P G aQ).round l args H=aa (.ret (.v (.bool ah)),H')/\Post H':=by
 obtain⟨H',q1,_,q3⟩:=asd hr hs bT hp ha;exact⟨H',q1,q3⟩
end
end Go.AE
end
section
namespace Go.NT
def avy{α:Type}{f}:∀{l:List α},(∀i∈l,f i=0)->cW (l.map f)=0:=by
 intro l
 induction l with
 |nil=>intro _;rfl|cons x l ih=>intro h;simp only[eL,cW];rw[h x gq,ih λi hi=>h i (fM _ hi)];rfl
def TE{α:Type}{f g}:∀{l:List α},(∀i∈l,f i=g i)->cW (l.map f)=cW (l.map g):=by
 intro l
 induction l with
 |nil=>intro _;rfl|cons x l ih=>intro h;simp only[eL,cW];rw[h x gq,ih λi hi=>h i (fM _ hi)]
def avx{α:Type}{f}{p}:∀{l:List α},(∀i∈l,p i=aB->f i=0)->cW ((l.filter p).map f)=cW (l.map f):=by
 intro l
 induction l with
 |nil=>intro _;rfl|cons x l ih=>
  intro h;have ih:=ih λi hi=>h i (fM _ hi);cases hp:p x
  ·rw[adT (by simp[hp]),ih];simp only[eL,cW];rw[h x gq hp];omega
  ·rw[adU hp];simp only[eL,cW,ih]
def acM{α:Type}{f g}:∀{l:List α},cW (l.map λi=>f i+g i)=cW (l.map f)+cW (l.map g):=by
 intro l
 induction l with
 |nil=>rfl|cons x l ih=>simp only[eL,cW,ih];omega
def Nf{α:Type}{f}{c}:∀{l:List α},cW (l.map λi=>c * f i)=c * cW (l.map f):=by
 intro l
 induction l with
 |nil=>simp[cW]|cons x l ih=>simp only[eL,cW,ih,Int.mul_add]
def acN{α β:Type}{f:α->β->Int}:∀{l:List α} {m:List β},cW (l.map λi=>cW (m.map λj=>f i j))=cW (m.map λj=>cW (l.map λi=>f i j)):=by
 intro l m
 induction l with
 |nil=>simp only[wc,cW];exact(avy λ_ _=>rfl).symm|cons x l ih=>simp only[eL,cW,ih];rw[<-acM]
def JK{α:Type}{f g}{q}:∀{l:List α},(∀i∈l,q∣f i - g i)->q∣cW (l.map f) - cW (l.map g):=by
 intro l
 induction l with
 |nil=>intro _;simp[cW]|cons x l ih=>
  intro h;simp only[eL,cW];have e:f x+cW (l.map f) - (g x+cW (l.map g))=(f x - g x)+(cW (l.map f) - cW (l.map g)):=by omega
  rw[e];exact yW (h x gq) (ih λi hi=>h i (fM _ hi))
def anJ{α β:Type}{l:List α}{f}{g:Nat->β}(h:∀i x,l[i]?=aa x->f x=g i):l.map f=(bO l.length).map g:=by
 apply Kc
 ·simp
 ·intro i h1 h2;rw[qx,qx,B8];exact h i _ (aU (by simpa using h1))
def TM(ae)(target):(gm ae target).length=target.length:=by unfold gm;simp
def acX{ae}{target a}(h:a∈gm ae target):∃k,k<target.length/\a=ae.map (λr=>al r k)++[al target k]:=by unfold gm at h;obtain⟨k,hk,rfl⟩:=kC.1 h;exact⟨k,gf.1 hk,rfl⟩
def Vv{ae:List (List Int)}{k i}{t}(hi:i<ae.length):al (ae.map (λr=>al r k)++t) i=al (ae.getD i []) k:=by unfold al;rw[eE,List.getElem?_append_left (by simpa using hi),ey,aU hi,lU hi];rfl
def afQ{ae:List (List Int)}{k}{x}:al (ae.map (λr=>al r k)++[x]) ae.length=x:=by unfold al;rw[eE,AL bJ];simp
section
variable {ae:List (List Int)} {target l:List Int}
def TN(hr:∀r∈ae,∀x∈r,okF x)(ht:∀x∈target,okF x):(∀a∈gm ae target,a.length=ae.length+1)/\∀a∈gm ae target,∀x∈a,okF x:=by
 refine⟨λa ha=>?_,λa ha x hx=>?_⟩
 ·obtain⟨k,-,rfl⟩:=acX ha;simp
 ·obtain⟨k,hk,rfl⟩:=acX ha;rcases List.mem_append.1 hx with q|q
  ·obtain⟨r,h1,rfl⟩:=kC.1 q;exact rm (hr r h1) k
  ·rw[nC] at q;subst q;exact rm ht k
def combine_sat(hr:∀r∈ae,∀x∈r,okF x)(ht:∀x∈target,okF x)(h:qJ ae target=aa l):
 l.length=ae.length/\(∀x∈l,okF x)/\∀k,k<target.length->Qi∣cW ((bO ae.length).map λi=>al l i * al (ae.getD i []) k) - al target k:=by
 obtain⟨t1,t2⟩:=TN hr ht;unfold qJ at h;dsimp only at h;split at h
 ·rename_i eW;simp only[eg] at h;subst h;have Qs:∀i a,(ju (gm ae target) ae.length).2.length<=i->(ju (gm ae target) ae.length).1[i]?=aa a->al a ae.length=0:=λi a hi ha=>by rw[eK] at eW;have:a∈(ju (gm ae target) ae.length).1.drop (ju (gm ae target) ae.length).2.length:=(by refine dy (i:=i - (ju (gm ae target) ae.length).2.length) ?_;rw[pX];rw[show(ju (gm ae target) ae.length).2.length+(i - (ju (gm ae target) ae.length).2.length)=i by omega];exact ha);simpa using eW a this
  have hs:=auC t1 t2 Qs;have R:=(Jc t1 t2 (ai:ae.length<=ae.length+1)).1;refine⟨M3 _ _,?_,λk hk=>?_⟩
  ·have bB:∀(ps:List (Nat × Nat)) (y:List Int),(∀x∈y,okF x)->∀x∈ps.foldl (λy p=>y.set p.1 (al ((ju (gm ae target) ae.length).1.getD p.2 []) ae.length)) y,okF x:=by
    intro ps
    induction ps with
    |nil=>intro y hy;exact hy|cons p ps ih=>
     intro y hy;refine ih _ λx hx=>?_;rcases xB hx with q|q
     ·exact hy x q
     ·rw[q];refine rm (λz hz=>?_) _;rcases ez p.2 (ju (gm ae target) ae.length).1.length with q2|q2
      ·rw[lU q2] at hz;exact R.ok _ (iK q2) z hz
      ·rw[eE,List.getElem?_eq_none q2] at hz;simp at hz
   unfold qt;exact bB _ _ λx hx=>by rw[Kb hx];exact BJ
  ·have hm:ae.map (λr=>al r k)++[al target k]∈gm ae target:=(by unfold gm;exact kC.2 ⟨k,gf.2 hk,rfl⟩);have:=hs _ hm;unfold Sat res dot at this;rw[M3,afQ] at this;have e:((bO ae.length).map λi=>al (qt (ju (gm ae target) ae.length) ae.length) i * al (ae.map (λr=>al r k)++[al target k]) i)=(bO ae.length).map λi=>al (qt (ju (gm ae target) ae.length) ae.length) i * al (ae.getD i []) k:=
    List.map_congr_left λi hi=>by rw[Vv (gf.1 hi)]
   rw[e] at this;exact this
 ·cases h
end
def auH{n}{at_}{l}:(sQ n at_ l).length=n:=by unfold sQ;rw[HI (λp=>al l p.2)];simp
def auJ{n i}{at_}{l}(h:i∉at_):al (sQ n at_ l) i=0:=by unfold sQ;rw[KW (λp=>al l p.2) _ _ λp hp e=>h (by subst e;obtain⟨p1,p2⟩:=p;have:=List.mem_zipIdx hp;simp only at this ⊢;rw[this.2.2];exact iK _)];unfold al;rw[eE,NY];split<;>rfl
def auG{l}:∀(ps:List (Nat × Nat)) (y:List Int),(ps.map Hk).Nodup->(∀p∈ps,p.1<y.length)->∀p∈ps,al (ps.foldl (λy p=>y.set p.1 (al l p.2)) y) p.1=al l p.2:=by
 intro ps
 induction ps with
 |nil=>intro y _ _ p hp;cases hp
 |cons q ps ih=>
  intro y hn hy p hp;rw[eL,GX] at hn;rcases iU.1 hp with rfl|hp
  ·rw[v9,KW (λp=>al l p.2) _ _ λp' hp' e=>hn.1 (kC.2 ⟨p',hp',e⟩),Ku (hy p gq),aH rfl]
  ·exact ih _ hn.2 (λp hp=>by rw[mJ];exact hy p (fM _ hp)) p hp
def zip_fst(at_:List Nat):at_.zipIdx.map Hk=at_:=by apply Kc<;>simp
def Tq{n j i}{at_}{l}(hn:at_.Nodup)(hb:∀i∈at_,i<n)(hj:at_[j]?=aa i):al (sQ n at_ l) i=al l j:=by
 unfold sQ;have hm:(i,j)∈at_.zipIdx:=by rw[List.mem_zipIdx_iff_getElem?];exact hj
 exact auG at_.zipIdx (br n 0) (by rw[zip_fst];exact hn) (λp hp=>by
  rw[mX];refine hb _ ?_;have:p.1∈at_.zipIdx.map Hk:=kC.2 ⟨p,hp,rfl⟩
  rwa [zip_fst] at this) (i,j) hm
def auI{n}{at_}{l}(hl:∀x∈l,okF x):∀x∈sQ n at_ l,okF x:=by
 have bB:∀(ps:List (Nat × Nat)) (y:List Int),(∀x∈y,okF x)->∀x∈ps.foldl (λy p=>y.set p.1 (al l p.2)) y,okF x:=by
  intro ps
  induction ps with
  |nil=>intro y hy;exact hy|cons p ps ih=>
   intro y hy;refine ih _ λx hx=>?_;rcases xB hx with q|q
   ·exact hy x q
   ·rw[q];exact rm hl _
 exact bB _ _ λx hx=>by rw[Kb hx];exact BJ
def R9{ag au}{i}:i∈eS ag au↔i<ag.length/\al ag i∈au:=by unfold eS;rw[we,gf,adN]
def aoC(ag au):(eS ag au).Nodup:=List.nodup_range.filter _
def qp{ae}{ag}(h:de ae ag=0):ae.length=ag.length/\ae.length<=64/\(∀r∈ae,r.length=bP ae/\0<r.length/\r.length<=64/\∀x∈r,okF x)/\∀x∈ag,0<=x/\x<=63:=by
 unfold de at h;split at h
 ·cases h
 ·rename_i h1;simp only[Bool.or_eq_true,decide_eq_true_eq,List.any_eq_true,not_or,not_exists,not_and,Nat.not_lt] at h1;split at h
  ·cases h
  ·rename_i h2;have h2:ae.length=ag.length:=(by simpa using h2);split at h
   ·rename_i h3;rw[eK] at h3;have key:∀i (hi:i<ae.length),ae[i].length=(ae.getD 0 []).length/\0<ae[i].length/\(∀x∈ae[i],okF x)/\0<=al ag i/\al ag i<=63:=λi hi=>by
     have:=h3 i (gf.2 hi);simp only[lU hi,bI,decide_eq_true_eq,eK] at this;obtain⟨⟨⟨a,b⟩,c,d⟩,f⟩:=this;refine⟨b,?_,λx hx=>?_,c,d⟩
     ·rcases Hc ae[i].length with q|q
      ·rw[List.length_eq_zero_iff] at q;rw[q] at a;cases a
      ·exact q
     ·have:=f x hx;unfold cA at this;simpa [okF] using this
    refine⟨h2,h1.1,λr hr=>?_,λx hx=>?_⟩
    ·obtain⟨i,hi,rfl⟩:=Cb.1 hr;obtain⟨a,b,c,-⟩:=key i hi;refine⟨?_,b,h1.2 _ hr,c⟩;unfold bP;rw[aJ ai];exact a
    ·obtain⟨i,hi,rfl⟩:=Cb.1 hx;have:=(key i ai).2.2.2
     rwa [fB hi] at this
   ·cases h
def tx{ae}{ag}(h:de ae ag=0):0<bP ae/\bP ae<=64:=by
 obtain⟨-,-,h3,-⟩:=qp h;unfold bP;split
 ·omega
 ·rename_i q;have:=h3 (ae.getD 0 []) (by rw[lU ai];exact iK _);exact⟨this.2.1,this.2.2.1⟩
def TJ{n}(h:0<n):(gj n).length=n:=by unfold gj;simp;omega
def avQ{n k}:al (gj n) k=if k=0 then 1 else 0:=by
 unfold gj al;cases k with|zero=>rfl|succ k=>rw[List.getD_cons_succ,eE,NY];split<;>rfl
def avR{n}:∀x∈gj n,okF x:=by
 intro x hx;unfold gj at hx;rcases iU.1 hx with rfl|q
 ·unfold okF;decide
 ·rw[Kb q];exact BJ
def zj{ae}{ag au y}(h:fV ae ag au=(y,ah,0)):
 de ae ag=0/\fU (-1) au=ah/\y.length=ae.length/\(∀x∈y,okF x)/\(∀i,al ag i∉au->al y i=0)/\
  ∀k,k<bP ae->Qi∣cW ((bO ae.length).map λi=>al y i * al (ae.getD i []) k) - (if k=0 then 1 else 0):=by
 unfold fV at h;split at h
 ·simp at h
 ·rename_i hp;have hp:de ae ag=0:=by simpa using hp
  obtain⟨p1,p2,p3,p4⟩:=qp hp;split at h
  ·simp at h
  ·rename_i hw;split at h
   ·simp at h
   ·rename_i l hl;simp only[dF,and_true] at h;subst h;have hb:∀i∈eS ag au,i<ae.length:=λi hi=>(by rw[p1];exact(R9.1 hi).1);have hr:∀r∈(eS ag au).map (λi=>ae.getD i []),∀x∈r,okF x:=λr hr=>(by obtain⟨i,hi,rfl⟩:=kC.1 hr;rw[lU (hb i hi)];exact(p3 _ (iK _)).2.2.2);obtain⟨c1,c2,c3⟩:=combine_sat hr avR hl;rw[bF] at c1 c3;have Bu:∀i,i∉eS ag au->al (sQ ae.length (eS ag au) l) i=0:=λi hi=>auJ hi;refine⟨hp,by simpa using hw,auH,auI c2,λi hi=>Bu i λq=>hi (R9.1 q).2,λk hk=>?_⟩;have:=c3 k (by rw[TJ (tx hp).1];exact hk);rw[avQ] at this;have e:cW ((bO ae.length).map λi=>al (sQ ae.length (eS ag au) l) i * al (ae.getD i []) k)=cW ((bO (eS ag au).length).map λi=>al l i * al (((eS ag au).map λi=>ae.getD i []).getD i []) k):=(by have e1:eS ag au=(bO ae.length).filter λi=>au.contains (al ag i):=(by unfold eS;rw[p1]);have e2:=avx (f:=λi=>al (sQ ae.length (eS ag au) l) i * al (ae.getD i []) k) (p:=λi=>au.contains (al ag i)) (l:=bO ae.length) λi hi hq=>(by rw[Bu i λq=>?_,Ka];rw[adN.2 (R9.1 q).2] at hq;cases hq);rw[<-e1] at e2;rw[<-e2];congr 1;refine anJ λj i hj=>?_;have ov:=(aW.1 hj).1;rw[Tq (aoC ag au) hb hj,lU (t:=(eS ag au).map λi=>ae.getD i []) (by simpa using ov),qx];rw[(aW.1 hj).2]);rw[e];exact this
end Go.NT
end
section
namespace Go.NT
def Gn:Nat:=4
def rV:elem Gn=ah:=by decide+kernel
def Wq{a b}(h:Qi∣a - b):a%Qi=b%Qi:=adB.2 (Int.emod_eq_zero_of_dvd h)
def KH{a b}(h:a%Qi=b%Qi):Qi∣a - b:=Int.dvd_of_emod_eq_zero (adB.1 h)
def Sl{a b}(h:Qi∣a - b):bH Gn a=bH Gn b:=I6 (Wq h)
def apC{a}(h:bH Gn a=1):Qi∣a:=by
 have hf:=E6 a;have ha:Qi∣a - fmod a:=KH (by unfold fmod;rw[Eo _ (En _)]);by_cases h0:fmod a=0
 ·rw[h0,Er] at ha;exact ha
 ·exfalso;have h1:bH Gn (fmod a * eU (fmod a))=1:=by rw[F5 rV,apv,h,Ag,Nat.one_pow];rfl
  have h2:df (fmod a) (eU (fmod a))=1:=Pv hf h0;rw[ur] at h2;have h3:bH Gn (fmod a * eU (fmod a))=bH Gn 1:=I6 (by rw[h2];rfl);rw[h1,apy rV] at h3;cases h3
def apz{a b}(h:bH Gn a=bH Gn b):Qi∣a - b:=by refine apC ?_;rw[Int.sub_eq_add_neg,F4 rV,h];exact apx rV b
def apA{a b}(ha:okF a)(hb:okF b)(h:bH Gn a=bH Gn b):a=b:=by
 have:=Wq (apz h)
 rwa [NN ha.1 ha.2,NN hb.1 hb.2] at this
def aj6{α:Type}{f:α->Nat}{a}:∀{l:List α} (_:∀p∈l,f p=bH Gn (a p)) (k:Int),l.foldl (λx p=>x * f p%P) (bH Gn k)=bH Gn (k+cW (l.map a)):=by
 intro l
 induction l with
 |nil=>intro _ k;simp[cW]|cons p l ih=>intro h k;rw[v9,h p gq,<-F4 rV,ih (λq hq=>h q (fM _ hq))];simp only[eL,cW];congr 1;omega
def Sx{α:Type}{f:α->Nat}{a}{l:List α}(h:∀p∈l,f p=bH Gn (a p)):l.foldl (λx p=>x * f p%P) 1=bH Gn (cW (l.map a)):=by have:=aj6 h 0;rw[aa5,GO] at this;exact this
def px(a b:List Int):Int:=(bO a.length).foldl (λx j=>dj x (df (al a j) (al b j))) 0
def Pw{α:Type}{f}:∀{l:List α} (x:Int),Qi∣l.foldl (λx j=>dj x (f j)) x - (x+cW (l.map f)):=by
 intro l
 induction l with
 |nil=>intro x;simp[cW]|cons j l ih=>intro x;have h1:=ih (dj x (f j));simp only[v9,eL,cW];have h2:Qi∣dj x (f j) - (x+f j):=KH (by rw[CD,Eo _ (En _)]);have:=yW h1 h2;rw[show l.foldl (λx j=>dj x (f j)) (dj x (f j)) - (dj x (f j)+cW (l.map f))+(dj x (f j) - (x+f j))=l.foldl (λx j=>dj x (f j)) (dj x (f j)) - (x+(f j+cW (l.map f))) by omega] at this;exact this
def Xi{α:Type}{f:α->Int}{l:List α}{x}(hx:okF x):okF (l.foldl (λx j=>dj x (f j)) x):=by
 rcases List.eq_nil_or_concat l with rfl|⟨l',a,rfl⟩
 ·exact hx
 ·rw[List.concat_eq_append,oI];exact KP _ _
def ai8(a b):okF (px a b):=Xi BJ
def KV(a b):Qi∣df a b - a * b:=KH (by rw[ur,Eo _ (En _)])
def WO(a b):Qi∣dj a b - (a+b):=KH (by rw[CD,Eo _ (En _)])
def ET{a b c}(h:Qi∣a - b)(k:Qi∣b - c):Qi∣a - c:=by
 have:=yW h k
 rwa [(ai:a - b+(b - c)=a - c)] at this
def WC(a b):Qi∣px a b - cW ((bO a.length).map λj=>al a j * al b j):=by have h1:=Pw (f:=λj=>df (al a j) (al b j)) (l:=bO a.length) 0;rw[GO] at h1;exact ET h1 (JK λj _=>KV _ _)
def ja(aj row:List Int):Nat:=(bO aj.length).foldl (λx j=>x * bH (al aj j).toNat (al row j)%P) 1
def jR(ae:List (List Int))(s:List Int):List Int:=ae.map λr=>px r s
def cO(s:List Int):List Int:=s.map λn=>((bH Gn n:Nat):Int)
def Vu{s}{j}(hj:j<s.length):al (cO s) j=((bH Gn (al s j):Nat):Int):=by
 unfold cO;have:j<(s.map λn=>((bH Gn n:Nat):Int)).length:=by simpa using hj
 rw[fB this,fB hj,qx]
def aa8{s row}(hl:row.length=s.length):ja (cO s) row=bH Gn (px row s):=by
 unfold ja;have hc:(cO s).length=s.length:=by unfold cO;simp
 rw[hc,Sx (a:=λj=>al row j * al s j) λj hj=>by rw[Vu (gf.1 hj),dW,<-F5 rV,AG]];refine(Sl ?_).symm;have:=WC row s
 rwa [hl] at this
def aip{s}:(cO s).all bN=ah:=by rw[eK];intro x hx;obtain⟨n,-,rfl⟩:=kC.1 hx;have:=xd rV n;unfold bN;rw[dW,this,Gz];have h:=(elem_iff.1 this).1;exact b8 ai
def awB{ae}{ag au y s}(h:fV ae ag au=(y,ah,0))(hs:s.length=bP ae):
 Qi∣cW ((bO ae.length).map λi=>al y i * al (jR ae s) i) - al s 0:=by
 obtain⟨hp,-,h1,h2,h3,h4⟩:=zj h;obtain⟨p1,p2,p3,p4⟩:=qp hp;have hc:=tx hp;have e1:Qi∣cW ((bO ae.length).map λi=>al y i * al (jR ae s) i) - cW ((bO ae.length).map λi=>cW ((bO (bP ae)).map λk=>al s k * (al y i * al (ae.getD i []) k))):=by
  refine JK λi hi=>?_;have hi:=gf.1 hi;have hd:=WC ae[i] s;rw[(p3 _ (iK hi)).1] at hd;have e:al (jR ae s) i=px ae[i] s:=by unfold jR;rw[fB (by simpa using hi),qx]
  rw[e,lU hi];have:cW ((bO (bP ae)).map λk=>al s k * (al y i * al ae[i] k))=al y i * cW ((bO (bP ae)).map λk=>al ae[i] k * al s k):=by rw[<-Nf];exact TE λk _=>by rw[Int.mul_left_comm,AG (al s k)]
  rw[this,<-AH];exact GJ hd
 refine ET e1 ?_;rw[acN];have e2:Qi∣cW ((bO (bP ae)).map λk=>cW ((bO ae.length).map λi=>al s k * (al y i * al (ae.getD i []) k))) - cW ((bO (bP ae)).map λk=>if k=0 then al s 0 else 0):=by
  refine JK λk hk=>?_;have:=h4 k (gf.1 hk);rw[Nf];have e:(if k=0 then al s 0 else 0)=al s k * (if k=0 then 1 else 0):=by
   split
   ·rename_i q;subst q;rw[Int.mul_one]
   ·rw[Int.mul_zero]
  rw[e,<-AH];exact GJ this
 refine ET e2 ?_;rw[acR (p:=0) _ hc.1 λi _ bG=>aJ bG,aH rfl,Int.sub_self];exact Int.dvd_zero _
def ga(ag:List Int)(aA:Int):List Nat:=(bO ag.length).filter λi=>decide (al ag i=aA)
def ff(ae:List (List Int))(ag:List Int)(l:List Pr):List Int:=(fV ae ag (l.map Pr.aA)).1
def mw(y:List Int)(s:List (Int × Int)):Int:=s.foldl (λa p=>dj a (df (al y p.1.toNat) p.2)) 0
def DW(ae:List (List Int))(aj:List Int)(p:Int × Int):Bool:=cA p.2&&decide (bH Gn p.2=ja aj (ae.getD p.1.toNat []))
def nt(ae:List (List Int))(ag aj:List Int)(aA:Int)(s:List (Int × Int)):Bool:=decide (s.map Hk=(ga ag aA).map λ(i:Nat)=>(i:Int))&&s.all (DW ae aj)
def nu(l:List Pr)(aA:Int):Option Pr:=l.find? λp=>decide (p.aA=aA)
def ek(c0:Int)(text:List UInt8)(l:List Pr):Nat:=uT (iQ c0 text l) c0 text
def BE(ae:List (List Int))(ag:List Int)(aj:List Int)(text:List UInt8)(l:List Pr)(aA:Int)(s:List (Int × Int))(d f:Int):Int × Int:=
 match nu l aA with
 |none=>(0,1)
 |some x=>
  if !(cA d&&cA f) then (0,1)
  else if !nt ae ag aj aA s then (0,340)
  else if ¬((bH Gn d:Nat):Int)=x.d∨¬((bH Gn f:Nat):Int)=x.e then (0,420)
  else (dj (dj d (df f (fC (al aj 0) text l aA))) (df (ek (al aj 0) text l) (mw (ff ae ag l) s)),0)
def vW(ae:List (List Int))(ag:List Int)(aj:List Int)(text:List UInt8)(l:List Pr)(x:Pr):Nat:=
 iZ (al aj 0) text l x * ((ga ag x.aA).foldl (λa i=>a * bH (ja aj (ae.getD i [])) (al (ff ae ag l) i * ek (al aj 0) text l)%P) 1)%P
def uq(ae:List (List Int))(ag:List Int)(aj:List Int)(text:List UInt8)(l:List Pr)(aA z:Int):Bool × Int:=
 match nu l aA with
 |none=>(aB,1)
 |some x=>if !cA z then (aB,1) else (decide (bH Gn z=vW ae ag aj text l x),0)
def sW(key:Int)(text:List UInt8)(e s:Int):Bool:=bN key&&cA e&&cA s&&decide (e=((uT ((bH Gn s * bH key.toNat (-e)%P:Nat):Int) key text:Nat):Int))
def ak4(b):nj b<Q:=nF _ aZ
def uK{x}:cA x=ah↔okF x:=by unfold cA okF;simp
def Yf(bA)(v):cA ((uw bA v:Nat):Int)=ah:=by rw[uK];have:=ak4 (gO bA (dU v));unfold uw okF;rw[Cm];omega
def awu{x n s}{text}{e}(he:e=uT ((bH Gn n:Nat):Int) ((bH Gn x:Nat):Int) text)(hs:okF s)(h:Qi∣s - (n+e * x)):sW ((bH Gn x:Nat):Int) text e s=ah:=by
 unfold sW;have hx:=xd rV x;have e1:bN ((bH Gn x:Nat):Int)=ah:=by unfold bN;rw[dW,hx,Gz];have h:=(elem_iff.1 hx).1;exact b8 ai
 have e2:cA ((e:Nat):Int)=ah:=by rw[he];exact Yf _ _
 have e3:bH Gn s * bH (bH Gn x) (-(e:Int))%P=bH Gn n:=by
  rw[<-F5 rV,<-F4 rV];refine Sl ?_;have:s+x * -(e:Int) - n=s - (n+e * x):=by rw[Int.mul_neg,AG x];omega
  rw[this];exact h
 rw[e1,e2,uK.2 hs,dW,e3,<-he];simp
end Go.NT
end
section
namespace Go.NT
def ml(f:Nat->Int)(a:List Int)(c k:Nat):List Int:=(bO a.length).map λj=>if c<=j/\j<k then f j else al a j
section
variable {f:Nat->Int} {a own:List Int} {c k j r w:Nat} {t:List (List Int)}
def tA:(ml f a c k).length=a.length:=by unfold ml;simp
def EO(hj:j<a.length):al (ml f a c k) j=if c<=j/\j<k then f j else al a j:=by rw[fB (by rw[tA];exact hj)];unfold ml;rw[qx,B8]
def Wu:ml f a c c=a:=by refine yD tA λj hj=>?_;rw[tA] at hj;rw[EO hj,aJ ai]
def Ws(hc:c<=k)(hk:k<a.length):(ml f a c k).set k (f k)=ml f a c (k+1):=by
 refine yD (by rw[mJ,tA,tA]) λj hj=>?_;rw[mJ,tA] at hj;rw[Ku (by rw[tA];exact hk),EO hj,EO hj];by_cases Bn:j=k
 ·subst Bn;rw[aH rfl,aH ai]
 ·rw[aJ Bn];by_cases q:c<=j/\j<k
  ·rw[aH q,aH ai]
  ·rw[aJ q,aJ ai]
def aiQ{n:Int}(hc:c<=a.length):ml (λj=>df (al a j) n) a c a.length=iR c a n:=by
 unfold iR;refine yD (by rw[tA,dM,bF,fm,iC];omega) λj hj=>?_;rw[tA] at hj;rw[EO hj,EJ hc];by_cases q:j<c
 ·rw[aJ ai,aH q]
 ·rw[aH ai,aJ q];have hm:j - c<((a.drop c).map (df · n)).length:=by rw[bF,iC];omega
  rw[fB hm,qx,List.getElem_drop,fB hj];congr 2;omega
def rn(c:Nat)(own:List Int)(r j:Nat)(t:List (List Int)):List (List Int):=t.mapIdx λi a=>if i<j/\i≠r then wx c a own else a
def Wh:(rn c own r j t).length=t.length:=by unfold rn;simp
def xV(i:Nat):(rn c own r j t)[i]?=t[i]?.map λa=>if i<j/\i≠r then wx c a own else a:=by unfold rn;rw[adX]
def ah7:rn c own r 0 t=t:=by apply rW;intro i;rw[xV];cases t[i]?<;>simp
def ah5:rn c own r (r+1) t=rn c own r r t:=by
 apply rW;intro i;rw[xV,xV];congr 1;funext a;by_cases h:i<r/\i≠r
 ·rw[aH h,aH ai]
 ·rw[aJ h,aJ ai]
def ah4:(rn c own r j t)[j]?=t[j]?:=by rw[xV];cases t[j]?<;>simp
def ah3:(rn c own r j t)[r]?=t[r]?:=by rw[xV];cases t[r]?<;>simp
def ah6{a:List Int}(hj:t[j]?=aa a)(hr:j≠r):(rn c own r j t).set j (wx c a own)=rn c own r (j+1) t:=by
 apply rW;intro i;rw[mW,Wh];have hl:=(aW.1 hj).1;split
 ·rename_i e;subst e
  try rw[aH hl]
  rw[xV,hj,ft,aH ⟨Nat.lt_succ_self _,hr⟩]
 ·rename_i e;rw[xV,xV];congr 1;funext a;by_cases h:i<j/\i≠r
  ·rw[aH h,aH ai]
  ·rw[aJ h,aJ ai]
def KS{j:Nat}(hr:r<=j)(hj:j<=t.length)(hz:∀k,r<=k->k<j->al (t.getD k []) c=0)(he:j<t.length->al (t.getD j []) c≠0):pC t r c=if j=t.length then av else aa j:=by
 cases hf:pC t r c with
 |none=>
  by_cases e:j=t.length
  ·rw[aH e]
  ·exact absurd (WU hf ai hr) (he ai)
 |some k=>
  obtain⟨k1,k2,k3⟩:=CG hf;have hkj:j<=k:=by
   rcases ez k j with h|h
   ·exact absurd (hz k k2 h) k3
   ·exact h
  rw[aJ ai];unfold pC at hf;rw[List.find?_eq_some_iff_getElem] at hf;obtain⟨-,i,hi,zK,eW⟩:=hf;rw[B8] at zK;subst zK;rcases ez j i with h|h
  ·have:=eW j h;rw[B8] at this;simp only[At,Bool.and_eq_false_imp,decide_eq_true_eq,Bool.not_eq_false',decide_eq_true_eq] at this;exact absurd (this hr) (he ai)
  ·rw[Nat.le_antisymm h hkj]
def au4{pv:List Nat}{k:Nat}{b o:List Int}(hf:pC t pv.length c=aa k)(hb:t[k]?=aa b)(ho:t[pv.length]?=aa o):
 yO (t,pv) c=(rn c (iR c b (eU (al b c))) pv.length t.length (((t.set pv.length b).set k o).set pv.length (iR c b (eU (al b c)))),pv++[c]):=by
 have hk:=(aW.1 hb).1;have hr:=(aW.1 ho).1;have gb:t.getD k []=b:=by rw[eE,hb];rfl
 have go:t.getD pv.length []=o:=by rw[eE,ho];rfl
 unfold yO;simp only[hf,gb,go];congr 1;generalize iR c b (eU (al b c))=s;have e1:((t.set pv.length b).set k o).set pv.length s=(t.set k o).set pv.length s:=by
  by_cases e:k=pv.length
  ·subst e;simp
  ·rw[List.set_comm _ _ (λq=>e q.symm),Ev]
 rw[e1];apply rW;intro i;rw[adX,xV];by_cases e:i=pv.length
 ·subst e;rw[List.getElem?_set_self (by rw[mJ];exact hr)];simp
 ·cases hi:((t.set k o).set pv.length s)[i]? with|none=>rfl|some x=>have:=(aW.1 hi).1;rw[mJ,mJ] at this;simp[e,this]
end
end Go.NT
end
section
namespace Go.NT
def Oc(l:List Pr)(ld le:Int->Int):Prop:=∀p∈l,p.d=((bH Gn (ld p.aA):Nat):Int)/\p.e=((bH Gn (le p.aA):Nat):Int)
def Yg(bA)(v):okF ((uw bA v:Nat):Int):=uK.1 (Yf bA v)
def I7(x)(bA)(v):tT x (uw bA v)=bH x ((uw bA v:Nat):Int):=by unfold bH;rw[CK (Yg bA v),dW]
def aax{text}{l}{p}{d e}(hd:p.d=((bH Gn d:Nat):Int))(he:p.e=((bH Gn e:Nat):Int))(c0):
 iZ c0 text l p=bH Gn (d+e * ((fC c0 text l p.aA:Nat):Int)):=by
 unfold iZ;rw[hd,he,dW,dW];unfold fC;rw[I7,<-F5 rV,<-F4 rV]
def ape{text}{l}{ld le}(h:Oc l ld le)(c0):
 iQ c0 text l=bH Gn (cW (l.map λp=>ld p.aA+le p.aA * ((fC c0 text l p.aA:Nat):Int))):=by
 unfold iQ;exact Sx λp hp=>aax (h p hp).1 (h p hp).2 c0
def nq(ag sh:List Int)(k:Int):List (Int × Int):=(ga ag k).map λi=>((i:Nat),al sh i)
def An(y sh:List Int)(L:List Nat):Int:=cW (L.map λi=>al y i * al sh i)
def awP(y ag sh)(k):Qi∣mw y (nq ag sh k) - An y sh (ga ag k):=by
 unfold mw nq An;rw[List.foldl_map];have h1:=Pw (f:=λi:Nat=>df (al y i) (al sh i)) (l:=ga ag k) 0;rw[GO] at h1;have e:(λ(a:Int) (i:Nat)=>dj a (df (al y (((i:Nat):Int)).toNat) (al sh i)))=λa i=>dj a (df (al y i) (al sh i)):=by funext a i;rw[dW]
 simp only[e];exact ET h1 (JK λi _=>KV _ _)
def avw{α:Type}{f}{p}:∀{l:List α},cW ((l.filter p).map f)=cW (l.map λi=>if p i=ah then f i else 0):=by
 intro l
 induction l with
 |nil=>rfl|cons x l ih=>
  cases hp:p x
  ·rw[adT (by simp[hp]),ih];simp only[eL,cW,hp];simp
  ·rw[adU hp];simp only[eL,cW,hp,ih];simp
def avz{n v}:∀{au:List Int},au.Nodup->cW (au.map λk=>if decide (n=k)=ah then v else 0)=if n∈au then v else 0:=by
 intro au
 induction au with
 |nil=>intro _;rfl|cons k l ih=>
  intro h;obtain⟨h1,h2⟩:=GX.1 h;simp only[eL,cW,ih h2];by_cases hk:n=k
  ·subst hk;simp[h1]
  ·simp[hk]
def asp{ag y sh}{au:List Int}(hn:au.Nodup)(h0:∀i,al ag i∉au->al y i=0):
 cW (au.map λk=>An y sh (ga ag k))=cW ((bO ag.length).map λi=>al y i * al sh i):=by
 have e1:(λk=>An y sh (ga ag k))=λk=>cW ((bO ag.length).map λi=>if decide (al ag i=k)=ah then al y i * al sh i else 0):=by funext k;exact avw
 rw[e1,acN];refine TE λi _=>?_;rw[avz hn];split
 ·rfl
 ·rename_i h;rw[h0 i h,Ka]
def Sh:∀{dk:Int} {au:List Int},fU dk au=true->(∀n∈au,dk<n/\n<=63)/\au.Nodup:=by
 intro dk au
 induction au generalizing dk with
 |nil=>intro _;exact⟨λn hn=>by simp at hn,.nil⟩|cons n l ih=>
  intro h;rw[fU] at h;simp only[bI,decide_eq_true_eq] at h;obtain⟨h1,h2⟩:=ih h.2;refine⟨λm hm=>?_,GX.2 ⟨λhm=>?_,h2⟩⟩
  ·rcases iU.1 hm with rfl|hm
   ·exact h.1
   ·have:=h1 m hm;exact⟨ai,this.2⟩
  ·have:=h1 n hm;omega
def qU(ae:List (List Int))(ag aj:List Int)(text:List UInt8)(l:List Pr)(k d f:Int)(s:List (Int × Int)):Int:=
 dj (dj d (df f (fC (al aj 0) text l k))) (df (ek (al aj 0) text l) (mw (ff ae ag l) s))
def aaQ{ae}{ag aj}{text}{l}{k d f}{s}:okF (qU ae ag aj text l k d f s):=KP _ _
def aaP(ae)(ag aj)(text)(l)(k d f)(sh):
 Qi∣qU ae ag aj text l k d f (nq ag sh k) - (d+f * ((fC (al aj 0) text l k:Nat):Int)+((ek (al aj 0) text l:Nat):Int) * An (ff ae ag l) sh (ga ag k)):=by
 unfold qU;generalize ((fC (al aj 0) text l k:Nat):Int)=b;generalize ((ek (al aj 0) text l:Nat):Int)=c;have h1:=awP (ff ae ag l) ag sh k;generalize mw (ff ae ag l) (nq ag sh k)=w at *
 generalize An (ff ae ag l) sh (ga ag k)=v at *
 have h2:=WO (dj d (df f b)) (df c w);have h3:=WO d (df f b);have h4:=KV f b;have h5:=KV c w;have h6:Qi∣c * (w - v):=GJ h1;rw[AH] at h6;have:=yW (yW (yW h2 h3) (yW h4 h5)) h6;refine(congrArg (Qi∣·) ?_).mp this;generalize f * b=x1;generalize c * w=x2;generalize c * v=x3;omega
def aoX{ae}{ag y s}{text}{l}{ld le:Int->Int}(ha:fV ae ag (l.map Pr.aA)=(y,ah,0))(hs:s.length=bP ae):
 Qi∣cW ((l.map Pr.aA).map λk=>qU ae ag (cO s) text l k (ld k) (le k) (nq ag (jR ae s) k)) -
  (cW ((l.map Pr.aA).map λk=>ld k+le k * ((fC (al (cO s) 0) text l k:Nat):Int))+((ek (al (cO s) 0) text l:Nat):Int) * al s 0):=by
 obtain⟨hp,hw,h1,h2,h3,h4⟩:=zj ha;obtain⟨p1,-,-,-⟩:=qp hp;have hn:=(Sh hw).2;have e1:=JK (q:=Qi) (l:=l.map Pr.aA) (f:=λk=>qU ae ag (cO s) text l k (ld k) (le k) (nq ag (jR ae s) k))
  (g:=λk=>ld k+le k * ((fC (al (cO s) 0) text l k:Nat):Int)+((ek (al (cO s) 0) text l:Nat):Int) * An (ff ae ag l) (jR ae s) (ga ag k))
  λk _=>aaP ae ag (cO s) text l k (ld k) (le k) (jR ae s)
 refine ET e1 ?_;rw[acM,Nf];have hy:ff ae ag l=y:=by unfold ff;rw[ha]
 rw[hy,asp hn h3,<-p1];have h5:=awB ha hs;have h6:Qi∣((ek (al (cO s) 0) text l:Nat):Int) * (cW ((bO ae.length).map λi=>al y i * al (jR ae s) i) - al s 0):=GJ h5;rw[AH] at h6;refine(congrArg (Qi∣·) ?_).mp h6;omega
def ain{s}(h:0<s.length):al (cO s) 0=((bH Gn (al s 0):Nat):Int):=Vu h
def aff(z):Qi∣z.foldl dj 0 - cW z:=by have:=Pw (f:=λx:Int=>x) (l:=z) 0;rw[GO,List.map_id'] at this;exact this
def afg(z:List Int):okF (z.foldl dj 0):=Xi (f:=λx:Int=>x) BJ
def MZ{ae}{ag y s}{text}{l}{ld le}(ha:fV ae ag (l.map Pr.aA)=(y,ah,0))(hs:s.length=bP ae)(hl:Oc l ld le):
 sW (al (cO s) 0) text ((ek (al (cO s) 0) text l:Nat):Int) (((l.map Pr.aA).map λk=>qU ae ag (cO s) text l k (ld k) (le k) (nq ag (jR ae s) k)).foldl dj 0)=ah:=by
 obtain⟨hp,-⟩:=zj ha;have jV:0<s.length:=by have:=(tx hp).1;omega
 have h1:=aoX (text:=text) (ld:=ld) (le:=le) ha hs;have h2:=aff ((l.map Pr.aA).map λk=>qU ae ag (cO s) text l k (ld k) (le k) (nq ag (jR ae s) k));have h3:=ET h2 h1;have QT:=ape (text:=text) hl (al (cO s) 0);have e:(l.map Pr.aA).map (λk=>ld k+le k * ((fC (al (cO s) 0) text l k:Nat):Int))=l.map λp=>ld p.aA+le p.aA * ((fC (al (cO s) 0) text l p.aA:Nat):Int):=by rw[Ca];rfl
 rw[e] at h3;have hc:ek (al (cO s) 0) text l=uT ((iQ (al (cO s) 0) text l:Nat):Int) (al (cO s) 0) text:=rfl;rw[QT] at hc;generalize ek (al (cO s) 0) text l=c at *
 generalize cW (l.map λp=>ld p.aA+le p.aA * ((fC (al (cO s) 0) text l p.aA:Nat):Int))=n at *
 rw[ain jV] at *
 exact awu hc (afg _) h3
def Tm{ae}{s}{i}(h:i<ae.length):al (jR ae s) i=px (ae.getD i []) s:=by unfold jR;rw[fB (by simpa using h),qx,lU h]
def awy{ae}{ag s}{text}{l}{x}{d f}(hp:de ae ag=0)(hs:s.length=bP ae)(hd:x.d=((bH Gn d:Nat):Int))(he:x.e=((bH Gn f:Nat):Int)):
 vW ae ag (cO s) text l x=bH Gn (qU ae ag (cO s) text l x.aA d f (nq ag (jR ae s) x.aA)):=by
 obtain⟨p1,p2,p3,p4⟩:=qp hp;unfold vW;rw[aax hd he,Sx (a:=λi=>al (ff ae ag l) i * al (jR ae s) i * ((ek (al (cO s) 0) text l:Nat):Int)) λi hi=>?_];rotate_left 1
 ·have hi:i<ae.length:=by rw[p1];unfold ga at hi;exact gf.1 (we.1 hi).1
  rw[aa8 (by rw[hs,lU hi];exact(p3 _ (iK _)).1),<-F5 rV,Tm hi];congr 1;rw[AG (al (ff ae ag l) i) (px _ _),Int.mul_assoc]
 rw[<-F4 rV];refine(Sl ?_).symm;have h1:=aaP ae ag (cO s) text l x.aA d f (jR ae s);have e:cW ((ga ag x.aA).map λi=>al (ff ae ag l) i * al (jR ae s) i * ((ek (al (cO s) 0) text l:Nat):Int))=((ek (al (cO s) 0) text l:Nat):Int) * An (ff ae ag l) (jR ae s) (ga ag x.aA):=by unfold An;rw[<-Nf];exact TE λi _=>AG _ _
 rw[e];exact h1
def ajT{ae}{ag s}{text}{l}{x}{d f z}(hp:de ae ag=0)(hs:s.length=bP ae)(hd:x.d=((bH Gn d:Nat):Int))(he:x.e=((bH Gn f:Nat):Int))(hz:okF z):
 decide (bH Gn z=vW ae ag (cO s) text l x)=decide (z=qU ae ag (cO s) text l x.aA d f (nq ag (jR ae s) x.aA)):=by
 rw[awy hp hs hd he,decide_eq_decide];exact⟨λh=>apA hz aaQ h,λh=>by rw[h]⟩
def aoF{ae}{ag s}(hp:de ae ag=0)(hs:s.length=bP ae)(k):nt ae ag (cO s) k (nq ag (jR ae s) k)=ah:=by
 obtain⟨p1,p2,p3,p4⟩:=qp hp;unfold nt nq;rw[bI];refine⟨by simp[Ca,Function.comp_def],?_⟩;rw[eK];intro q hq;obtain⟨i,hi,rfl⟩:=kC.1 hq;have hi:i<ae.length:=by rw[p1];unfold ga at hi;exact gf.1 (we.1 hi).1
 unfold DW;simp only[dW];have uF:ja (cO s) (ae.getD i [])=bH Gn (px (ae.getD i []) s):=aa8 (by rw[hs,lU hi];exact(p3 _ (iK _)).1);rw[Tm hi,uK.2 (ai8 _ _),Bool.true_and];exact b8 uF.symm
def aaM{l}{dk}(h:gE dk l=true){p}(hp:p∈l):nu l p.aA=some p:=by
 induction l generalizing dk with
 |nil=>simp at hp|cons q l ih=>
  rw[gE] at h;simp only[bI,decide_eq_true_eq] at h;unfold nu;rw[List.find?_cons];rcases iU.1 hp with rfl|hp
  ·simp
  ·have Ig:∀{l:List Pr} {dk:Int},gE dk l=ah->∀p∈l,dk<p.aA:=by
    intro l
    induction l with
    |nil=>intro _ _ p hp;simp at hp|cons q l ih=>
     intro dk h p hp;rw[gE] at h;simp only[bI,decide_eq_true_eq] at h;rcases iU.1 hp with rfl|hp
     ·exact h.1.1.1.1.1.1
     ·have:=ih h.2 p hp;have:=h.1.1.1.1.1.1;omega
   have:=Ig h.2 p hp;have bG:decide (q.aA=p.aA)=aB:=cS ai;rw[bG];exact ih h.2 hp
def anF{ae}{ag s}{text}{l}{dk}(hp:de ae ag=0)(hs:s.length=bP ae)(hl:gE dk l=ah){x}(hx:x∈l){d f}(hd:x.d=((bH Gn d:Nat):Int))(he:x.e=((bH Gn f:Nat):Int))(od:okF d)(of_:okF f):
 BE ae ag (cO s) text l x.aA (nq ag (jR ae s) x.aA) d f=(qU ae ag (cO s) text l x.aA d f (nq ag (jR ae s) x.aA),0):=by
 unfold BE;rw[aaM hl hx];simp only[uK.2 od,uK.2 of_,aoF hp hs,hd,he];simp[qU]
end Go.NT
end
section
namespace Go.Proofs.YtnfciiiohoafaaaGreatDoor
open Go.AE Go.NT
def VR:qu aQ []:=λg h=>nomatch h
def aqS(a n:Int)(h:ar):W.call 132 [im a,im n] h=aa (.ret (.tuple [im (fH a n),im (ni a)]),h):=by
 have ca:=MV a;unfold fH ni;by_cases ha:bN a=ah
 ·rw[aH ha,aH ha];rw[ha] at ca;obtain⟨x,rfl,hx,x1,x2⟩:=CA ha;have ce:=ajC n;have aC:=Pu n;have hm:=CL n;have cp:=abz (bH x n) x (fmod n).toNat (by have:Q=1073741789:=rfl;omega) (oK.start x2 (by have:Q=1073741789:=rfl;omega));rw[hm] at cp;simp only[dW];clear ha hx x1 x2 aC hm;unfold im at *
  refine cN rfl aeF rfl ?_;exact jx @abC
 ·have nN:bN a=aB:=by simpa using ha
  rw[aJ ha,aJ ha];rw[nN] at ca;unfold im at *
  refine cN rfl aeF rfl ?_;exact jx @abC
def aqM(a b:Int)(h:ar):W.call 140 [im a,im b] h=aa (.ret (.tuple [im (jL a b),im (mM a b)]),h):=by
 have ca:=MV a;have cb:=MV b;unfold jL mM;by_cases ha:bN a=ah
 ·by_cases hb:bN b=ah
  ·rw[aH ⟨ha,hb⟩,aH ⟨ha,hb⟩];rw[ha] at ca;rw[hb] at cb;obtain⟨x,rfl,-,-,x2⟩:=CA ha;obtain⟨y,rfl,-,-,y2⟩:=CA hb;obtain⟨m1,m2,-⟩:=mul_tmod x2 y2;simp only[dW];have e1:((x:Nat):Int) * (y:Nat)=((x * y:Nat):Int):=(Int.natCast_mul _ _).symm;have e3:((x * y:Nat):Int).tmod 2147483579=((x * y%P:Nat):Int):=pR (x * y) 2147483579;rw[e1] at m1 m2;clear ha hb;unfold im at *
   refine cN rfl UW rfl ?_;exact jx @SO
  ·have iM:bN b=aB:=(by simpa using hb);rw[aJ (λq=>hb q.2),aJ (λq=>hb q.2)];rw[ha] at ca;rw[iM] at cb;unfold im at *
   refine cN rfl UW rfl ?_;exact jx @SO
 ·have nN:bN a=aB:=by simpa using ha
  rw[aJ (λq=>ha q.1),aJ (λq=>ha q.1)];rw[nN] at ca;unfold im at *
  refine cN rfl UW rfl ?_;exact jx @SO
def asX:Tryz.f223.results.toList=[.tmp 2]:=aw
def asY:Tryz.f224.results.toList=[.tmp 4]:=aw
def abT:Tryz.f225.results.toList=[.cell 0 242]:=aw
def Jr:Tryz.f190.results.toList=[.cell 2 177]:=aw
def arW(v:BitVec 32)(n:Nat)(h0:0<n)(hn:n<32)(h:ar):W.call 224 [aX v,im (n:Nat)] h=aa (.ret (aX (NT.ec v n)),h):=by
 have e1:IntKind.i64.wrap (32 - ((n:Nat):Int))=((32 - n:Nat):Int):=by rw[gh ai ai];omega
 have s1:∀t x y,dn aq .shr t x y (aX v) (.v (.int .i64 (n:Nat)))=aa (aX (v>>>n)):=λt x y=>tV hn;have s2:∀t x y,dn aq .shl t x y (aX v) (.v (.int .i64 ((32 - n:Nat):Int)))=aa (aX (v<<<(32 - n))):=λt x y=>sP ai;have e3:NT.ec v n=(v>>>n)|||(v<<<(32 - n)):=rfl
 rw[e3];unfold im;refine cN rfl Tryz.func224 rfl ?_
 repeat' (first|simp(maxSteps:=999999)(disch:=first|exact dZ|fail)only[gW,reduceIte,aS,aO,asY,qo, *]|(refine dX ?_ ?_<;>(intro _;try omega))|refine eJ VR aw ?_)
def awH{a0 a1 a2 a3}(h0:a0<256)(h1:a1<256)(h2:a2<256)(h3:a3<256):(((a0<<<24)|||(a1<<<16))|||(a2<<<8))|||a3=(a0 * 256+a1) * 256 * 256+a2 * 256+a3:=by
 have e0:a0<<<24=(a0<<<8)<<<16:=by rw[<-UE]
 have e1:a1<<<16=(a1<<<8)<<<8:=by rw[<-UE]
 have e2:(a0<<<8)<<<16=((a0<<<8)<<<8)<<<8:=by rw[<-UE (a0<<<8) 8 8]
 rw[e0,e1,e2,<-UF,<-UF,<-UF,<-Om (show a1<2^8 from h1),<-Om (show a2<2^8 from h2),<-Om (show a3<2^8 from h3),Ck,Ck,Ck];omega
def awI{b}:(BitVec.ofNat 32 (dO b 0).toNat<<<24|||BitVec.ofNat 32 (dO b 1).toNat<<<16)|||BitVec.ofNat 32 (dO b 2).toNat<<<8|||BitVec.ofNat 32 (dO b 3).toNat=qZ b 0:=by
 have h0:=vV (dO b 0);have h1:=vV (dO b 1);have h2:=vV (dO b 2);have h3:=vV (dO b 3);unfold qZ;rw[<-awH h0 h1 h2 h3];generalize (dO b 0).toNat=a0 at *
 generalize (dO b 1).toNat=a1 at *
 generalize (dO b 2).toNat=a2 at *
 generalize (dO b 3).toNat=a3 at *
 rw[BitVec.ofNat_or,BitVec.ofNat_or,BitVec.ofNat_or];have sh:∀a k:Nat,BitVec.ofNat 32 (a<<<k)=BitVec.ofNat 32 a<<<k:=λa k=>by apply BitVec.eq_of_toNat_eq;rw[BitVec.toNat_shiftLeft,BitVec.toNat_ofNat,BitVec.toNat_ofNat,Ck,Ck,Nat.mod_mul_mod]
 rw[sh,sh,sh]
def cvw(c)(h):oa aq h 5 42 (cB c)=aa (aX (BitVec.ofNat 32 c.toNat),h):=by unfold cB;rw[Ww];unfold aX;have:=vV c;rw[wrap32,BitVec.toNat_ofNat];congr 3
def LM{h}{b}{i}(hi:i<b.length):aI aq Gt h 5 (.elem 1 (bf b) i 0)=aa (cB (dO b i)):=by rw[sI Kq (row:=lQ (dO b i)) (by rw[ey,aU hi];unfold dO;rw[eE,aU hi];rfl)];rfl
def aue{t}{x y}{u}:dn aq .shl t x y (aX u) (.v (.int .u64 24))=aa (aX (u<<<24))/\dn aq .shl t x y (aX u) (.v (.int .u64 16))=aa (aX (u<<<16))/\dn aq .shl t x y (aX u) (.v (.int .u64 8))=aa (aX (u<<<8)):=⟨sP (n:=24) aZ,sP (n:=16) aZ,sP (n:=8) aZ⟩
def atM(b:List UInt8)(hb:4<=b.length)(k:Tok)(h:ar):W.call 223 [.list k 1 (bf b)] h=aa (.ret (aX (qZ b 0)),h):=by
 have ix:∀n:Nat,n<b.length->dS aq 28 (.list k 1 (bf b)) (.v (.int .i64 (n:Nat)))=aa (.elem 1 (bf b) n 0):=λn hn=>by rw[bp jJ tW ai (by rw[bF];omega),dW]
 have i0:=ix 0 ai;have i1:=ix 1 ai;have i2:=ix 2 ai;have i3:=ix 3 ai;have l0:=LM (h:=h) (ai:0<b.length);have l1:=LM (h:=h) (ai:1<b.length);have l2:=LM (h:=h) (ai:2<b.length);have l3:=LM (h:=h) (ai:3<b.length);rw[<-awI];simp only[tY,Int.natCast_one] at i0 i1;have i2:dS aq 28 (.list k 1 (bf b)) (.v (.int .i64 2))=aa (.elem 1 (bf b) 2 0):=i2;have i3:dS aq 28 (.list k 1 (bf b)) (.v (.int .i64 3))=aa (.elem 1 (bf b) 3 0):=i3;clear ix;refine cN rfl Tryz.func223 rfl ?_
 repeat' (first|simp(maxSteps:=999999)(disch:=first|exact dZ|fail)only[gW,reduceIte,aS,aO,asX,cvw,aue,qo, *]|(refine dX ?_ ?_<;>(intro _;try omega))|refine eJ VR aw ?_)
def asU:Tryz.f210.results.toList=[.tmp 2]:=aw
def aub{t}{x y}{n}(hn:n<=4611686018427387903):dn aq .shl t x y (.v (.int .u64 (n:Nat))) (.v (.int .u64 1))=aa (.v (.int .u64 ((2 * n:Nat):Int))):=by rw[OP aZ];congr 3;show IntKind.u64.wrap (((n:Nat):Int) * 2)=_;unfold IntKind.wrap;simp[IntKind.signed,IntKind.bits];omega
def auf{t}{x y}{n}(hn:n<=4611686018427387903):dn aq .shr t x y (.v (.int .i64 (n:Nat))) (.v (.int .u64 63))=aa (.v (.int .i64 0)):=by rw[Cr aZ];congr 3;show((n:Nat):Int).fdiv (2^63)=_;rw[GK _ aZ];omega
def awR{t}{x y}{n}(hn:n<=4611686018427387903):dn aq .xor t x y (.v (.int .u64 ((2 * n:Nat):Int))) (.v (.int .u64 0))=aa (.v (.int .u64 ((2 * n:Nat):Int))):=by
 rw[Vz];congr 3;have e1:(BitVec.ofInt IntKind.u64.bits ((2 * n:Nat):Int)^^^BitVec.ofInt IntKind.u64.bits 0).toNat=2 * n:=by show(BitVec.ofInt 64 ((2 * n:Nat):Int)^^^0#64).toNat=2 * n;rw[BitVec.xor_zero,BitVec.toNat_ofInt];omega
 rw[e1];unfold IntKind.wrap;simp[IntKind.signed,IntKind.bits];omega
def xu{n}(hn:n<18446744073709551616):IntKind.u64.wrap ((n:Nat):Int)=((n:Nat):Int):=by unfold IntKind.wrap;simp[IntKind.signed,IntKind.bits];omega
def awc(n)(hn:n<=4611686018427387903)(h):W.call 210 [.v (.int .i64 (n:Nat))] h=aa (.ret (.v (.int .u64 (mr n:Nat))),h):=by
 have e:mr (n:Int)=2 * n:=by unfold mr;rw[aH ai,dW]
 rw[e];have e1:=xu (n:=n) ai;have e2:IntKind.u64.wrap 0=0:=rfl;have s1:=λt x y=>aub (t:=t) (x:=x) (y:=y) hn;have s2:=λt x y=>auf (t:=t) (x:=x) (y:=y) hn;have s3:=λt x y=>awR (t:=t) (x:=x) (y:=y) hn;refine cN rfl Tryz.func210 rfl ?_;exact jw @asU @r8
def L1:List bq:=[28,29,30,46,65,66,69,78,82,94,132,138,140,194,201,210,223,224]
noncomputable def So:bq->Option (List AV->ar->Option (AV × ar)):=qG W L1
noncomputable abbrev W1:=whole aq Gt So
def wu:qu So L1:=xU
def fx{t}(k):sV t (bX k)=ah:=by cases k<;>rfl
def qO:∀b:List UInt8,fj (bf b)=bf b
 | []=>rfl
 |c::b=>by show bZ (lQ c)::fj (bf b)=_;rw[qO b];rfl
def kL{n l t}:∀b:List UInt8,ie n l t (bf b)=ah
 | []=>rfl
 |c::b=>by show(aR n l t (lQ c)&&ie n l t (bf b))=ah;rw[kL b];rfl
def Lt:∀l:List Int,fj (ints l)=ints l
 | []=>rfl
 |c::b=>by show bZ (yq c)::fj (ints b)=_;rw[Lt b];rfl
def nL{n l t}:∀b:List Int,ie n l t (ints b)=ah
 | []=>rfl
 |c::b=>by show(aR n l t (yq c)&&ie n l t (ints b))=ah;rw[nL b];rfl
section
variable (a b n x:Int)
def ae7:∀h,W1.call 28 [im a,im b] h=aa (.ret (im (dj a b)),h):=bm (L:=L1) rfl rfl rfl (afe a b _) rfl rfl
def anT:∀h,W1.call 29 [im a,im b] h=aa (.ret (im (df a b)),h):=bm (L:=L1) rfl rfl rfl (RQ a b _) rfl rfl
def amx:∀h,W1.call 201 [im n] h=aa (.ret (.tuple [im (if fmod n=0 then 0 else eU n),im (if fmod n=0 then 90 else 0)]),h):=bm (L:=L1) rfl rfl rfl (amz n _) rfl rfl
def awk:∀h,W1.call 46 [im x] h=aa (.ret (.v (.bool (bN x))),h):=bm (L:=L1) rfl rfl rfl (Nq x _) rfl rfl
def akp:∀h,W1.call 69 [im a,im b] h=aa (.ret (.tuple [im (jL a b),im (mM a b)]),h):=bm (L:=L1) rfl rfl rfl (akt a b _) rfl rfl
def aku:∀h,W1.call 30 [im a,im n] h=aa (.ret (.tuple [im (fH a n),im (ni a)]),h):=by obtain⟨h',hc,-⟩:=akx a n ⟨[],[],0,[]⟩;exact bm (L:=L1) rfl rfl rfl hc rfl rfl
def aqa:∀h,W1.call 65 [im a,im b] h=aa (.ret (im (dj a b)),h):=bm (L:=L1) rfl rfl rfl (aqd a b _) rfl rfl
def arR:∀h,W1.call 66 [im a,im b] h=aa (.ret (im (df a b)),h):=bm (L:=L1) rfl rfl rfl (SF a b _) rfl rfl
def aq6:∀h,W1.call 194 [im n] h=aa (.ret (.tuple [im (if fmod n=0 then 0 else eU n),im (if fmod n=0 then 90 else 0)]),h):=bm (L:=L1) rfl rfl rfl (arb n _) rfl rfl
def atG:∀h,W1.call 94 [im x] h=aa (.ret (.v (.bool (bN x))),h):=bm (L:=L1) rfl rfl rfl (MV x _) rfl rfl
def aqG:∀h,W1.call 140 [im a,im b] h=aa (.ret (.tuple [im (jL a b),im (mM a b)]),h):=bm (L:=L1) rfl rfl rfl (aqM a b _) rfl rfl
def aqN:∀h,W1.call 132 [im a,im n] h=aa (.ret (.tuple [im (fH a n),im (ni a)]),h):=bm (L:=L1) rfl rfl rfl (aqS a n _) rfl rfl
end
def awb(n)(hn:n<=4611686018427387903):∀h,W1.call 210 [.v (.int .i64 (n:Nat))] h=aa (.ret (.v (.int .u64 (mr n:Nat))),h):=bm (L:=L1) rfl rfl rfl (awc n hn _) rfl rfl
def yB(v)(n)(h0:0<n)(hn:n<32):∀h,W1.call 224 [aX v,im (n:Nat)] h=aa (.ret (aX (NT.ec v n)),h):=bm (L:=L1) rfl rfl rfl (arW v n h0 hn _) rfl rfl
def atL(b)(hb:4<=b.length)(k):∀h,W1.call 223 [.list k 1 (bf b)] h=aa (.ret (aX (qZ b 0)),h):=
 bm (L:=L1) (b7:=[.list (bX k) 1 (bf b)]) rfl (by rw[bZ,aD,qO];rfl) (by simp[aR,aK,fx,kL]) (atM b hb _ _) rfl rfl
def akk(bA b)(k)(hb:b.length<=1099511620000)(ht:bA.length<=1099511620000):∀h,W1.call 78 [.v (.string (bs bA)),.list k 1 (bf b)] h=aa (.ret (im (nj (gO bA b):Nat)),h):=by obtain⟨h',hc,-⟩:=ako bA b (.list (bX k) 1 (bf b)) ⟨[],[],0,[]⟩ (eu.list (AS _) λ_=>rfl) hb ht;exact bm (L:=L1) (b7:=[.v (.string (bs bA)),.list (bX k) 1 (bf b)]) rfl (by rw[bZ,bZ,aD.eq_1,qO];rfl) (by simp[aR,aK,fx,kL]) hc rfl rfl
def sv(s:List UInt8):AV:=.v (.string (bs s))
def aM(k n:Int)(s:List UInt8)(t:Tok)(sz:Nat)(ae:List (List AV)):List AV:=[im k,im n,sv s,.list t sz ae]
inductive dm:Vl->List AV->Prop
 |int (n:Int) (hn:0<=n/\n<=4611686018427387903):dm (.int n) (aM 1 n [] .nil 0 [])
 |text (s:List UInt8) (hs:s.length<=1099511620000):dm (.text s) (aM 2 0 s .nil 0 [])
 |list (l:List Vl) (k:Tok) (sz:Nat) (ae:List (List AV)) (hl:ae.length=l.length) (hs:ae≠[]->sz=4) (hm:ae.length<=1000000) (h:∀(i:Nat) v r,l[i]?=aa v->ae[i]?=aa r->dm v r):dm (.list l) (aM 3 0 [] k sz ae)
def dm.len{v}{r}(h:dm v r):r.length=4:=by cases h<;>rfl
def lN{k n}{s}{t}{sz}{ae}:(AV.agg (aM k n s t sz ae)).cd=aa (aM k n s t sz ae):=rfl
def dm.cells{v}{r}(h:dm v r):(AV.agg r).cd=aa r:=by cases h<;>rfl
def Jv:Tryz.f207.results.toList=[.tmp 2,.tmp 3]:=aw
def OB:gY aq 96=aa ah:=aw
def qW:dJ aq 96=aa 4:=aw
def Vi:gY aq 94=aa aB:=aw
def ag9:gY aq 9=aa aB:=aw
def ag4:gY aq 4=aa aB:=aw
def avI:dJ aq 246=aa 4:=aw
section
variable {H:ar} {b:Nat} {k n:Int} {s:List UInt8} {t:Tok} {sz:Nat} {ae:List (List AV)}
def tO(hb:H.boxes[b]?=aa (aM k n s t sz ae)):aI aq Gt H 3 (.ptr (.box b) 0)=aa (.v (.int .i64 k)):=by rw[mT fh hb];rfl
def wU(hb:H.boxes[b]?=aa (aM k n s t sz ae)):aI aq Gt H 3 (.ptr (.box b) 1)=aa (.v (.int .i64 n)):=by rw[mT fh hb];rfl
def uN(hb:H.boxes[b]?=aa (aM k n s t sz ae)):aI aq Gt H 9 (.ptr (.box b) 2)=aa (.v (.string (bs s))):=by rw[mT ag9 hb];rfl
def oW(hb:H.boxes[b]?=aa (aM k n s t sz ae)):aI aq Gt H 94 (.ptr (.box b) 3)=aa (.list t sz ae):=by rw[mT Vi hb];rfl
def qT{r:List AV}(hr:r.length=4)(hb:H.boxes[b]?=aa r):aI aq Gt H 96 (.ptr (.box b) 0)=aa (.agg r):=by rw[iP OB qW hb ai,jm,<-hr,fN]
end
def gg:(∀b,gH aq 96 (.ptr (.box b) 0) 0=aa (.ptr (.box b) 0))/\(∀b,gH aq 96 (.ptr (.box b) 0) 1=aa (.ptr (.box b) 1))/\(∀b,gH aq 96 (.ptr (.box b) 0) 2=aa (.ptr (.box b) 2))/\∀b,gH aq 96 (.ptr (.box b) 0) 3=aa (.ptr (.box b) 3):=⟨λ_=>aw,λ_=>aw,λ_=>aw,λ_=>aw⟩
def b4(a b c:Bool):List AV:=[.v (.bool aB),.v (.bool a),.v (.bool b),.v (.bool c)]
def OJ(a b c):nH aq 246 [(1,.v (.bool a)),(2,.v (.bool b)),(3,.v (.bool c))]=aa (.agg (b4 a b c)):=aw
def awY:(iB aq 246).bind AV.cd=aa (b4 aB aB aB):=aw
def yQ:(iB aq 96).bind AV.cd=aa (aM 0 0 [] .nil 0 []):=aw
def Tr(H:ar)(a b c):cE aq (H.push (b4 aB aB aB)) 246 (.ptr (.box H.boxes.length) 0) (.agg (b4 a b c))=aa (H.push (b4 a b c)):=lq rfl avI rfl rfl
def Rp{b n}{k}(hn:n<4):dS aq 246 (.ptr (.box b) 0) (.v (.int k (n:Nat)))=aa (.ptr (.box b) n):=by have h1:aq.underlying 246=aa (.array 4 4):=Tryz.underlying246;have sz4:dJ aq 4=aa 1:=aw;unfold dS;simp only[h1,sz4];rw[aH ⟨ai,by omega⟩];simp
def Rq{b}:dS aq 246 (.ptr (.box b) 0) (.v (.int .i64 1))=aa (.ptr (.box b) 1)/\dS aq 246 (.ptr (.box b) 0) (.v (.int .i64 2))=aa (.ptr (.box b) 2)/\dS aq 246 (.ptr (.box b) 0) (.v (.int .i64 3))=aa (.ptr (.box b) 3):=⟨Rp (n:=1) aZ,Rp (n:=2) aZ,Rp (n:=3) aZ⟩
def ldb{H}{b}{x y z}(hb:H.boxes[b]?=aa (b4 x y z)):aI aq Gt H 4 (.ptr (.box b) 1)=aa (.v (.bool x))/\aI aq Gt H 4 (.ptr (.box b) 2)=aa (.v (.bool y))/\aI aq Gt H 4 (.ptr (.box b) 3)=aa (.v (.bool z)):=by refine⟨?_,?_,?_⟩<;>(rw[mT ag4 hb];rfl)
def Rs{H:ar}{x}{p q r}:aI aq Gt ((H.push x).push (b4 p q r)) 4 (.ptr (.box (H.push x).boxes.length) 1)=aa (.v (.bool p))/\aI aq Gt ((H.push x).push (b4 p q r)) 4 (.ptr (.box (H.push x).boxes.length) 2)=aa (.v (.bool q))/\aI aq Gt ((H.push x).push (b4 p q r)) 4 (.ptr (.box (H.push x).boxes.length) 3)=aa (.v (.bool r)):=ldb (bg _ _)
def TD{H:ar}{v}{r}(hv:dm v r):cE aq (H.push (aM 0 0 [] .nil 0 [])) 96 (.ptr (.box H.boxes.length) 0) (.agg r)=aa (H.push r):=lq hv.cells qW hv.len rfl
def IT{H}{ae}{i}{r}(hl:r.length=4)(hr:ae[i]?=aa r):aI aq Gt H 96 (.elem 4 ae i 0)=aa (.agg r):=by rw[LO OB qW hr ai,jm,<-hl,fN]
def Pb:∀l m:List Vl,iE (l++m)=max (iE l) (iE m)
 | [],m=>by simp[iE]
 |v::l,m=>by rw[lO,iE,iE,Pb l m,Nat.max_assoc]
def Pc{l:List Vl}{i}{v}(h:l[i]?=aa v):iE (l.take (i+1))=max (iE (l.take i)) (gQ v):=by rw[fE h,Pb];simp[iE]
def Pd(l)(i):iE (l.take i)<=iE l:=by have:=Pb (l.take i) (l.drop i);rw[zd] at this;omega
def WA{l}{i:Nat}{v}(h:l[i]?=aa v):gQ v<=iE l:=by have h1:=Pc h;have h2:=Pd l (i+1);omega
def aj8{v:Vl}{r:List AV}(hv:dm v r):gQ v<=100->∀h,∃h',W1.call 207 [.agg r] h=aa (.ret (.tuple [.v (.int .i64 (gQ v:Nat)),.v (.bool ah)]),h')/\Ext h h':=by
 have u9:=EE;have u94:=qD;have z:=awY
 induction hv with
 |int n hn=>
  intro _ h;refine iD rfl U0 rfl ?_;show bM _ _ _ _ (A5 _ _ _ _ (.ret (.tuple [.v (.int .i64 0),.v (.bool ah)])) _)
  repeat' (first|simp(maxSteps:=999999)(disch:=first|exact dZ|fail)only[gW,reduceIte,aS,aO,Jv,OJ,Tr,lN,tO,wU,uN,oW,Rq,gg,Rs,lP,tY,decide_true, *]|refine dX ?_ ?_<;>(intro _;try omega))
  all_goals exact⟨_,rfl,(Ext.push _ _).trans (Ext.push _ _)⟩
 |text s hs=>
  intro _ h;refine iD rfl U0 rfl ?_;show bM _ _ _ _ (A5 _ _ _ _ (.ret (.tuple [.v (.int .i64 0),.v (.bool ah)])) _)
  repeat' (first|simp(maxSteps:=999999)(disch:=first|exact dZ|fail)only[gW,reduceIte,aS,aO,Jv,OJ,Tr,lN,tO,wU,uN,oW,Rq,gg,Rs,lP,tY,decide_true, *]|refine dX ?_ ?_<;>(intro _;try omega))
  all_goals exact⟨_,rfl,(Ext.push _ _).trans (Ext.push _ _)⟩
 |list l k sz ae hl hs hm hr ih=>
  intro hd h;have kd:=ao.mk hd;have kr:=ao.mk hr;have kih:=ao.mk ih;have kh:=ao.mk hs;have kl:=ao.mk hl;refine iD rfl U0 rfl ?_;clear hr ih hs hd hl;by_cases h0:(ae.length:Int)=0
  all_goals
   repeat' (first|simp(maxSteps:=999999)(disch:=first|exact dZ|fail)only[gW,reduceIte,aS,aO,Jv,OJ,Tr,lN,tO,wU,uN,oW,Rq,gg,Rs,tY,decide_true, *]|refine dX ?_ ?_<;>(intro _;try omega))
   refine cH (λm e H=>∃i:Nat,i<=ae.length/\m=ae.length - i/\e.get 55=.list k sz ae/\e.get 56=.v (.int .i64 (ae.length:Nat))/\e.get 57=.v (.int .i64 i)/\e.get 2=.v (.int .i64 (iE (l.take i):Nat))/\e.defers=[]/\Ext h H) ?_ ae.length _ _ ?_;rotate_left 1
   ·refine⟨0,cD _,rfl,?_,?_,?_,?_,?_,(Ext.push _ _).trans (Ext.push _ _)⟩<;>(first|assumption|(simp only[gW,reduceIte,aS,aO]<;>first|rfl|(rw[h0])))
   rintro m e H ⟨i,hi,rfl,g55,g56,g57,g2,hd,hX⟩;have kX:=ao.mk hX;clear hX;by_cases aC:i<ae.length
   ·obtain⟨r,hr⟩:∃r,ae[i]?=aa r:=⟨_,aU aC⟩;obtain⟨v,hv⟩:∃v,l[i]?=aa v:=⟨_,aU (by have:=kl.out;omega)⟩;have dV:=kr.out i v r hv hr;have h4:sz=4:=kh.out (by rintro rfl;simp at aC);subst h4;have yh:gQ (.list l)=iE l+1:=rfl;have hdv:=WA hv;have CX:=Pd l i;have Ib:=kd.out;obtain⟨H2,c1,x1⟩:=kih.out i v r hv hr ai (H.push r);have ld:=IT (H:=H) dV.len hr;have st:=TD (H:=H) dV;have l2:aI aq Gt (H.push r) 96 (.ptr (.box H.boxes.length) 0)=aa (.agg r):=qT dV.len (bg _ _);have zz:=yQ;have s96:=qW;have kX2:=ao.mk (kX.out.trans ((Ext.push H r).trans x1));have kst:=ao.mk (Pc hv);have Il:(i:Int)<(ae.length:Int):=(by omega);clear kX dV hv hr x1 yh Ib;have rD:(if ((iE (l.take i):Nat):Int)<((gQ v:Nat):Int) then ((gQ v:Nat):Int) else ((iE (l.take i):Nat):Int))=((max (iE (l.take i)) (gQ v):Nat):Int):=by split<;>omega
    repeat' (first|simp(maxSteps:=999999)(disch:=first|exact dZ|fail)only[gW,reduceIte,aS,aO,Jv,bp,DH, *]|refine dX ?_ ?_<;>(intro _;try omega))
    all_goals exact⟨ae.length - (i+1),by omega,i+1,by omega,rfl,by trivial,by trivial,by simp,by rw[kst.out],by trivial,kX2.out⟩
   ·have:i=ae.length:=(by omega);subst this;have Ib:=kd.out;have e1:l.take ae.length=l:=(by rw[kl.out];exact fN);rw[e1] at g2;have yh:gQ (.list l)=iE l+1:=rfl;rw[yh] at Ib ⊢;have e2:((iE l+1:Nat):Int)=((iE l:Nat):Int)+1:=by omega
    repeat' (first|simp(maxSteps:=999999)(disch:=first|exact dZ|fail)only[gW,reduceIte,aS,aO,Jv, *]|refine dX ?_ ?_<;>(intro _;try omega))
    all_goals exact⟨_,rfl,kX.out⟩
def SW:Tryz.f209.results.toList=[.tmp 4]:=aw
def Kr{H}{k}{n0 sz}{es new}{x}{t1}(h1:(∃e,aq.underlying t1=aa (.slice e))∨aq.underlying t1=aa .string)(hx:np H 1 x=aa (bf new))(bG:new≠[])(hl:es.length+new.length<=8796093022208)(hs:sz=1∨(es=[]/\k=.nil))(hk:du n0 H k):
 hU aq H #[28,t1] (.list k sz (bf es)) x=aa (.list (.free H.tn) 1 (bf (es++new)),H.app k):=by
 obtain⟨i,q1,q2,q3,q4⟩:=Dz;have hb:=ri hl q3;have:=Hs (t0:=28) (n0:=n0) (i:=i) (sz:=sz) (es:=bf es) (new:=bf new) jJ h1 q1 ai (by rw[q2];exact q4) (by rw[q2];exact hx) (by simpa using bG)
  (by rw[bF,bF];omega) (by rw[bF,bF];omega) (hs.imp (λq=>q.trans q2.symm) λq=>⟨by rw[q.1];rfl,q.2⟩) hk
 rw[this,q2];simp[bf]
def AQ{H}{k k'}{n0 sz}{es}{c}(hl:es.length<8796093022208)(hs:sz=1∨(es=[]/\k=.nil))(hk:du n0 H k):
 hU aq H #[28,28] (.list k sz (bf es)) (.list k' 1 [[cB c]])=aa (.list (.free H.tn) 1 (bf (es++[c])),H.app k):=
 Kr (new:=[c]) (.inl ⟨_,jJ⟩) rfl bJ (by simp;omega) hs hk
def AR(c):gG aq 28 1 [(0,cB c)]=aa (.list .tight 1 [[cB c]]):=aw
def aow(c):c%256|||128=c%128+128:=by
 have h:∀d:Fin 256,(d.val|||128)=d.val%128+128:=by decide+kernel
 have:=h ⟨c%256,nF _ aZ⟩;simp only at this;rw[this];omega
def aox{t}{x y}(c):dn aq .or t x y (.v (.int .u8 (IntKind.u8.wrap (c:Nat)))) (.v (.int .u8 128))=aa (cB (UInt8.ofNat (c%128+128))):=by
 have hw:IntKind.u8.wrap ((c:Nat):Int)=((c%256:Nat):Int):=by unfold IntKind.wrap;simp[IntKind.signed,IntKind.bits]
 have ht:(UInt8.ofNat (c%128+128)).toNat=c%128+128:=by have:(UInt8.ofNat (c%128+128)).toNat=(c%128+128)%256:=UInt8.toNat_ofNat';omega
 unfold cB;rw[hw,OO,ht];congr 3;have e1:BitVec.ofInt IntKind.u8.bits ((c%256:Nat):Int)=BitVec.ofNat 8 (c%256):=by apply BitVec.eq_of_toNat_eq;show(BitVec.ofInt 8 ((c%256:Nat):Int)).toNat=(BitVec.ofNat 8 (c%256)).toNat;rw[BitVec.toNat_ofInt,BitVec.toNat_ofNat];omega
 have e3:(BitVec.ofInt IntKind.u8.bits ((c%256:Nat):Int)|||BitVec.ofInt IntKind.u8.bits 128).toNat=c%128+128:=by rw[e1];show(BitVec.ofNat 8 (c%256)|||128#8).toNat=_;rw[BitVec.toNat_or,BitVec.toNat_ofNat,oJ (ai:c%256<2^8)];exact aow c
 rw[e3,Pn ai ai]
def aug{t}{x y}{n}:dn aq .shr t x y (.v (.int .u64 (n:Nat))) (.v (.int .u64 7))=aa (.v (.int .u64 ((n/128:Nat):Int))):=by rw[Cr aZ];congr 3;show((n:Nat):Int).fdiv (2^7)=_;rw[GK _ aZ];simp
def oX:∀(k u:Nat),(fY k u).length<=k+1
 |0,u=>by simp[fY]
 |k+1,u=>by
  rw[fY];split
  ·simp
  ·have:=oX k (u/128);simp;omega
def RX(u:Nat)(hu:u<18446744073709551616)(es:List UInt8)(k:Tok)(sz n0:Nat)(h:ar)(ho:cK h=ah)(hk:du n0 h k)(hn:n0<=h.tn)(hs:sz=1∨(es=[]/\k=.nil))(hl:es.length<=1099511627776):
 ∃r h',W1.call 209 [.list k sz (bf es),.v (.int .u64 (u:Nat))] h=aa (r,h')/\∃t,r=.ret (.list t 1 (bf (es++fY 9 u)))/\Grown n0 h h' t:=by
 have kG:=ao.mk (Grown.refl hk ho);clear hk ho;refine di rfl Tryz.func209 rfl ?_;refine bC @SW ?_;refine cH (λm e H=>∃(j:Nat) (t:Tok) (cur:List UInt8) (s:Nat),j<=9/\m<2 * 128^j/\cur++fY j m=es++fY 9 u/\cur.length+j=es.length+9/\(s=1∨(cur=[]/\t=.nil))/\e.get 0=.list t s (bf cur)/\e.get 1=.v (.int .u64 (m:Nat))/\e.defers=[]/\Grown n0 h H t) ?_ u _ _ ?_;rotate_left 1
 ·exact⟨9,k,es,sz,aL _,by simpa using hu,rfl,rfl,hs,by exact gR,by exact gR,by exact gR,kG.out⟩
 clear kG hu;rintro m e H ⟨j,t,cur,s,hj,hm,hq,db,hs,g0,g1,hd,hG⟩;have kG:=ao.mk hG;have can:=ao.mk hG.can;clear hG;by_cases HK:m<128
 ·have Iv:=aaz (k:=j) HK;rw[Iv] at hq;have uv:cB (UInt8.ofNat m)=.v (.int .u8 ((m:Nat):Int)):=by have:(UInt8.ofNat m).toNat=m%256:=UInt8.toNat_ofNat';unfold cB;rw[this,oJ ai]
  have eF:¬((128:Int)<=((m:Nat):Int)):=by omega
  have ap:=AQ (k':=.tight) (c:=UInt8.ofNat m) (ai:cur.length<8796093022208) hs can.out;rw[hq] at ap;have bl:=AR (UInt8.ofNat m);rw[uv] at ap bl;clear hm HK Iv hq uv;refine bQ @SW @EP ?_;exact⟨_,_,rfl,_,rfl,kG.out.app hn⟩
 ·obtain⟨j',rfl⟩:∃j',j=j'+1:=⟨j - 1,by
   rcases j with _|j
   ·omega
   ·omega⟩
  have Iv:=aaA (k:=j') (ai:128<=m);rw[Iv] at hq;have eF:(128:Int)<=((m:Nat):Int):=by omega
  have bl:=AR (UInt8.ofNat (m%128+128));have ap:=AQ (k':=.tight) (c:=UInt8.ofNat (m%128+128)) (ai:cur.length<8796093022208) hs can.out;have kq:=ao.mk hq;have km:=ao.mk hm;clear Iv hq hm;refine bK @SW @EP @aox @aug ?_;refine⟨m/128,by omega,j',.free H.tn,cur++[UInt8.ofNat (m%128+128)],1,by omega,?_,?_,by simp;omega,.inl rfl,by trivial,by trivial,by trivial,kG.out.app hn⟩
  ·have:=km.out;rw[Cj] at this;omega
  ·rw[ua];exact kq.out
def asP:Tryz.f184.results.toList=[.tmp 0]:=aw
def SV:Tryz.f208.results.toList=[.tmp 4]:=aw
def SX:Tryz.f211.results.toList=[.tmp 4]:=aw
def Gg:Tryz.f212.results.toList=[.tmp 5]:=aw
def iL:AV:=.v .nilFunc
def xr(a:Nat):List AV:=[iL,.func (.func 208) [] [],.func (.func 211) [] [],.func (.func 212) [] [.ptr (.box a) 0]]
def avF:dJ aq 207=aa 1:=aw
def afm:gY aq 207=aa aB:=aw
def afn:gY aq 210=aa aB:=aw
def avG:dJ aq 210=aa 1:=aw
def afZ:nH aq 237 []=aa (.agg [iL,iL,iL,iL]):=aw
def awU:(iB aq 210).bind AV.cd=aa [.v (.pointer av)]:=aw
def LH{b n}{k}(hn:n<4):dS aq 237 (.ptr (.box b) 0) (.v (.int k (n:Nat)))=aa (.ptr (.box b) n):=by have h1:aq.underlying 237=aa (.array 4 209):=Tryz.underlying237;have sz:dJ aq 209=aa 1:=aw;unfold dS;simp only[h1,sz];rw[aH ⟨ai,by omega⟩];simp
def ZS{b}:dS aq 237 (.ptr (.box b) 0) (.v (.int .i64 1))=aa (.ptr (.box b) 1)/\dS aq 237 (.ptr (.box b) 0) (.v (.int .i64 2))=aa (.ptr (.box b) 2)/\dS aq 237 (.ptr (.box b) 0) (.v (.int .i64 3))=aa (.ptr (.box b) 3):=⟨LH (n:=1) aZ,LH (n:=2) aZ,LH (n:=3) aZ⟩
def CB{r}{o}:gH aq 209 (.ptr r o) 0=aa (.ptr r o):=aw
def stw{h:ar}{c q}{k}{f}{a b}(hc:c.length=4)(hk:k<4):cE aq ((h.push c).push q) 207 (.ptr (.box h.boxes.length) k) (.func f a b)=aa ((h.push (c.set k (.func f a b))).push q):=by rw[fK (xs:=[.func f a b]) rfl avF (bh (bg _ _)) rfl ai];congr 1;rw[apZ (by rw[cR];omega),qs];congr 2;unfold fe;rw[List.set_eq_take_append_cons_drop,aH ai];simp
def ZW{H}{a b}(hb:H.boxes[a]?=aa [.ptr (.box b) 0]):aI aq Gt H 210 (.ptr (.box a) 0)=aa (.ptr (.box b) 0):=by rw[mT afn hb];rfl
def amQ{h:ar}{c}:aI aq Gt ((h.push c).push [.ptr (.box h.boxes.length) 0]) 210 (.ptr (.box (h.push [iL,iL,iL,iL]).boxes.length) 0)=aa (.ptr (.box h.boxes.length) 0):=by refine ZW ?_;rw[cR,<-cR h c];exact bg _ _
def auM{H:ar}{b}:cE aq (H.push [.v (.pointer av)]) 210 (.ptr (.box H.boxes.length) 0) (.ptr (.box b) 0)=aa (H.push [.ptr (.box b) 0]):=lq rfl avG rfl rfl
def awN(h:ar):W1.call 184 [] h=aa (.ret (.ptr (.box h.boxes.length) 0),(h.push (xr (h.boxes.length+1))).push [.ptr (.box h.boxes.length) 0]):=by
 have z:=awU;have cs:(AV.agg [iL,iL,iL,iL]).cd=aa [iL,iL,iL,iL]:=rfl;have e:xr (h.boxes.length+1)=(([iL,iL,iL,iL].set 1 (.func (.func 208) [] [])).set 2 (.func (.func 211) [] [])).set 3 (.func (.func 212) [] [.ptr (.box (h.push [iL,iL,iL,iL]).boxes.length) 0]):=by rw[cR];rfl
 rw[e];have l0:[iL,iL,iL,iL].length=4:=rfl;have l1:([iL,iL,iL,iL].set 1 (.func (.func 208) [] [])).length=4:=rfl;have l2:(([iL,iL,iL,iL].set 1 (.func (.func 208) [] [])).set 2 (.func (.func 211) [] [])).length=4:=rfl;refine cN rfl Tryz.func184 rfl ?_;exact oj @asP @afZ @auM (az @amQ (az @ZS (az @CB @stw)))
def JS:Vl->bq
 | .int _=>208
 | .text _=>211
 | .list _=>212
def JR(a:Nat):Vl->List AV
 | .list _=>[.ptr (.box a) 0]
 |_=>[]
def th:gG aq 28 1 [(0,.v (.int .u8 1))]=aa (.list .tight 1 [[cB 1]])/\gG aq 28 1 [(0,.v (.int .u8 2))]=aa (.list .tight 1 [[cB 2]])/\gG aq 28 1 [(0,.v (.int .u8 3))]=aa (.list .tight 1 [[cB 3]]):=⟨AR 1,AR 2,AR 3⟩
def awL(n:Nat)(hn:n<=4611686018427387903)(es:List UInt8)(k:Tok)(sz n0:Nat)(H:ar)(ho:cK H=ah)(hk:du n0 H k)(h0:n0<=H.tn)(hs:sz=1∨(es=[]/\k=.nil))(hl:es.length<=1099511627000):
 ∃r' H',W1.call 208 [.list k sz (bf es),.agg (aM 1 (n:Nat) [] .nil 0 [])] H=aa (r',H')/\∃t,r'=.ret (.list t 1 (bf (es++dU (.int (n:Nat)))))/\Grown n0 H H' t:=by
 have g1:Grown n0 H (H.push (aM 1 (n:Nat) [] .nil 0 [])) k:=(Grown.refl hk ho).push _;have ap:=AQ (H:=H.push (aM 1 (n:Nat) [] .nil 0 [])) (k':=.tight) (c:=1) (ai:es.length<8796093022208) hs g1.can;have g2:=g1.app h0;have hu:mr ((n:Nat):Int)<18446744073709551616:=by unfold mr;rw[aH ai];omega
 obtain⟨r3,H3,c3,t3,rfl,g3⟩:=RX (mr ((n:Nat):Int)) hu (es++[1]) _ 1 n0 _ g2.ok g2.can (fG h0 g2.tn) (.inl rfl) (by simp;omega);have kG:=ao.mk (g2.trans g3);have ee:es++[1]++fY 9 (mr ((n:Nat):Int))=es++dU (.int (n:Nat)):=by rw[dU];simp
 rw[ee] at c3;clear g1 g2 g3 ho hk hs ee hu;refine di rfl Tryz.func208 rfl ?_;have cu:=awb n hn;refine bK @SV @th @lN (az @wU (az @gg @eC)) ?_;refine nW [(2,4)] wu aw (λp hp=>?_) ?_
 ·simp only[nC] at hp;subst hp;refine sS (x:=.ptr (.box H.boxes.length) 1) (v:=.v (.int .i64 (n:Nat))) aw rfl rfl rfl aw (by simp[fA,mU]) ?_ ?_<;>(simp only[iV,gF];exact oj @SV @th @lN (az @wU (az @gg (az @eC @and_self))))
 refine bK @SV @th @lN (az @wU (az @gg @eC)) ?_;exact⟨_,_,rfl,_,rfl,kG.out⟩
def aay(H)(s):np H 1 (.v (.string (bs s)))=aa (bf s):=by unfold np;simp[bs]
def Vn{H}{k}{n0}{es s}(hl:es.length+s.length<=8796093022208)(hk:du n0 H k)(ho:cK H=ah)(hn:n0<=H.tn):
 ∃t H',hU aq H #[28,9] (.list k 1 (bf es)) (.v (.string (bs s)))=aa (.list t 1 (bf (es++s)),H')/\Grown n0 H H' t:=by
 by_cases hs:s=[]
 ·subst hs;obtain⟨i,q1,q2,q3,q4⟩:=Dz;refine⟨k,H,?_,Grown.refl hk ho⟩;rw[Vp jJ (.inr EE) q1 ai (by rw[q2];exact q4) (by rw[q2];exact aay H []) (.inl q2.symm),jC]
 ·exact⟨_,_,Kr (.inr EE) (aay H s) hs hl (.inl rfl) hk,Grown.one hk ho hn⟩
def acI(s):dQ aq 9 (.v (.string (bs s)))=aa (.v (.int .i64 (s.length:Nat))):=by rw[aab EE,Ct]
def awM(s:List UInt8)(nR:s.length<=1099511620000)(es:List UInt8)(k:Tok)(sz n0:Nat)(H:ar)(ho:cK H=ah)(hk:du n0 H k)(h0:n0<=H.tn)(hs:sz=1∨(es=[]/\k=.nil))(hl:es.length<=1099511627000):
 ∃r' H',W1.call 211 [.list k sz (bf es),.agg (aM 2 0 s .nil 0 [])] H=aa (r',H')/\∃t,r'=.ret (.list t 1 (bf (es++dU (.text s))))/\Grown n0 H H' t:=by
 have g1:Grown n0 H (H.push (aM 2 0 s .nil 0 [])) k:=(Grown.refl hk ho).push _;have ap:=AQ (H:=H.push (aM 2 0 s .nil 0 [])) (k':=.tight) (c:=2) (ai:es.length<8796093022208) hs g1.can;have g2:=g1.app h0;obtain⟨r3,H3,c3,t3,rfl,g3⟩:=RX s.length ai (es++[2]) _ 1 n0 _ g2.ok g2.can (fG h0 g2.tn) (.inl rfl) (by simp;omega);have g4:=g2.trans g3;have nl:=oX 9 s.length;obtain⟨t4,H4,ap4,g5⟩:=Vn (es:=es++[2]++fY 9 s.length) (s:=s) (by simp;omega) g3.can g3.ok (fG h0 (fG g2.tn g3.tn));have kG:=ao.mk (g4.trans g5);have ee:es++[2]++fY 9 s.length++s=es++dU (.text s):=by rw[dU];simp
 rw[ee] at ap4;have b0:(H.push (aM 2 0 s .nil 0 [])).boxes[H.boxes.length]?=aa (aM 2 0 s .nil 0 []):=bg _ _;have b1:((H.push (aM 2 0 s .nil 0 [])).app k).boxes[H.boxes.length]?=aa (aM 2 0 s .nil 0 []):=by rw[eC];exact b0
 have b3:H3.boxes[H.boxes.length]?=aa (aM 2 0 s .nil 0 []):=g3.box _ _ b1;have l1:=uN b1;have l3:=uN b3;have l0:=uN b0;have sl:=acI s;have hw:=xu (n:=s.length) ai;clear g1 g2 g3 g4 g5 ho hk hs ee b0 b1 b3 nl;refine di rfl Tryz.func211 rfl ?_;refine bK @SX @th @lN (az @gg @r8) ?_;refine nW [(2,4),(2,9),(7,9)] wu aw (λp hp=>?_) ?_
 ·simp only[iU,xC,or_false] at hp;rcases hp with rfl|rfl|rfl
  all_goals
   refine sS (x:=.ptr (.box H.boxes.length) 2) (v:=.v (.string (bs s))) aw rfl rfl rfl aw (by simp[fA,mU]) ?_ ?_<;>(simp only[iV,gF];exact oj @SX @th @lN (az @gg (az @r8 @and_self)))
 refine bK @SX @th @lN (az @gg @r8) ?_;exact⟨_,_,rfl,_,rfl,kG.out⟩
def DB:Vl->Nat
 | .int _=>1
 | .text _=>2
 | .list _=>3
def Rt{H}{x}{v}{r}(hv:dm v r)(hb:H.boxes[x]?=aa r):aI aq Gt H 3 (.ptr (.box x) 0)=aa (.v (.int .i64 (DB v:Nat))):=by cases hv<;>exact tO hb
def FO{b}{v}:dS aq 237 (.ptr (.box b) 0) (.v (.int .i64 (DB v:Nat)))=aa (.ptr (.box b) (DB v)):=by exact LH (by cases v<;>simp[DB])
def Z4{H}{a b}{v}(hb:H.boxes[b]?=aa (xr a)):aI aq Gt H 207 (.ptr (.box b) (DB v))=aa (.func (.func (JS v)) [] (JR a v)):=by rw[mT afm hb];cases v<;>rfl
def WI{l:List Vl}{i}{v}(h:l[i]?=aa v):jn (l.take (i+1))=jn (l.take i)++dU v:=by rw[fE h,WG];simp[jn]
def WH(l)(i):(jn (l.take i)).length<=(jn l).length:=by have:=WG (l.take i) (l.drop i);rw[zd] at this;rw[this,dM];omega
mutual
def ab5(v:Vl):∀r,dm v r->pP r r=ah:=by
 intro r h;cases h with|int n hn=>simp[aM,pP,fA,mU,im,sv,yK,rO]|text s hs=>simp[aM,pP,fA,mU,im,sv,yK,rO]|list l k sz ae hl hs hm hr=>have:=Tk l ae hl hr;simp[aM,pP,fA,mU,im,sv,this];cases k<;>simp[yK]
def Tk(l:List Vl):∀ae:List (List AV),ae.length=l.length->(∀(i:Nat) v r,l[i]?=aa v->ae[i]?=aa r->dm v r)->rO ae ae=ah:=by
 intro ae hl h
 match l,ae,hl,h with
 | [],[],_,_=>rfl
 |v::l,r::ae,hl,h=>rw[rO,ab5 v r (h 0 v r rfl rfl),Tk l ae (by simpa using hl) λi v r hv hr=>h (i+1) v r (by simpa using hv) (by simpa using hr)];rfl
end
def awK{v:Vl}{r:List AV}(hv:dm v r):∀(a b:Nat) (es:List UInt8) (k:Tok) (sz n0:Nat) (H:ar),H.boxes[a]?=aa [.ptr (.box b) 0]->H.boxes[b]?=aa (xr a)->cK H=ah->du n0 H k->n0<=H.tn->(sz=1∨(es=[]/\k=.nil))->es.length+(dU v).length<=1099511627000->
 ∃r' H',W1.call (JS v) (.list k sz (bf es)::.agg r::JR a v) H=aa (r',H')/\∃t,r'=.ret (.list t 1 (bf (es++dU v)))/\Grown n0 H H' t:=by
 induction hv with
 |int n hn=>intro a b es k sz n0 H _ _ ho hk h0 hs hl;obtain⟨m,rfl⟩:∃m:Nat,n=m:=⟨n.toNat,by omega⟩;exact awL m ai es k sz n0 H ho hk h0 hs ai
 |text s nR=>intro a b es k sz n0 H _ _ ho hk h0 hs hl;exact awM s nR es k sz n0 H ho hk h0 hs ai|list l kl szl ae dG nR hm hr ih=>
  intro a b es k sz n0 H ha hb ho hk h0 hs hl;have sr:=Tk l ae dG hr;have kr:=ao.mk hr;have kih:=ao.mk ih;have ksl:=ao.mk nR;have kll:=ao.mk dG;have enc:dU (.list l)=3::(fY 9 l.length++jn l):=by rw[dU]
  rw[enc] at hl ⊢;have g1:Grown n0 H (H.push (aM 3 0 [] kl szl ae)) k:=(Grown.refl hk ho).push _;have ap:=AQ (H:=H.push (aM 3 0 [] kl szl ae)) (k':=.tight) (c:=3) (ai:es.length<8796093022208) hs g1.can;have g2:=g1.app h0;simp only[jd,dM] at hl;obtain⟨r3,H3,c3,t3,rfl,g3⟩:=RX l.length ai (es++[3]) _ 1 n0 _ g2.ok g2.can (fG h0 g2.tn) (.inl rfl) (by simp;omega);have g4:=g2.trans g3;have b0:(H.push (aM 3 0 [] kl szl ae)).boxes[H.boxes.length]?=aa (aM 3 0 [] kl szl ae):=bg _ _;have b1:((H.push (aM 3 0 [] kl szl ae)).app k).boxes[H.boxes.length]?=aa (aM 3 0 [] kl szl ae):=by rw[eC];exact b0
  have b3:H3.boxes[H.boxes.length]?=aa (aM 3 0 [] kl szl ae):=g3.box _ _ b1;have l0:=oW b0;have l1:=oW b1;have l3:=oW b3;have u94:=qD;have hw:=xu (n:=l.length) ai;have Il:((ae.length:Nat):Int)=((l.length:Nat):Int):=by rw[dG]
  have kG:=ao.mk g4;have kha:=ao.mk ha;have khb:=ao.mk hb;have kl2:=ao.mk hl;have sv0:fA (.list kl szl ae) (.list kl szl ae)=ah:=by rw[fA,sr,Gz];cases kl<;>simp[yK]
  clear g1 g2 g3 g4 ho hk hs b0 b1 b3 hr ih nR dG sr ha hb hl;show ∃r' H',W1.call 212 [.list k sz (bf es),.agg (aM 3 0 [] kl szl ae),.ptr (.box a) 0] H=aa (r',H')/\_;refine di rfl Tryz.func212 rfl ?_;refine bK @Gg @th @lN (az @gg @r8) ?_;refine nW [(2,4)] wu aw (λp hp=>?_) ?_
  ·simp only[nC] at hp;subst hp;refine sS (x:=.ptr (.box H.boxes.length) 3) (v:=.list kl szl ae) aw rfl rfl rfl aw (sv0) ?_ ?_<;>(simp only[iV,gF];exact oj @Gg @th @lN (az @gg (az @r8 @and_self)))
  refine bK @Gg @th @lN (az @gg @r8) ?_;refine cH (λm e H1=>∃(i:Nat) (t:Tok),i<=l.length/\m=l.length - i/\e.get 0=.list t 1 (bf (es++[3]++fY 9 l.length++jn (l.take i)))/\e.get 2=.ptr (.box a) 0/\e.get 17=.list kl szl ae/\e.get 18=.v (.int .i64 (l.length:Nat))/\e.get 19=.v (.int .i64 i)/\e.defers=[]/\Grown n0 H H1 t) ?_ l.length _ _ ?_;rotate_left 1
  ·refine⟨0,t3,cD _,rfl,?_,?_,?_,?_,?_,?_,kG.out⟩<;>(first|assumption|(simp only[gW,reduceIte,aS,aO,gF,jn,jC]<;>first|rfl|(rw[Il])))
  clear c3 ap l0 l1 l3 kG hw;rintro m e H1 ⟨i,t,hi,rfl,g0,g2,g17,g18,g19,hd,hG⟩;have kG:=ao.mk hG;clear hG;by_cases aC:i<l.length
  ·obtain⟨v,hv⟩:∃v,l[i]?=aa v:=⟨_,aU aC⟩;obtain⟨r,hr⟩:∃r,ae[i]?=aa r:=⟨_,aU ai⟩;have dV:=kr.out i v r hv hr;have h4:szl=4:=ksl.out (by rintro rfl;simp at hr);subst h4;have gp:=kG.out.push r;have es1:=WI hv;have el:=WH l (i+1);rw[es1,dM] at el;have hl:=kl2.out;have nl:=oX 9 l.length;obtain⟨r2,H2,c2,t2,rfl,g3⟩:=kih.out i v r hv hr a b (es++[3]++fY 9 l.length++jn (l.take i)) t 1 n0 (H1.push r) (gp.box _ _ kha.out) (gp.box _ _ khb.out) gp.ok gp.can (fG h0 gp.tn) (.inl rfl) (by simp;omega);rw[show es++[3]++fY 9 l.length++jn (l.take i)++dU v=es++[3]++fY 9 l.length++jn (l.take (i+1)) by rw[es1];simp] at c2;have kG2:=ao.mk (gp.trans g3);have ld:=IT (H:=H1) dV.len hr;have st:=TD (H:=H1) dV;have l2:aI aq Gt (H1.push r) 96 (.ptr (.box H1.boxes.length) 0)=aa (.agg r):=qT dV.len (bg _ _);have l5:=Rt dV (bg H1 r);have l6:=ZW (gp.box _ _ kha.out);have l7:=Z4 (v:=v) (gp.box _ _ khb.out);have ik:=FO (b:=b) (v:=v);have zz:=yQ;have s96:=qW;have axt:(i:Int)<(ae.length:Int):=(by omega);generalize JS v=fv at *
   generalize JR a v=cv at *
   generalize DB v=kv at *
   clear gp g3 es1 el hl nl hv hr dV kG;refine bK @Gg @bp @gg @CB ?_;refine eJ wu aw ?_;refine bK @Gg @bp @gg (az @CB (az @mh.{0} @lO.{0})) ?_;exact⟨l.length - (i+1),by omega,i+1,t2,by omega,rfl,by trivial,by trivial,by trivial,by trivial,by simp,by trivial,kG2.out⟩
  ·have:i=l.length:=(by omega);subst this;rw[fN] at g0;have ee:es++[3]++fY 9 l.length++jn l=es++3::(fY 9 l.length++jn l):=(by simp);rw[ee] at g0;refine bC @Gg ?_;exact⟨_,_,rfl,_,rfl,kG.out⟩
def asO:Tryz.f183.results.toList=[.tmp 2]:=aw
def MC:Tryz.f146.results.toList=[.tmp 2,.tmp 3]:=aw
def ahV{v:Vl}{r:List AV}(hv:dm v r)(hd:gQ v<=16)(h:ar):∃h',W1.call 183 [.agg r] h=aa (.ret (im 0),h')/\Ext h h':=by
 obtain⟨h1,c1,x1⟩:=aj8 hv ai (h.push r);have cs:=hv.cells;have ld:=qT hv.len (bg h r);have kx:=ao.mk ((Ext.push h r).trans x1);have eX:¬((16:Int)<((gQ v:Nat):Int)):=by omega
 clear hv x1 hd;unfold im;refine iD rfl Tryz.func183 rfl ?_;refine bC @asO ?_;exact⟨_,rfl,kx.out⟩
def ajm{v:Vl}{r:List AV}(hv:dm v r)(hd:gQ v<=16)(hl:(dU v).length<=1099511627000)(h:ar)(ho:cK h=ah):
 ∃r' h',W1.call 146 [.agg r] h=aa (r',h')/\∃t,r'=.ret (.tuple [.list t 1 (bf (dU v)),.v (.int .i64 0)])/\Ext h h':=by
 obtain⟨h1,c1,x1⟩:=ahV hv hd (h.push r);unfold im at c1;have x2:=(Ext.push h r).trans x1;have cs:=hv.cells;have b0:=bg h r;have b1:=x1.box _ _ b0;have c2:=awN h1;have b2:((h1.push (xr (h1.boxes.length+1))).push [.ptr (.box h1.boxes.length) 0]).boxes[h.boxes.length]?=aa r:=bh (bh b1);have bb:((h1.push (xr (h1.boxes.length+1))).push [.ptr (.box h1.boxes.length) 0]).boxes[h1.boxes.length]?=aa (xr (h1.boxes.length+1)):=bh (bg _ _);have ba:((h1.push (xr (h1.boxes.length+1))).push [.ptr (.box h1.boxes.length) 0]).boxes[h1.boxes.length+1]?=aa [.ptr (.box h1.boxes.length) 0]:=nM (by rw[cR]);have x3:Ext h1 ((h1.push (xr (h1.boxes.length+1))).push [.ptr (.box h1.boxes.length) 0]):=(Ext.push _ _).trans (.push _ _);have ok3:=(x2.trans x3).ok ho;obtain⟨r4,h4,c4,t,rfl,g4⟩:=awK hv (h1.boxes.length+1) h1.boxes.length [] .nil 0 h.tn _ ba bb ok3 (.inl rfl) (x2.trans x3).tn (.inr ⟨rfl,rfl⟩) (by simpa using hl);rw[mh] at c4;have kX:=ao.mk (g4.ext (x2.trans x3) (aL _));have ld0:=qT hv.len b0;have ld1:=qT hv.len b1;have ld2:=qT hv.len b2;have lk1:=Rt hv b1;have lk2:=Rt hv b2;have lf:=Z4 (v:=v) bb;have ik:=FO (b:=h1.boxes.length) (v:=v);have Ly:=ab5 v r hv;have c4:W1.call (JS v) (.list .nil 0 []::.agg r::JR (h1.boxes.length+1) v) ((h1.push (xr (h1.boxes.length+1))).push [.ptr (.box h1.boxes.length) 0])=aa (.ret (.list t 1 (bf (dU v))),h4):=c4;generalize JS v=fv at *
 generalize JR (h1.boxes.length+1) v=cv at *
 generalize hkv:DB v=kv at *
 generalize qL:(h1.push (xr (h1.boxes.length+1))).push [.ptr (.box h1.boxes.length) 0]=H3 at *
 have sv0:fA (.agg r) (.agg r)=ah:=by rw[fA,Ly]
 clear hv x1 hd x2 b0 b1 b2 bb ba x3 ok3 g4 ho hl Ly qL;refine di rfl Tryz.func146 rfl ?_;refine bK @MC @gg @CB (az @mh.{0} @lO.{0}) ?_;refine nW [(0,2),(0,7)] wu aw (λp hp=>?_) ?_
 ·simp only[iU,xC,or_false] at hp;rcases hp with rfl|rfl
  ·refine sS (x:=.ptr (.box h.boxes.length) 0) (v:=.v (.int .i64 (kv:Nat))) aw rfl rfl rfl aw (by simp[fA,mU]) ?_ ?_<;>(simp only[iV,gF];exact oj @MC @gg @CB @and_self)
  ·refine sS (x:=.ptr (.box h.boxes.length) 0) (v:=.agg r) aw rfl rfl rfl aw (sv0) ?_ ?_<;>(simp only[iV,gF];exact oj @MC @gg @CB @and_self)
 refine bK @MC @gg @CB (az @mh.{0} @lO.{0}) ?_;exact⟨_,_,rfl,_,rfl,kX.out⟩
mutual
def dm.hold(v:Vl):∀r,dm v r->dm v (bZ r)/\aR 0 0 0 (bZ r)=ah:=by
 intro r h;cases h with|int n hn=>exact⟨.int n hn,rfl⟩|text s hs=>exact⟨.text s hs,rfl⟩|list l k sz ae hl hs hm hr=>obtain⟨h1,h2⟩:=dm.holds l ae hl hr;have e:bZ (aM 3 0 [] k sz ae)=aM 3 0 [] (bX k) sz (fj ae):=rfl;rw[e];refine⟨.list l _ sz _ (by rw[Ix];exact hl) (λq=>hs λq2=>q (by rw[q2];rfl)) (by rw[Ix];exact hm) h1,?_⟩;unfold aM;simp[aR,aK,im,sv,fx,h2]
def dm.holds(l:List Vl):∀ae:List (List AV),ae.length=l.length->(∀(i:Nat) v r,l[i]?=aa v->ae[i]?=aa r->dm v r)->(∀(i:Nat) v r,l[i]?=aa v->(fj ae)[i]?=aa r->dm v r)/\ie 0 0 0 (fj ae)=ah:=by
 intro ae hl h
 match l,ae,hl,h with
 | [],[],_,_=>exact⟨λi v r hv=>by simp at hv,rfl⟩
 |v::l,r::ae,hl,h=>
  obtain⟨h1,h2⟩:=dm.hold v r (h 0 v r rfl rfl);obtain⟨h3,h4⟩:=dm.holds l ae (by simpa using hl) λi v r hv hr=>h (i+1) v r (by simpa using hv) (by simpa using hr);refine⟨λi v' r' hv hr=>?_,by rw[fj,ie,h2,h4];rfl⟩;cases i with
  |zero=>injection hv with hv;injection hr with hr;subst hv;subst hr;exact h1
  |succ i=>exact h3 i v' r' hv hr
end
def Jp:Tryz.f186.results.toList=[.tmp 2]:=aw
def Jq:Tryz.f187.results.toList=[.tmp 2]:=aw
def asI:Tryz.f163.results.toList=[.tmp 2]:=aw
def aqF{v:Vl}{r:List AV}(hv:dm v r):∀h,∃h',W1.call 186 [.agg r] h=aa (.ret (.v (.bool ah)),h')/\Ext h h':=by
 have u9:=EE;have u94:=qD;have s96:=qW
 induction hv with
 |int n hn=>
  intro h;refine iD rfl UY rfl ?_
  repeat' (first|simp(maxSteps:=999999)(disch:=first|exact dZ|fail)only[gW,reduceIte,aS,aO,Jp,lN,tO,wU,uN,oW,gg,lP,tY,decide_true, *]|refine dX ?_ ?_<;>(intro _;try omega))
  all_goals exact⟨_,rfl,Ext.push _ _⟩
 |text s hs=>
  intro h;refine iD rfl UY rfl ?_
  repeat' (first|simp(maxSteps:=999999)(disch:=first|exact dZ|fail)only[gW,reduceIte,aS,aO,Jp,lN,tO,wU,uN,oW,gg,lP,tY,decide_true, *]|refine dX ?_ ?_<;>(intro _;try omega))
  all_goals exact⟨_,rfl,Ext.push _ _⟩
 |list l k sz ae hl hs hm hr ih=>
  intro h;have kr:=ao.mk hr;have kih:=ao.mk ih;have kh:=ao.mk hs;have kl:=ao.mk hl;refine iD rfl UY rfl ?_;clear hr ih hs hl;refine bK @Jp @lN @tO (az @wU (az @uN (az @oW (az @gg (az @tY @decide_true))))) ?_;refine cH (λm e H=>∃i:Nat,i<=ae.length/\m=ae.length - i/\e.get 1=.ptr (.box h.boxes.length) 0/\e.get 3=.v (.int .i64 i)/\e.defers=[]/\H.boxes[h.boxes.length]?=aa (aM 3 0 [] k sz ae)/\Ext h H) ?_ ae.length _ _ ?_;rotate_left 1
  ·refine⟨0,cD _,rfl,?_,?_,?_,bg _ _,Ext.push _ _⟩<;>(first|assumption|(exact gR))
  rintro m e H ⟨i,hi,rfl,g1,g3,hd,hb,hX⟩;have kX:=ao.mk hX;have kb:=ao.mk hb;have l0:=tO hb;have l1:=wU hb;have l2:=uN hb;have l3:=oW hb;clear hX hb;by_cases aC:i<ae.length
  ·obtain⟨r,hr⟩:∃r,ae[i]?=aa r:=⟨_,aU aC⟩;obtain⟨v,hv⟩:∃v,l[i]?=aa v:=⟨_,aU (by have:=kl.out;omega)⟩;have dV:=kr.out i v r hv hr;have h4:sz=4:=kh.out (by rintro rfl;simp at aC);subst h4;obtain⟨H2,c1,x1⟩:=kih.out i v r hv hr H;have ld:=IT (H:=H) dV.len hr;have kX2:=ao.mk (kX.out.trans x1);have kb2:=ao.mk (x1.box _ _ kb.out);have Il:(i:Int)<(ae.length:Int):=(by omega);clear kX dV hv hr x1;refine cX @Jp @bp @gg ?_;exact⟨ae.length - (i+1),by omega,i+1,by omega,rfl,by trivial,by simp,by trivial,kb2.out,kX2.out⟩
  ·have:i=ae.length:=(by omega);subst this;refine cX @Jp @gg @decide_true ?_;exact⟨_,rfl,kX.out⟩
def aqi{v:Vl}{r:List AV}(hv:dm v r):gQ v<=100->∀h,∃h',W1.call 187 [.agg r] h=aa (.ret (.v (.int .i64 (gQ v:Nat))),h')/\Ext h h':=by
 have u9:=EE;have u94:=qD;have s96:=qW
 induction hv with
 |int n hn=>intro _ h;refine iD rfl UZ rfl ?_;show bM _ _ _ _ (A5 _ _ _ _ (.ret (.v (.int .i64 0))) _);refine bK @Jq @lN @tO @gg ?_;exact⟨_,rfl,Ext.push _ _⟩|text s hs=>intro _ h;refine iD rfl UZ rfl ?_;show bM _ _ _ _ (A5 _ _ _ _ (.ret (.v (.int .i64 0))) _);refine bK @Jq @lN @tO @gg ?_;exact⟨_,rfl,Ext.push _ _⟩|list l k sz ae hl hs hm hr ih=>
  intro hd h;have kd:=ao.mk hd;have kr:=ao.mk hr;have kih:=ao.mk ih;have kh:=ao.mk hs;have kl:=ao.mk hl;refine iD rfl UZ rfl ?_;clear hr ih hs hl hd;refine bK @Jq @lN @tO @gg ?_;refine cH (λm e H=>∃i:Nat,i<=ae.length/\m=ae.length - i/\e.get 1=.ptr (.box h.boxes.length) 0/\e.get 3=.v (.int .i64 (iE (l.take i):Nat))/\e.get 4=.v (.int .i64 i)/\e.defers=[]/\H.boxes[h.boxes.length]?=aa (aM 3 0 [] k sz ae)/\Ext h H) ?_ ae.length _ _ ?_;rotate_left 1
  ·refine⟨0,cD _,rfl,?_,?_,?_,?_,bg _ _,Ext.push _ _⟩<;>(first|assumption|(exact gR))
  rintro m e H ⟨i,hi,rfl,g1,g3,g4,hd,hb,hX⟩;have kX:=ao.mk hX;have kb:=ao.mk hb;have l3:=oW hb;have yh:gQ (.list l)=iE l+1:=rfl;have Ib:=kd.out;rw[yh] at Ib;clear hX hb;by_cases aC:i<ae.length
  ·obtain⟨r,hr⟩:∃r,ae[i]?=aa r:=⟨_,aU aC⟩;obtain⟨v,hv⟩:∃v,l[i]?=aa v:=⟨_,aU (by have:=kl.out;omega)⟩;have dV:=kr.out i v r hv hr;have h4:sz=4:=kh.out (by rintro rfl;simp at aC);subst h4;have hdv:=WA hv;have CX:=Pd l i;obtain⟨H2,c1,x1⟩:=kih.out i v r hv hr ai H;have ld:=IT (H:=H) dV.len hr;have kX2:=ao.mk (kX.out.trans x1);have kb2:=ao.mk (x1.box _ _ kb.out);have kst:=ao.mk (Pc hv);have Il:(i:Int)<(ae.length:Int):=(by omega);have rD:(if ((iE (l.take i):Nat):Int)<((gQ v:Nat):Int) then ((gQ v:Nat):Int) else ((iE (l.take i):Nat):Int))=((max (iE (l.take i)) (gQ v):Nat):Int):=(by split<;>omega);clear kX dV hv hr x1 yh;refine bK @Jq @bp @gg @DH ?_;exact⟨ae.length - (i+1),by omega,i+1,by omega,rfl,by trivial,by rw[kst.out],by simp,by trivial,kb2.out,kX2.out⟩
  ·have:i=ae.length:=(by omega);subst this;have e1:l.take ae.length=l:=(by rw[kl.out];exact fN);rw[e1] at g3;rw[yh];have e2:((iE l+1:Nat):Int)=((iE l:Nat):Int)+1:=(by omega);refine bQ @Jq @gg ?_;exact⟨_,rfl,kX.out⟩
def aqh{v:Vl}{r:List AV}(hv:dm v r)(hd:gQ v<=16)(h:ar):∃h',W1.call 163 [.agg r] h=aa (.ret (im 0),h')/\Ext h h':=by
 obtain⟨h1,c1,x1⟩:=aqF hv (h.push r);obtain⟨h2,c2,x2⟩:=aqi hv ai h1;have cs:=hv.cells;have ld:=qT hv.len (bg h r);have ld2:=qT hv.len (x1.box _ _ (bg h r));have kx:=ao.mk (((Ext.push h r).trans x1).trans x2);have eX:¬((16:Int)<((gQ v:Nat):Int)):=by omega
 clear hv x1 x2 hd;unfold im;refine iD rfl Tryz.func163 rfl ?_;refine bC @asI ?_;exact⟨_,rfl,kx.out⟩
def abN:Tryz.f188.results.toList=[.tmp 2]:=aw
def asQ:Tryz.f189.results.toList=[.tmp 2]:=aw
def DQ:Tryz.f164.results.toList=[.tmp 2]:=aw
def asv:Tryz.f118.results.toList=[.tmp 2,.tmp 3]:=aw
def Nm(c:Nat)(hc:c<256):cB (UInt8.ofNat c)=.v (.int .u8 (c:Nat)):=by have:(UInt8.ofNat c).toNat=c%256:=UInt8.toNat_ofNat';unfold cB;rw[this,oJ hc]
def LY(k u):fY k u≠[]:=by
 cases k with|zero=>simp[fY]|succ k=>rw[fY];split<;>simp
def Hr{H}{k t}{n0}{es new}(bG:new≠[])(hl:es.length+new.length<=8796093022208)(hk:du n0 H k):
 hU aq H #[28,28] (.list k 1 (bf es)) (.list t 1 (bf new))=aa (.list (.free H.tn) 1 (bf (es++new)),H.app k):=
 Kr (.inl ⟨_,jJ⟩) RU bG hl (.inl rfl) hk
def SH:∀(k u:Nat),k<=9->u<2 * 128^k->∀h,cK h=ah->∃r h',W1.call 188 [.v (.int .u64 (u:Nat))] h=aa (r,h')/\∃t,r=.ret (.list t 1 (bf (fY k u)))/\Grown h.tn h h' t:=by
 have dk:∀(k u:Nat),u<128->∀h,cK h=ah->∃r h',W1.call 188 [.v (.int .u64 (u:Nat))] h=aa (r,h')/\∃t,r=.ret (.list t 1 (bf (fY k u)))/\Grown h.tn h h' t:=by
  intro k u hu h ho;rw[aaz hu];have bl:=AR (UInt8.ofNat u);rw[Nm u ai] at bl;have e:bf [UInt8.ofNat u]=[[.v (.int .u8 (u:Nat))]]:=by show[[cB (UInt8.ofNat u)]]=_;rw[Nm u ai]
  rw[e];have aC:((u:Nat):Int)<128:=by omega
  have kG:=ao.mk (Grown.refl (n0:=h.tn) (k:=.tight) (.inr (.inl rfl)) ho);clear ho hu e;refine di rfl aeK rfl ?_;refine bQ @abN @EP ?_;exact⟨_,_,rfl,_,rfl,kG.out⟩
 intro k
 induction k with
 |zero=>intro u _ hu;exact dk 0 u (by simpa using Nat.lt_trans hu aZ)|succ k ih=>
  intro u hk hu h ho;by_cases HK:u<128
  ·exact dk _ u HK h ho
  ·rw[aaA ai];obtain⟨r1,h1,c1,t,rfl,g1⟩:=ih (u/128) ai (by rw[Cj] at hu;omega) h ho;have bl:=AR (UInt8.ofNat (u%128+128));have nl:=oX k (u/128);have ap:=Hr (H:=h1) (k:=.tight) (t:=t) (n0:=h.tn) (es:=[UInt8.ofNat (u%128+128)]) (LY k (u/128)) (by simp;omega) (.inr (.inl rfl));have e:bf [UInt8.ofNat (u%128+128)]=[[.v (.int .u8 ((u%128+128:Nat):Int))]]:=(by show[[cB (UInt8.ofNat (u%128+128))]]=_;rw[Nm _ ai]);rw[e] at ap;rw[Nm (u%128+128) ai] at bl;have g2:Grown h.tn h h1 .tight:=⟨g1.box,g1.loop,.inr (.inl rfl),g1.ok,g1.tn,g1.dead⟩;have kG:=ao.mk (g2.app (aL _));have aC:¬((u:Nat):Int)<128:=(by omega);have m1:((u:Nat):Int).tmod 128=((u%128:Nat):Int):=pR u 128;have m2:((u:Nat):Int).tdiv 128=((u/128:Nat):Int):=JO u 128;have w1:IntKind.u64.wrap (((u%128:Nat):Int)+128)=((u%128+128:Nat):Int):=(by rw[show((u%128:Nat):Int)+128=((u%128+128:Nat):Int) by omega,xu ai]);have w2:IntKind.u64.wrap ((u/128:Nat):Int)=((u/128:Nat):Int):=(by have:2 * 128^(k+1)<=2 * 128^9:=Nat.mul_le_mul_left _ (aex aZ hk);exact xu ai);clear ho hu HK ih g1 g2 e nl;refine di rfl aeK rfl ?_;refine bQ @abN @EP ?_;exact⟨_,_,rfl,_,rfl,kG.out⟩
def atF(n:Nat)(hn:n<=4611686018427387903)(h:ar):W1.call 189 [.v (.int .i64 (n:Nat))] h=aa (.ret (.v (.int .u64 (mr n:Nat))),h):=by
 have e:mr (n:Int)=2 * n:=by unfold mr;rw[aH ai,dW]
 rw[e];have e1:=xu (n:=n) ai;have e2:IntKind.u64.wrap (2 * ((n:Nat):Int))=((2 * n:Nat):Int):=by rw[show 2 * ((n:Nat):Int)=((2 * n:Nat):Int) by omega,xu ai]
 have e3:(0:Int)<=((n:Nat):Int):=by omega
 refine cN rfl Tryz.func189 rfl ?_;exact jw @asQ @r8
def ajj(v):dU v≠[]:=by cases v<;>simp[dU]
def _root_.Go.AE.Grown.re{n0:Nat}{h h':ar}{t k:Tok}(g:Grown n0 h h' t)(hk:du n0 h' k):Grown n0 h h' k:=⟨g.box,g.loop,hk,g.ok,g.tn,g.dead⟩
def _root_.Go.AE.Grown.uW{n0 n1:Nat}{h h':ar}{t:Tok}(g:Grown n1 h h' t)(hn:n0<=n1):Grown n0 h h' t:=⟨g.box,g.loop,g.can.mono hn,g.ok,g.tn,λn hl hd=>g.dead n (nE hl hn) hd⟩
def _root_.Go.AE.Grown.beside{n0:Nat}{h h':ar}{t k:Tok}(g:Grown h.tn h h' t)(hk:du n0 h k):du n0 h' k:=by
 rcases hk with rfl|rfl|⟨m,rfl,hm,ha⟩
 ·exact .inl rfl
 ·exact .inr (.inl rfl)
 ·refine .inr (.inr ⟨m,rfl,hm,?_⟩);have aC:=vi ha;unfold alive at ha ⊢;simp only[bI,decide_eq_true_eq,At,List.contains_eq_mem,decide_eq_false_iff_not] at ha ⊢;exact⟨nE aC g.tn,λhd=>ha.2 (g.dead m aC hd)⟩
def aqu{v:Vl}{r:List AV}(hv:dm v r):(dU v).length<=1099511627000->∀h,cK h=ah->∃r' h',W1.call 164 [.agg r] h=aa (r',h')/\∃t,r'=.ret (.list t 1 (bf (dU v)))/\Grown h.tn h h' t:=by
 induction hv with
 |int n hn=>
  intro _ h ho;obtain⟨m,rfl⟩:∃m:Nat,n=m:=⟨n.toNat,by omega⟩;have hu:mr ((m:Nat):Int)<2 * 128^9:=by unfold mr;rw[aH ai];omega
  have g0:Grown h.tn h (h.push (aM 1 (m:Nat) [] .nil 0 [])) .tight:=(Grown.refl (.inr (.inl rfl)) ho).push _;obtain⟨r1,h1,c1,t,rfl,g1⟩:=SH 9 (mr ((m:Nat):Int)) (aL _) hu _ g0.ok;have nl:=oX 9 (mr ((m:Nat):Int));have ap:=Hr (H:=h1) (k:=.tight) (t:=t) (n0:=h.tn) (es:=[1]) (LY 9 (mr ((m:Nat):Int))) (by simp;omega) (.inr (.inl rfl));have kG:=ao.mk ((g0.trans (g1.re (.inr (.inl rfl)))).app (aL _));have cu:=atF m ai;have ap:hU aq h1 #[28,28] (.list .tight 1 [[cB 1]]) (.list t 1 (bf (fY 9 (mr ((m:Nat):Int)))))=aa (.list (.free h1.tn) 1 (bf (dU (.int (m:Nat)))),h1.app .tight):=by rw[dU];exact ap
  clear g0 g1 hu hn ho nl;refine di rfl UX rfl ?_;refine bK @DQ @th @lN (az @tO (az @wU @gg)) ?_;exact⟨_,_,rfl,_,rfl,kG.out⟩
 |text s hs=>
  intro hl h ho;have enc:dU (.text s)=2::(fY 9 s.length++s):=by rw[dU]
  rw[enc] at hl ⊢;simp only[jd,dM] at hl;have g0:Grown h.tn h (h.push (aM 2 0 s .nil 0 [])) .tight:=(Grown.refl (.inr (.inl rfl)) ho).push _;obtain⟨r1,h1,c1,t,rfl,g1⟩:=SH 9 s.length (aL _) ai _ g0.ok;have ap:=Hr (H:=h1) (k:=.tight) (t:=t) (n0:=h.tn) (es:=[2]) (LY 9 s.length) (by simp;omega) (.inr (.inl rfl));have g2:=(g0.trans (g1.re (.inr (.inl rfl)))).app (aL _);obtain⟨t4,h4,ap4,g5⟩:=Vn (es:=[2]++fY 9 s.length) (s:=s) (by simp;omega) g2.can g2.ok g2.tn;have kG:=ao.mk (g2.trans g5);have ap:hU aq h1 #[28,28] (.list .tight 1 [[cB 2]]) (.list t 1 (bf (fY 9 s.length)))=aa (.list (.free h1.tn) 1 (bf ([2]++fY 9 s.length)),h1.app .tight):=ap;have e4:[2]++fY 9 s.length++s=2::(fY 9 s.length++s):=by simp
  rw[e4] at ap4;have b0:=bg h (aM 2 0 s .nil 0 []);have b1:=g1.box _ _ b0;have b2:(h1.app .tight).boxes[h.boxes.length]?=aa (aM 2 0 s .nil 0 []):=by rw[eC];exact b1
  have l0:=uN b0;have l1:=uN b1;have l2:=uN b2;have sl:=acI s;have hw:=xu (n:=s.length) ai;clear g0 g1 g2 g5 ho enc e4 b0 b1 b2 hl;refine di rfl UX rfl ?_;refine bK @DQ @th @lN (az @tO (az @gg @r8)) ?_;refine nW [(5,8),(6,8)] wu aw (λp hp=>?_) ?_
  ·simp only[iU,xC,or_false] at hp;rcases hp with rfl|rfl
   all_goals
    refine sS (x:=.ptr (.box h.boxes.length) 2) (v:=.v (.string (bs s))) aw rfl rfl rfl aw (by simp[fA,mU]) ?_ ?_<;>(simp only[iV,gF];exact oj @DQ @th @lN (az @gg (az @r8 @and_self)))
  refine bK @DQ @th @lN (az @gg @r8) ?_;exact⟨_,_,rfl,_,rfl,kG.out⟩
 |list l kl sz ae hl hs hm hr ih=>
  intro bR h ho;have kr:=ao.mk hr;have kih:=ao.mk ih;have kh:=ao.mk hs;have kl2:=ao.mk hl;have enc:dU (.list l)=3::(fY 9 l.length++jn l):=by rw[dU]
  rw[enc] at bR ⊢;simp only[jd,dM] at bR;have g0:Grown h.tn h (h.push (aM 3 0 [] kl sz ae)) .tight:=(Grown.refl (.inr (.inl rfl)) ho).push _;obtain⟨r1,h1,c1,t,rfl,g1⟩:=SH 9 l.length (aL _) ai _ g0.ok;have nl:=oX 9 l.length;have ap:=Hr (H:=h1) (k:=.tight) (t:=t) (n0:=h.tn) (es:=[3]) (LY 9 l.length) (by simp;omega) (.inr (.inl rfl));have g2:=(g0.trans (g1.re (.inr (.inl rfl)))).app (aL _);have ap:hU aq h1 #[28,28] (.list .tight 1 [[cB 3]]) (.list t 1 (bf (fY 9 l.length)))=aa (.list (.free h1.tn) 1 (bf ([3]++fY 9 l.length)),h1.app .tight):=ap;have b0:=bg h (aM 3 0 [] kl sz ae);have b1:=g1.box _ _ b0;have b2:(h1.app .tight).boxes[h.boxes.length]?=aa (aM 3 0 [] kl sz ae):=by rw[eC];exact b1
  have l0:=oW b0;have u94:=qD;have hw:=xu (n:=ae.length) ai;have c1:W1.call 188 [.v (.int .u64 ((ae.length:Nat):Int))] (h.push (aM 3 0 [] kl sz ae))=aa (.ret (.list t 1 (bf (fY 9 l.length))),h1):=by rw[hl];exact c1
  have kG:=ao.mk g2;have kb:=ao.mk b2;have klen:=ao.mk bR;clear g0 g1 g2 ho enc hr ih hs hl bR b0 b1 b2;refine di rfl UX rfl ?_;refine bK @DQ @th @lN (az @tO (az @gg @r8)) ?_;refine cH (λm e H1=>∃(i:Nat) (t:Tok),i<=ae.length/\m=ae.length - i/\e.get 1=.ptr (.box h.boxes.length) 0/\e.get 3=.list t 1 (bf ([3]++fY 9 l.length++jn (l.take i)))/\e.get 4=.v (.int .i64 i)/\e.defers=[]/\H1.boxes[h.boxes.length]?=aa (aM 3 0 [] kl sz ae)/\Grown h.tn h H1 t) ?_ ae.length _ _ ?_;rotate_left 1
  ·refine⟨0,.free h1.tn,cD _,rfl,?_,?_,?_,?_,kb.out,kG.out⟩<;>(first|assumption|(simp only[gW,reduceIte,aS,aO,gF,jn,jC]<;>rfl))
  clear c1 ap l0 kG kb hw;rintro m e H1 ⟨i,t,hi,rfl,g1,g3,g4,hd,hb,hG⟩;have kG:=ao.mk hG;have kb:=ao.mk hb;have l3:=oW hb;clear hG hb;by_cases aC:i<ae.length
  ·obtain⟨r,hr⟩:∃r,ae[i]?=aa r:=⟨_,aU aC⟩;obtain⟨v,hv⟩:∃v,l[i]?=aa v:=⟨_,aU (by have:=kl2.out;omega)⟩;have dV:=kr.out i v r hv hr;have h4:sz=4:=kh.out (by rintro rfl;simp at aC);subst h4;have es1:=WI hv;have el:=WH l (i+1);rw[es1,dM] at el;have hl:=klen.out;obtain⟨r2,H2,c2,t2,rfl,g5⟩:=kih.out i v r hv hr ai H1 kG.out.ok;have can2:=g5.beside kG.out.can;have ap2:=Hr (H:=H2) (k:=t) (t:=t2) (n0:=h.tn) (es:=[3]++fY 9 l.length++jn (l.take i)) (ajj v) (by simp;omega) can2;rw[show[3]++fY 9 l.length++jn (l.take i)++dU v=[3]++fY 9 l.length++jn (l.take (i+1)) by rw[es1];simp] at ap2;have kG2:=ao.mk ((kG.out.trans ((g5.uW kG.out.tn).re can2)).app (aL _));have kb2:ao ((H2.app t).boxes[h.boxes.length]?=aa (aM 3 0 [] kl 4 ae)):=⟨by rw[eC];exact g5.box _ _ kb.out⟩;have ld:=IT (H:=H1) dV.len hr;have s96:=qW;have Il:(i:Int)<(ae.length:Int):=(by omega);clear kG dV hv hr g5 can2 es1 el hl nl;refine cX @DQ @bp @gg ?_;exact⟨ae.length - (i+1),by omega,i+1,.free H2.tn,by omega,rfl,by trivial,by trivial,by simp,by trivial,kb2.out,kG2.out⟩
  ·have:i=ae.length:=(by omega);subst this;rw[show l.take ae.length=l by rw[kl2.out];exact fN] at g3;have ee:[3]++fY 9 l.length++jn l=3::(fY 9 l.length++jn l):=(by simp);rw[ee] at g3;refine bQ @DQ @gg ?_;exact⟨_,_,rfl,_,rfl,kG.out⟩
def ap8{v:Vl}{r:List AV}(hv:dm v r)(hd:gQ v<=16)(hl:(dU v).length<=1099511627000)(h:ar)(ho:cK h=ah):
 ∃r' h',W1.call 118 [.agg r] h=aa (r',h')/\∃t,r'=.ret (.tuple [.list t 1 (bf (dU v)),.v (.int .i64 0)])/\Ext h h':=by
 obtain⟨h1,c1,x1⟩:=aqh hv hd (h.push r);unfold im at c1;have x2:=(Ext.push h r).trans x1;obtain⟨r2,h2,c2,t,rfl,g2⟩:=aqu hv hl h1 (x2.ok ho);have cs:=hv.cells;have ld:=qT hv.len (bg h r);have ld2:=qT hv.len (x1.box _ _ (bg h r));have kX:=ao.mk (g2.ext x2 x2.tn);clear hv x1 x2 hd g2 ho hl;refine di rfl Tryz.func118 rfl ?_;refine bC @asv ?_;exact⟨_,_,rfl,_,rfl,kX.out⟩
def BR:Tryz.f214.results.toList=[.cell 4 229]:=aw
def Vf:gY aq 229=aa ah:=aw
def JL:dJ aq 229=aa 8:=aw
def afq:gY aq 242=aa ah:=aw
def Nh:dJ aq 242=aa 64:=aw
def ac7:(iB aq 229).bind AV.cd=aa (cz (br 8 0#32)):=aw
def kW:List fa:=(bO 64).map zY
def amH{t}(ht:t<64):dt kW t=zY t:=by unfold dt kW;rw[eE,ey,y8 ht];rfl
def LI:kW.length=64:=rfl
def D4{l}:(AV.agg (cz l)).cd=aa (cz l):=by
 have:(cz l).all AV.eH=ah:=by rw[eK];intro x hx;obtain⟨b,-,rfl⟩:=kC.1 hx;rfl
 unfold AV.cd;simp[this]
def Rx{H}{b n}{t}{l}(ha:gY aq t=aa ah)(hs:dJ aq t=aa n)(hb:H.boxes[b]?=aa (cz l))(hl:l.length=n):aI aq Gt H t (.ptr (.box b) 0)=aa (.agg (cz l)):=by rw[iP ha hs hb (by rw[bF];omega),jm,gK (by rw[bF];omega)]
def aob(h:ar):W1.call 225 [] h=aa (.ret (.agg (cz kW)),h.push (cz kW)):=by have z:=Nt;have st:cE aq (h.push (br 64 (aX 0#32))) 242 (.ptr (.box h.boxes.length) 0) (.agg (cz kW))=aa (h.push (cz kW)):=lq D4 Nh (by rw[bF,LI]) bJ;have ld:aI aq Gt (h.push (cz kW)) 242 (.ptr (.box h.boxes.length) 0)=aa (.agg (cz kW)):=Rx afq Nh (bg _ _) LI;refine cN rfl Tryz.func225 rfl ?_;refine bC @abT ?_;generalize hb:nH aq 242 _=z;rw[show z=aa (.agg (cz kW)) from hb.symm.trans aw];clear hb;exact lV @abT
def zW{b n}{k}(hn:n<8):dS aq 229 (.ptr (.box b) 0) (.v (.int k (n:Nat)))=aa (.ptr (.box b) n):=by have hu:=Tryz.underlying229;unfold dS;rw[hu];simp only[yP];rw[aH ⟨ai,by omega⟩];simp
def awv{a b c d e f g h}:dt [a,b,c,d,e,f,g,h] 0=a/\dt [a,b,c,d,e,f,g,h] 1=b/\dt [a,b,c,d,e,f,g,h] 2=c/\dt [a,b,c,d,e,f,g,h] 3=d/\dt [a,b,c,d,e,f,g,h] 4=e/\dt [a,b,c,d,e,f,g,h] 5=f/\dt [a,b,c,d,e,f,g,h] 6=g/\dt [a,b,c,d,e,f,g,h] 7=h:=⟨rfl,rfl,rfl,rfl,rfl,rfl,rfl,rfl⟩
def afY(a b c d e f g h:fa):nH aq 229 [(0,aX a),(1,aX b),(2,aX c),(3,aX d),(4,aX e),(5,aX f),(6,aX g),(7,aX h)]=aa (.agg (cz [a,b,c,d,e,f,g,h])):=aw
def awi(s)(b):vF s b 0=s:=rfl
def asa(w)(t)(a b c d e f g i):Jh w [a,b,c,d,e,f,g,i] t=
 [i+(NT.ec e 6^^^NT.ec e 11^^^NT.ec e 25)+((e&&&f)^^^(~~~e&&&g))+zY t+dt w t+((NT.ec a 2^^^NT.ec a 13^^^NT.ec a 22)+((a&&&b)^^^(a&&&c)^^^(b&&&c))),
  a,b,c,d+(i+(NT.ec e 6^^^NT.ec e 11^^^NT.ec e 25)+((e&&&f)^^^(~~~e&&&g))+zY t+dt w t),e,f,g]:=rfl
def an5{u}:D3 aq .xor (aX u)=aa (aX (~~~u)):=by
 have e:D3 aq .xor (aX u)=aa (.v (.int .u32 (IntKind.u32.wrap ((BitVec.ofInt 32 4294967295^^^BitVec.ofInt 32 (u.toNat:Int)).toNat:Int)))):=by rfl
 rw[e,ofInt32];have h1:BitVec.ofInt 32 4294967295^^^u= ~~~u:=by
  apply BitVec.eq_of_getLsbD_eq;intro i hi;rw[BitVec.getLsbD_xor,BitVec.getLsbD_not];have:(BitVec.ofInt 32 4294967295).getLsbD i=ah:=by have h:∀j:Fin 32,(BitVec.ofInt 32 4294967295).getLsbD j.val=ah:=(by decide);exact h ⟨i,hi⟩
  rw[this];simp[hi]
 rw[h1,Ns];rfl
def ach{k}{b}{lo hi}(h1:lo<=hi)(h2:hi<=b.length):∃k',jc aq 28 (.list k 1 (bf b)) (aa (.v (.int .i64 (lo:Nat)))) (aa (.v (.int .i64 (hi:Nat)))) av=aa (.list k' 1 (bf ((b.take hi).drop lo))):=by
 have lY:hJ (bf b).length av (bf b).length=aa (bf b).length:=rfl;have gi:hJ (bf b).length (aa (.v (.int .i64 (hi:Nat)))) (bf b).length=aa hi:=by show(if 0<=(hi:Int)/\(hi:Int)<=((bf b).length:Int) then aa (hi:Int).toNat else av)=_;rw[aH ⟨ai,by rw[bF];omega⟩,dW]
 have zF:hJ hi (aa (.v (.int .i64 (lo:Nat)))) 0=aa lo:=by show(if 0<=(lo:Int)/\(lo:Int)<=(hi:Int) then aa (lo:Int).toNat else av)=_;rw[aH ⟨ai,by omega⟩,dW]
 refine⟨xY k (decide (hi=(bf b).length)) aB (hi - lo),?_⟩;unfold jc;simp only[jJ,tW,lY,gi,zF,Option.isSome_none,Bool.false_and,Bool.false_eq_true,if_false,true_or,if_true,Option.isNone_none,Gz];simp only[List.map_drop,List.map_take]
def awF{b}{i}(hi:4 * i+4<=b.length):qZ ((b.take (4 * i+4)).drop (4 * i)) 0=qZ b (4 * i):=by
 have key:∀k,k<4->dO ((b.take (4 * i+4)).drop (4 * i)) k=dO b (4 * i+k):=λk hk=>by unfold dO;rw[eE,pX,o7,aH ai,eE]
 unfold qZ;rw[key 0 aZ,key (0+1) aZ,key (0+2) aZ,key (0+3) aZ,Nat.add_zero,qA,qA,qA]
def aqe(s:List fa)(b:List UInt8)(k:Tok)(h:ar)(hs:s.length=8)(hb:b.length=64):
 ∃h',W1.call 214 [.agg (cz s),.list k 1 (bf b)] h=aa (.ret (.agg (cz (xQ s b))),h')/\Ext h h':=by
 have z1:=ac7;have z2:=Nt;have c8:(AV.agg (cz s)).cd=aa (cz s):=D4;have kwz:=ao.mk (ac6 b);refine iD rfl Tryz.func214 rfl ?_;refine bC @BR ?_;generalize jE:nH aq 242 []=z;rw[show z=aa (.agg (br 64 (aX 0#32))) from jE.symm.trans aw];clear jE;generalize fX:(h.push (cz s)).push (cz (br 8 0#32))=H0;have kX0:ao (Ext h H0):=⟨by rw[<-fX];exact(Ext.push _ _).trans (.push _ _)⟩;have kS0:ao (H0.boxes[h.boxes.length]?=aa (cz s)):=⟨by rw[<-fX];exact bh (bg _ _)⟩;have kR0:ao (H0.boxes[h.boxes.length+1]?=aa (cz (br 8 0#32))):=⟨by rw[<-fX];exact nM (by rw[cR])⟩;have PI:H0.boxes.length=h.boxes.length+2:=by rw[<-fX,cR,cR]
 have kl:=ao.mk PI;clear PI fX;have st0:cE aq (H0.push (br 64 (aX 0#32))) 242 (.ptr (.box H0.boxes.length) 0) (.agg (br 64 (aX 0#32)))=aa (H0.push (cz (wl b 0))):=by rw[kwz.out,<-TU];exact lq D4 Nh bJ bJ
 refine bC @BR ?_;refine cH (λm e H=>∃i:Nat,i<=16/\m=16 - i/\e.get 1=.list k 1 (bf b)/\e.get 2=.ptr (.box h.boxes.length) 0/\e.get 4=.ptr (.box (h.boxes.length+1)) 0/\e.get 5=.ptr (.box H0.boxes.length) 0/\e.get 6=.v (.int .i64 i)/\e.defers=[]/\H=H0.push (cz (wl b i))) ?_ 16 _ _ ?_;rotate_left 1
 ·refine⟨0,by decide,rfl,?_,?_,?_,?_,?_,?_,rfl⟩<;>(first|assumption|(simp only[gW,reduceIte,aS,aO,cR]<;>rfl))
 clear z1 z2 c8 kwz st0;rintro m e H ⟨i,hi,rfl,g1,g2,g4,g5,g6,hd,rfl⟩;by_cases hc:i<16
 ·refine sg λQ=>?_;have ix:=sF (b:=H0.boxes.length) (n:=i) (k:=.i64) ai;have e4:IntKind.i64.wrap (4 * ((i:Nat):Int))=((4 * i:Nat):Int):=by rw[gh ai ai];omega
  have e5:IntKind.i64.wrap (((4 * i:Nat):Int)+4)=((4 * i+4:Nat):Int):=by rw[gh ai ai];omega
  obtain⟨k',sl⟩:=ach (k:=k) (b:=b) (lo:=4 * i) (hi:=4 * i+4) ai ai;have cw:=atL ((b.take (4 * i+4)).drop (4 * i)) (by rw[iC,fm];omega) k';rw[awF ai] at cw;have st:cE aq (H0.push (cz (wl b i))) 42 (.ptr (.box H0.boxes.length) i) (aX (qZ b (4 * i)))=aa (H0.push (cz (wl b (i+1)))):=by rw[JF (bg _ _) (by rw[vX ai];omega),qs,Nr ai (by rw[aH hc])]
  refine bC @BR ?_;exact⟨16 - (i+1),by omega,i+1,by omega,rfl,by trivial,by trivial,by trivial,by trivial,rfl,by trivial,rfl⟩
 have:i=16:=by omega
 subst this;clear hc hi;refine bC @BR ?_;refine cH (λm e H=>∃i:Nat,16<=i/\i<=64/\m=64 - i/\e.get 2=.ptr (.box h.boxes.length) 0/\e.get 4=.ptr (.box (h.boxes.length+1)) 0/\e.get 5=.ptr (.box H0.boxes.length) 0/\e.get 7=.v (.int .i64 i)/\e.defers=[]/\H=H0.push (cz (wl b i))) ?_ 48 _ _ ?_;rotate_left 1
 ·refine⟨16,by decide,by decide,rfl,?_,?_,?_,?_,?_,rfl⟩<;>(first|assumption|(exact gR))
 clear g1 g2 g4 g5 g6 hd;rintro m e H ⟨i,Qh,hi,rfl,g2,g4,g5,g7,hd,rfl⟩;by_cases hc:i<64
 ·refine sg λQ=>?_;have hw:=bg H0 (cz (wl b i));have l0:=sH hw (n:=i - 16) (by rw[vX hi];omega);have l1:=sH hw (n:=i - 15) (by rw[vX hi];omega);have l2:=sH hw (n:=i - 7) (by rw[vX hi];omega);have l3:=sH hw (n:=i - 2) (by rw[vX hi];omega);rw[ac5 ai] at l0 l1 l2 l3;have i0:=sF (b:=H0.boxes.length) (n:=i - 16) (k:=.i64) ai;have i1:=sF (b:=H0.boxes.length) (n:=i - 15) (k:=.i64) ai;have i2:=sF (b:=H0.boxes.length) (n:=i - 7) (k:=.i64) ai;have i3:=sF (b:=H0.boxes.length) (n:=i - 2) (k:=.i64) ai;have i4:=sF (b:=H0.boxes.length) (n:=i) (k:=.i64) ai;have e0:IntKind.i64.wrap (((i:Nat):Int) - 16)=((i - 16:Nat):Int):=by rw[gh ai ai];omega
  have e1:IntKind.i64.wrap (((i:Nat):Int) - 15)=((i - 15:Nat):Int):=by rw[gh ai ai];omega
  have e2:IntKind.i64.wrap (((i:Nat):Int) - 7)=((i - 7:Nat):Int):=by rw[gh ai ai];omega
  have e3:IntKind.i64.wrap (((i:Nat):Int) - 2)=((i - 2:Nat):Int):=by rw[gh ai ai];omega
  have st:cE aq (H0.push (cz (wl b i))) 42 (.ptr (.box H0.boxes.length) i) (aX (FW (iS b i) i))=aa (H0.push (cz (wl b (i+1)))):=by rw[JF hw (by rw[vX ai];omega),qs,Nr ai (by rw[aJ ai])]
  unfold FW at st;have r7:=yB (dt (iS b i) (i - 15)) 7 aZ aZ;have r18:=yB (dt (iS b i) (i - 15)) 18 aZ aZ;have r17:=yB (dt (iS b i) (i - 2)) 17 aZ aZ;have r19:=yB (dt (iS b i) (i - 2)) 19 aZ aZ;have r7:∀h,W1.call 224 [aX (dt (iS b i) (i - 15)),.v (.int .i64 7)] h=aa (.ret (aX (NT.ec (dt (iS b i) (i - 15)) 7)),h):=r7;have r18:∀h,W1.call 224 [aX (dt (iS b i) (i - 15)),.v (.int .i64 18)] h=aa (.ret (aX (NT.ec (dt (iS b i) (i - 15)) 18)),h):=r18;have r17:∀h,W1.call 224 [aX (dt (iS b i) (i - 2)),.v (.int .i64 17)] h=aa (.ret (aX (NT.ec (dt (iS b i) (i - 2)) 17)),h):=r17;have r19:∀h,W1.call 224 [aX (dt (iS b i) (i - 2)),.v (.int .i64 19)] h=aa (.ret (aX (NT.ec (dt (iS b i) (i - 2)) 19)),h):=r19;clear hw
  repeat' (first|simp(maxSteps:=999999)(disch:=first|exact dZ|fail)only[gW,reduceIte,aS,aO,BR,pS,po,yM,yL, *]|(refine dX ?_ ?_<;>(intro _;try omega))|refine eJ wu aw ?_)
  exact⟨64 - (i+1),by omega,i+1,by omega,by omega,rfl,by trivial,by trivial,by trivial,rfl,by trivial,rfl⟩
 have:i=64:=by omega
 subst this;clear hc hi Qh;have kwl:=ao.mk (TX b);have nR:=Gm b 64;rw[TX];generalize hW:iS b 64=w at *
 have nn:=aob (H0.push (cz w));have z2:=Nt;generalize iq:H0.push (cz w)=H1 at *
 have kw1:ao (H1.boxes[H0.boxes.length]?=aa (cz w)):=⟨by rw[<-iq];exact bg _ _⟩;have kl1:ao (H1.boxes.length=H0.boxes.length+1):=⟨by rw[<-iq,cR]⟩;have kX1:ao (Ext H0 H1):=⟨by rw[<-iq];exact Ext.push _ _⟩;clear iq;have st2:cE aq ((H1.push (cz kW)).push (br 64 (aX 0#32))) 242 (.ptr (.box (H1.push (cz kW)).boxes.length) 0) (.agg (cz kW))=aa ((H1.push (cz kW)).push (cz kW)):=lq D4 Nh (by rw[bF,LI]) bJ;have xH:Ext H1 ((H1.push (cz kW)).push (cz kW)):=(Ext.push _ _).trans (.push _ _);have kN:=bg (H1.push (cz kW)) (cz kW);have b1:=xH.box _ _ (kX1.out.box _ _ kS0.out);obtain⟨s0,s1,s2,s3,s4,s5,s6,s7,rfl⟩:=eight hs;have ld:=λn hn=>sH b1 (n:=n) hn;have l0:=ld 0 bJ;have l1:=ld 1 bJ;have l2:=ld 2 bJ;have l3:=ld 3 bJ;have l4:=ld 4 bJ;have l5:=ld 5 bJ;have l6:=ld 6 bJ;have l7:=ld 7 bJ;have j0:dS aq 229 (.ptr (.box h.boxes.length) 0) (.v (.int .i64 0))=aa (.ptr (.box h.boxes.length) 0):=zW (n:=0) aZ;have j1:dS aq 229 (.ptr (.box h.boxes.length) 0) (.v (.int .i64 1))=aa (.ptr (.box h.boxes.length) 1):=zW (n:=1) aZ;have j2:dS aq 229 (.ptr (.box h.boxes.length) 0) (.v (.int .i64 2))=aa (.ptr (.box h.boxes.length) 2):=zW (n:=2) aZ;have j3:dS aq 229 (.ptr (.box h.boxes.length) 0) (.v (.int .i64 3))=aa (.ptr (.box h.boxes.length) 3):=zW (n:=3) aZ;have j4:dS aq 229 (.ptr (.box h.boxes.length) 0) (.v (.int .i64 4))=aa (.ptr (.box h.boxes.length) 4):=zW (n:=4) aZ;have j5:dS aq 229 (.ptr (.box h.boxes.length) 0) (.v (.int .i64 5))=aa (.ptr (.box h.boxes.length) 5):=zW (n:=5) aZ;have j6:dS aq 229 (.ptr (.box h.boxes.length) 0) (.v (.int .i64 6))=aa (.ptr (.box h.boxes.length) 6):=zW (n:=6) aZ;have j7:dS aq 229 (.ptr (.box h.boxes.length) 0) (.v (.int .i64 7))=aa (.ptr (.box h.boxes.length) 7):=zW (n:=7) aZ;simp only[awv] at l0 l1 l2 l3 l4 l5 l6 l7;have lw:=λn hn=>sH (xH.box _ _ kw1.out) (n:=n) hn;have lk:=λn hn=>sH kN (n:=n) hn;have b2:=xH.box _ _ (kX1.out.box _ _ kR0.out);have kX2:=ao.mk (kX0.out.trans (kX1.out.trans xH));have klw:=ao.mk lw;have klk:=ao.mk lk;have kb2:=ao.mk b2;clear ld lw lk b1 b2 xH kN
 repeat' (first|simp(maxSteps:=999999)(disch:=first|exact dZ|fail)only[gW,reduceIte,aS,aO,BR, *]|(refine dX ?_ ?_<;>(intro _;try omega))|refine eJ wu aw ?_)
 generalize hN:(H1.push (cz kW)).boxes.length=N at *
 generalize (H1.push (cz kW)).push (cz kW)=H2 at *
 clear hN;refine bM.gen λe2 q2 qd2 _ _=>?_;have f2:e2.get 2=.ptr (.box h.boxes.length) 0:=by rw[q2];simp only[gW,reduceIte,aS,aO,g2]
 have f4:e2.get 4=.ptr (.box (h.boxes.length+1)) 0:=by rw[q2];simp only[gW,reduceIte,aS,aO,g4]
 have f5:e2.get 5=.ptr (.box H0.boxes.length) 0:=by rw[q2];simp only[gW,reduceIte,aS,aO,g5]
 have f10:e2.get 10=.ptr (.box N) 0:=by rw[q2];exact gS
 have f11:e2.get 11=aX s0:=by rw[q2];exact gS
 have f12:e2.get 12=aX s1:=by rw[q2];exact gS
 have f13:e2.get 13=aX s2:=by rw[q2];exact gS
 have f14:e2.get 14=aX s3:=by rw[q2];exact gS
 have f15:e2.get 15=aX s4:=by rw[q2];exact gS
 have f16:e2.get 16=aX s5:=by rw[q2];exact gS
 have f17:e2.get 17=aX s6:=by rw[q2];exact gS
 have f18:e2.get 18=aX s7:=by rw[q2];exact gS
 have f19:e2.get 19=.v (.int .i64 (0:Nat)):=by rw[q2];simp only[gW,reduceIte,aS,aO];rfl
 have fd:e2.defers=[]:=by rw[qd2];simp only[gW,reduceIte,aS,aO,hd]
 clear q2 qd2;refine cH (λm e H=>∃(i:Nat) (a b' c d e' f g j:fa),i<=64/\m=64 - i/\vF [s0,s1,s2,s3,s4,s5,s6,s7] b i=[a,b',c,d,e',f,g,j]/\e.get 2=.ptr (.box h.boxes.length) 0/\e.get 4=.ptr (.box (h.boxes.length+1)) 0/\e.get 5=.ptr (.box H0.boxes.length) 0/\e.get 10=.ptr (.box N) 0/\
  e.get 11=aX a/\e.get 12=aX b'/\e.get 13=aX c/\e.get 14=aX d/\e.get 15=aX e'/\e.get 16=aX f/\e.get 17=aX g/\e.get 18=aX j/\e.get 19=.v (.int .i64 i)/\e.defers=[]/\H=H2) ?_ 64 _ _ ?_
 rotate_left 1
 ·refine⟨0,s0,s1,s2,s3,s4,s5,s6,s7,by decide,rfl,awi _ _,f2,f4,f5,f10,f11,f12,f13,f14,f15,f16,f17,f18,f19,fd,rfl⟩
 clear f2 f4 f5 f10 f11 f12 f13 f14 f15 f16 f17 f18 f19 fd g2 g4 g5 g7 hd nn z2 st2;rintro m e H ⟨i,a,b',c,d,e',f,g,j,hi,rfl,hv,g2,g4,g5,g10,g11,g12,g13,g14,g15,g16,g17,g18,g19,hd,rfl⟩;by_cases hc:i<64
 ·refine sg λQ=>?_;have lk:=klk.out i (by rw[LI];exact hc);have lw:=klw.out i (by rw[nR];exact hc);rw[amH hc] at lk;have ZS:=sF (b:=H0.boxes.length) (n:=i) (k:=.i64) hc;have FO:=sF (b:=N) (n:=i) (k:=.i64) hc;have jQ:=TT [s0,s1,s2,s3,s4,s5,s6,s7] b i;rw[hv,hW,asa] at jQ;have kv:=ao.mk jQ;have r6:∀h,W1.call 224 [aX e',.v (.int .i64 6)] h=aa (.ret (aX (NT.ec e' 6)),h):=yB e' 6 aZ aZ;have r11:∀h,W1.call 224 [aX e',.v (.int .i64 11)] h=aa (.ret (aX (NT.ec e' 11)),h):=yB e' 11 aZ aZ;have r25:∀h,W1.call 224 [aX e',.v (.int .i64 25)] h=aa (.ret (aX (NT.ec e' 25)),h):=yB e' 25 aZ aZ;have r2:∀h,W1.call 224 [aX a,.v (.int .i64 2)] h=aa (.ret (aX (NT.ec a 2)),h):=yB a 2 aZ aZ;have r13:∀h,W1.call 224 [aX a,.v (.int .i64 13)] h=aa (.ret (aX (NT.ec a 13)),h):=yB a 13 aZ aZ;have r22:∀h,W1.call 224 [aX a,.v (.int .i64 22)] h=aa (.ret (aX (NT.ec a 22)),h):=yB a 22 aZ aZ;clear jQ hv l0 l1 l2 l3 l4 l5 l6 l7 j0 j1 j2 j3 j4 j5 j6 j7
  repeat' (first|simp(maxSteps:=999999)(disch:=first|exact dZ|fail)only[gW,reduceIte,aS,aO,BR,pS,po,EG,an5, *]|(refine dX ?_ ?_<;>(intro _;try omega))|refine eJ wu aw ?_)
  refine⟨64 - (i+1),by omega,i+1,_,a,b',c,_,e',f,g,by omega,rfl,kv.out,?_⟩;refine⟨?_,?_,?_,?_,rfl,?_,?_,?_,rfl,?_,?_,?_,?_,?_,?_⟩<;>first|exact aY|exact rfl
 ·have:i=64:=by omega
  subst this;have hbF:xQ [s0,s1,s2,s3,s4,s5,s6,s7] b=[s0+a,s1+b',s2+c,s3+d,s4+e',s5+f,s6+g,s7+j]:=by unfold xQ;show List.zipWith (·+·) [s0,s1,s2,s3,s4,s5,s6,s7] (vF [s0,s1,s2,s3,s4,s5,s6,s7] b 64)=_;rw[hv];rfl
  rw[hbF];have BT:cE aq H 229 (.ptr (.box (h.boxes.length+1)) 0) (.agg (cz [s0+a,s1+b',s2+c,s3+d,s4+e',s5+f,s6+g,s7+j]))=aa (H.put (h.boxes.length+1) (cz [s0+a,s1+b',s2+c,s3+d,s4+e',s5+f,s6+g,s7+j])):=by rw[fK D4 JL kb2.out rfl bJ,xo bJ]
  have me:aI aq Gt (H.put (h.boxes.length+1) (cz [s0+a,s1+b',s2+c,s3+d,s4+e',s5+f,s6+g,s7+j])) 229 (.ptr (.box (h.boxes.length+1)) 0)=aa (.agg (cz [s0+a,s1+b',s2+c,s3+d,s4+e',s5+f,s6+g,s7+j])):=Rx Vf JL (eO (aW.1 kb2.out).1) rfl;clear hv;simp only[eL,wc] at BT me
  repeat' (first|simp(maxSteps:=999999)(disch:=first|exact dZ|fail)only[gW,reduceIte,aS,aO,BR,pS,po,afY, *]|(refine dX ?_ ?_<;>(intro _;try omega))|refine eJ wu aw ?_)
  exact⟨_,rfl,kX2.out.fZ ai _⟩
def Jw:Tryz.f213.results.toList=[.tmp 2]:=aw
def OE{H}{k}{n0}{es new}{x}(hx:np H 1 x=aa (bf new))(hl:es.length+new.length<=8796093022208)(hk:du n0 H k)(ho:cK H=ah)(hn:n0<=H.tn):
 ∃t H',hU aq H #[28,28] (.list k 1 (bf es)) x=aa (.list t 1 (bf (es++new)),H')/\Grown n0 H H' t:=by
 by_cases hs:new=[]
 ·subst hs;obtain⟨i,q1,q2,q3,q4⟩:=Dz;refine⟨k,H,?_,Grown.refl hk ho⟩;rw[Vp jJ (.inl ⟨_,jJ⟩) q1 ai (by rw[q2];exact q4) (by rw[q2];exact hx) (.inl q2.symm),jC]
 ·exact⟨_,_,Kr (.inl ⟨_,jJ⟩) hx hs hl (.inl rfl) hk,Grown.one hk ho hn⟩
def OR:gG aq 28 0 []=aa (.list .tight 1 []):=aw
def agF:gG aq 28 1 [(0,.v (.int .u8 128))]=aa (.list .tight 1 [[cB 128]]):=aw
def agw:gG aq 28 1 [(0,.v (.int .u8 0))]=aa (.list .tight 1 [[cB 0]]):=aw
def aui{t}{x y}{n k}(hk:k<=7):dn aq .shr t x y (.v (.int .u64 (n:Nat))) (.v (.int .i64 ((8 * k:Nat):Int)))=aa (.v (.int .u64 ((n/2^(8 * k):Nat):Int))):=by rw[Cr ai,dW,show IntKind.u64.bits=64 from rfl,Nat.min_eq_left ai];congr 3;rw[GK _ (by have:(0:Int)<2^(8 * k):=Int.pow_pos aZ;omega)];simp
def am3{n c}(hc:c<8):(pN n).take (c+1)=(pN n).take c++[UInt8.ofNat (n * 8/2^(8 * (7 - c)))]:=by refine fE ?_;unfold pN;rw[ey,y8 hc];rfl
def uO(b:List UInt8)(j:Nat):List UInt8:=b++0x80::br j 0
def aoG(b)(j):uO b j++[0]=uO b (j+1):=by unfold uO;rw[List.replicate_succ'];simp
def Sa(b)(j):(uO b j).length=b.length+1+j:=by unfold uO;simp;omega
def asq(b:List UInt8)(k:Tok)(h:ar)(ho:cK h=ah)(hb:b.length<=1099511620000):
 ∃r h',W1.call 213 [.list k 1 (bf b)] h=aa (r,h')/\∃t,r=.ret (.list t 1 (bf (rM b)))/\Grown h.tn h h' t:=by
 obtain⟨t1,h1,a1,g1⟩:=OE (H:=h) (k:=.tight) (n0:=h.tn) (es:=[]) (new:=b) (x:=.list k 1 (bf b)) RU (by simp;omega) (.inr (.inl rfl)) ho (aL _);rw[mh] at a1;replace a1:hU aq h #[28,28] (.list .tight 1 []) (.list k 1 (bf b))=aa (.list t1 1 (bf b),h1):=a1;have a2:=AQ (H:=h1) (k:=t1) (k':=.tight) (es:=b) (c:=128) ai (.inl rfl) g1.can;have g2:=g1.app (aL _);have kG:=ao.mk g2;have e0:b++[128]=uO b 0:=rfl;rw[e0] at a2;have u28:=jJ;have bl:=OR;have bl1:=agF;have ox:(bf b).length=b.length:=bF _;clear g1 g2 ho e0;refine di rfl Tryz.func213 rfl ?_;refine bC @Jw ?_;refine cH (λm e H=>∃(j:Nat) (t:Tok),j<=pT b.length/\m=pT b.length - j/\e.get 0=.list k 1 (bf b)/\e.get 3=.list t 1 (bf (uO b j))/\e.defers=[]/\Grown h.tn h H t) ?_ (pT b.length) _ _ ?_;rotate_left 1
 ·refine⟨0,.free h1.tn,cD _,rfl,?_,?_,?_,kG.out⟩<;>(first|assumption|(exact gR))
 clear kG a1 a2;rintro m e H ⟨j,t,hj,rfl,g0,g3,hd,hG⟩;have kG:=ao.mk hG;have hz:pT b.length=(119 - b.length%64)%64:=rfl;have dG:(bf (uO b j)).length=b.length+1+j:=by rw[bF,Sa]
 have hm:((b.length+1+j:Nat):Int).tmod 64=(((b.length+1+j)%64:Nat):Int):=pR _ 64;by_cases aC:j<pT b.length
 ·have bG:¬((((b.length+1+j)%64:Nat):Int)=56):=by omega
  have ap:=AQ (H:=H) (k:=t) (k':=.tight) (es:=uO b j) (c:=0) (by rw[Sa];omega) (.inl rfl) hG.can;rw[aoG] at ap;have bl2:=agw;clear hG;refine bC @Jw ?_;exact⟨pT b.length - (j+1),by omega,j+1,.free H.tn,by omega,rfl,by trivial,by trivial,by trivial,kG.out.app (aL _)⟩
 have:j=pT b.length:=by omega
 subst this;have mN:(b.length+1+pT b.length)%64=56:=by omega
 rw[mN] at hm;have w1:=xu (n:=b.length) ai;have w2:IntKind.u64.wrap (((b.length:Nat):Int) * 8)=((b.length * 8:Nat):Int):=by rw[show((b.length:Nat):Int) * 8=((b.length * 8:Nat):Int) by omega,xu ai]
 have kll:=ao.mk dG;have axw:((56:Nat):Int)=56:=rfl;clear hG hz;refine bQ @Jw @r8 ?_;refine cH (λm e H=>∃(c:Nat) (t:Tok),c<=8/\m=8 - c/\e.get 3=.list t 1 (bf (uO b (pT b.length)++(pN b.length).take c))/\e.get 4=.v (.int .u64 ((b.length * 8:Nat):Int))/\e.get 5=.v (.int .i64 (7 - (c:Int)))/\e.defers=[]/\Grown h.tn h H t) ?_ 8 _ _ ?_;rotate_left 1
 ·refine⟨0,t,cD _,rfl,?_,?_,?_,?_,kG.out⟩<;>(first|assumption|(simp only[gW,reduceIte,aS,aO,gF,jC]<;>first|assumption|rfl))
 clear kG g0 g3 hd;rintro m e H ⟨c,t,hc,rfl,g3,g4,g5,hd,hG⟩;have kG:=ao.mk hG;by_cases aC:c<8
 ·have eF:(0:Int)<=7 - (c:Int):=by omega
  have e8:IntKind.i64.wrap (8 * (7 - (c:Int)))=((8 * (7 - c):Nat):Int):=by rw[gh ai ai];omega
  have e1:IntKind.i64.wrap (7 - (c:Int) - 1)=7 - ((c+1:Nat):Int):=by rw[gh ai ai];omega
  have sh:=λt x y=>aui (t:=t) (x:=x) (y:=y) (n:=b.length * 8) (k:=7 - c) ai;have uv:=TP (b.length * 8/2^(8 * (7 - c)));have bl3:=AR (UInt8.ofNat (b.length * 8/2^(8 * (7 - c))));have XT:(pN b.length).length=8:=by simp[pN]
  have ap:=AQ (H:=H) (k:=t) (k':=.tight) (es:=uO b (pT b.length)++(pN b.length).take c) (c:=UInt8.ofNat (b.length * 8/2^(8 * (7 - c)))) (by rw[dM,Sa,fm];have:pT b.length<64:=nF _ aZ;omega) (.inl rfl) hG.can;rw[ua,<-am3 aC] at ap;clear hG;refine bQ @Jw @EP ?_;exact⟨8 - (c+1),by omega,c+1,.free H.tn,by omega,rfl,by trivial,by trivial,by trivial,by trivial,kG.out.app (aL _)⟩
 ·have:c=8:=by omega
  subst this;have XT:(pN b.length).take 8=pN b.length:=gK (by simp[pN]);have hp:uO b (pT b.length)++pN b.length=rM b:=by unfold uO rM;simp
  rw[XT,hp] at g3;have QA:¬((0:Int)<=7 - ((8:Nat):Int)):=by omega
  clear hG;refine bC @Jw ?_;exact⟨_,_,rfl,_,rfl,kG.out⟩
def asJ:Tryz.f166.results.toList=[.cell 4 177]:=aw
def SK:Tryz.f123.results.toList=[.tmp 4]:=aw
def aoI(b):(rM b).length=64 * ((rM b).length/64):=by
 have:(rM b).length=b.length+1+pT b.length+8:=by unfold rM;simp[pN];omega
 have hz:pT b.length=(119 - b.length%64)%64:=rfl;omega
def aaI:∀(s:List fa) (i:Nat),i<4 * s.length->(jY s)[i]?=aa (UInt8.ofNat ((dt s (i/4)).toNat/256^(3 - i%4)))
 | [],i,h=>by simp at h
 |x::s,i,h=>by
  have e:jY (x::s)=[UInt8.ofNat (x.toNat/16777216),UInt8.ofNat (x.toNat/65536),UInt8.ofNat (x.toNat/256),UInt8.ofNat x.toNat]++jY s:=by unfold jY;rw[List.flatMap_cons]
  rw[e];rcases ez i 4 with q|q
  ·have:i=0∨i=1∨i=2∨i=3:=(by omega);rcases this with rfl|rfl|rfl|rfl<;>simp[dt]
  ·rw[AL (by simpa using q)];have:=aaI s (i - 4) (by simp at h;omega);simp only[jd,lP];rw[(ai:i - (0+1+1+1+1)=i - 4),this];have h1:i/4=(i - 4)/4+1:=(by omega);have h2:i%4=(i - 4)%4:=(by omega);rw[h1,h2];rfl
def afX:nH aq 177 []=aa (.agg (br 32 (cB 0))):=aw
def af5:nH aq 229 [(0,.v (.int .u32 1779033703)),(1,.v (.int .u32 3144134277)),(2,.v (.int .u32 1013904242)),(3,.v (.int .u32 2773480762)),(4,.v (.int .u32 1359893119)),(5,.v (.int .u32 2600822924)),(6,.v (.int .u32 528734635)),(7,.v (.int .u32 1541459225))]=aa (.agg (cz NT.start)):=aw
def aqv:(AV.agg (br 32 (cB 0))).cd=aa (br 32 (cB 0)):=aw
def auj{t}{x y}{v:fa}{r}(hr:r<4):dn aq .shr t x y (aX v) (.v (.int .i64 (24 - ((8 * r:Nat):Int))))=aa (.v (.int .u32 ((v.toNat/256^(3 - r):Nat):Int))):=by
 have e:(24 - ((8 * r:Nat):Int))=((24 - 8 * r:Nat):Int):=by omega
 rw[e,tV ai];unfold aX;rw[BitVec.toNat_ushiftRight,Nat.shiftRight_eq_div_pow];have:2^(24 - 8 * r)=256^(3 - r):=by rw[show(256:Nat)=2^8 from rfl,<-Nat.pow_mul];congr 1;omega
 rw[this]
def aiV(n)(h):oa aq h 42 5 (.v (.int .u32 n))=aa (.v (.int .u8 (IntKind.u8.wrap n)),h):=aw
def amE{b}{n}(hn:n<32):dS aq 177 (.ptr (.box b) 0) (.v (.int .i64 (n:Nat)))=aa (.ptr (.box b) n):=IN hn
def ab0(b:List UInt8)(k:Tok)(h:ar)(ho:cK h=ah)(hb:b.length<=1099511620000):∃h',W1.call 190 [.list k 1 (bf b)] h=aa (.ret (.agg (ct (fk b))),h')/\Ext h h':=by
 have z1:=Gx;have z2:=ac7;have bst:=af5;have x0:Ext h ((h.push (br 32 (cB 0))).push (cz NT.start)):=(Ext.push _ _).trans (.push _ _);have st0:cE aq ((h.push (br 32 (cB 0))).push (cz (br 8 0#32))) 229 (.ptr (.box (h.push (br 32 (cB 0))).boxes.length) 0) (.agg (cz NT.start))=aa ((h.push (br 32 (cB 0))).push (cz NT.start)):=lq D4 JL rfl rfl;obtain⟨r1,h1,c1,t,rfl,g1⟩:=asq b k _ (x0.ok ho) hb;have yn:(rM b).length=b.length+1+pT b.length+8:=by unfold rM;simp[pN];omega
 have mo:pT b.length<64:=nF _ aZ;have hpm:=aoI b;have kSh:ao (fk b=jY (hY ((rM b).length/64) NT.start (rM b))):=⟨rfl⟩;generalize rM b=p at *
 generalize hn:p.length/64=n at *
 have kX:=ao.mk (g1.ext x0 x0.tn);have kd:=ao.mk (g1.box _ _ (bh (bg h (br 32 (cB 0)))));have ks:ao (h1.boxes[h.boxes.length+1]?=aa (cz NT.start)):=⟨g1.box _ _ (nM (by rw[cR]))⟩;have QR:(bf p).length=p.length:=bF _;have u28:=jJ;clear x0 g1 ho;refine iD rfl Tryz.func190 rfl ?_;refine bC @Jr ?_;refine cH (λm e H=>∃i:Nat,i<=n/\m=n - i/\e.get 2=.ptr (.box h.boxes.length) 0/\e.get 3=.ptr (.box (h.boxes.length+1)) 0/\e.get 4=.list t 1 (bf p)/\e.get 5=.v (.int .i64 ((64 * i:Nat):Int))/\e.defers=[]/\H.boxes[h.boxes.length]?=aa (br 32 (cB 0))/\H.boxes[h.boxes.length+1]?=aa (cz (hY i NT.start p))/\Ext h H) ?_ n _ _ ?_;rotate_left 1
 ·refine⟨0,cD _,rfl,?_,?_,?_,?_,?_,kd.out,ks.out,kX.out⟩<;>(first|assumption|(simp only[gW,reduceIte,aS,aO,cR]<;>rfl))
 clear kd ks kX st0 z2 bst c1;rintro m e H ⟨i,hi,rfl,g2,g3,g4,g5,hd,om,oo,hX⟩;have h8:=wq i NT.start p rfl;by_cases aC:i<n
 ·refine sg λQ=>?_;have e1:IntKind.i64.wrap (((64 * i:Nat):Int)+64)=((64 * i+64:Nat):Int):=by rw[gh ai ai];omega
  obtain⟨k',sl⟩:=ach (k:=t) (b:=p) (lo:=64 * i) (hi:=64 * i+64) ai ai;have ep:(p.take (64 * i+64)).drop (64 * i)=(p.drop (64 * i)).take 64:=by rw[List.drop_take];congr 1;omega
  rw[ep] at sl;obtain⟨H2,c2,x2⟩:=aqe (hY i NT.start p) ((p.drop (64 * i)).take 64) k' H h8 (by rw[fm,iC];omega);rw[<-Hw] at c2;have l0:aI aq Gt H 229 (.ptr (.box (h.boxes.length+1)) 0)=aa (.agg (cz (hY i NT.start p))):=Rx Vf JL oo h8;have PV:=x2.box _ _ oo;have st:cE aq H2 229 (.ptr (.box (h.boxes.length+1)) 0) (.agg (cz (hY (i+1) NT.start p)))=aa (H2.put (h.boxes.length+1) (cz (hY (i+1) NT.start p))):=by rw[fK D4 JL PV (by rw[bF,wq _ _ _ rfl]) (by rw[bF,h8];decide),xo (by rw[bF,bF,wq _ _ _ rfl,h8])]
  have kd:ao ((H2.put (h.boxes.length+1) (cz (hY (i+1) NT.start p))).boxes[h.boxes.length]?=aa (br 32 (cB 0))):=⟨by rw[dh ai];exact x2.box _ _ om⟩;have ks:ao ((H2.put (h.boxes.length+1) (cz (hY (i+1) NT.start p))).boxes[h.boxes.length+1]?=aa (cz (hY (i+1) NT.start p))):=⟨eO (aW.1 PV).1⟩;have kX:=ao.mk ((hX.trans x2).fZ (ai:h.boxes.length<=h.boxes.length+1) (cz (hY (i+1) NT.start p)));have Yo:((64 * i:Nat):Int)<(p.length:Int):=by omega
  clear om oo PV hX x2 ep
  repeat' (first|simp(maxSteps:=999999)(disch:=first|exact dZ|fail)only[gW,reduceIte,aS,aO,Jr, *]|(refine dX ?_ ?_<;>(intro _;try omega))|refine eJ wu aw ?_)
  exact⟨n - (i+1),by omega,i+1,by omega,rfl,by trivial,by trivial,by trivial,by simp;omega,by trivial,kd.out,ks.out,kX.out⟩
 have:i=n:=by omega
 subst this;have Yo:¬((64 * i:Nat):Int)<(p.length:Int):=by omega
 generalize hY i NT.start p=s at *
 have c32:=aqv;have bd:=afX;have st1:cE aq (H.push (br 32 (cB 0))) 177 (.ptr (.box H.boxes.length) 0) (.agg (br 32 (cB 0)))=aa (H.push (br 32 (cB 0))):=lq c32 rQ rfl rfl;have kX:=ao.mk (hX.trans (Ext.push H (br 32 (cB 0))));have kd:ao ((H.push (br 32 (cB 0))).boxes[h.boxes.length]?=aa (br 32 (cB 0))):=⟨bh om⟩;have ks:ao ((H.push (br 32 (cB 0))).boxes[h.boxes.length+1]?=aa (cz s)):=⟨bh oo⟩;have ox:=(aW.1 oo).1;have alC:(jY s).length=32:=by rw[DN,h8]
 clear hX om oo;refine bC @Jr ?_;refine cH (λm e H1=>∃j:Nat,j<=32/\m=32 - j/\e.get 2=.ptr (.box h.boxes.length) 0/\e.get 3=.ptr (.box (h.boxes.length+1)) 0/\e.get 6=.ptr (.box H.boxes.length) 0/\e.get 7=.v (.int .i64 j)/\e.defers=[]/\H1=H.push (ct ((jY s).take j)++br (32 - j) (cB 0))) ?_ 32 _ _ ?_;rotate_left 1
 ·refine⟨0,cD _,rfl,?_,?_,?_,?_,?_,rfl⟩<;>(first|assumption|(exact gR))
 clear g2 g3 g4 g5 hd st1 bd c32 Yo;rintro m e H1 ⟨j,hj,rfl,g2,g3,g6,g7,hd,rfl⟩;by_cases aC:j<32
 ·refine sg λQ=>?_;have m1:((j:Nat):Int).tdiv 4=((j/4:Nat):Int):=JO j 4;have m2:((j:Nat):Int).tmod 4=((j%4:Nat):Int):=pR j 4;have w1:IntKind.i64.wrap ((j/4:Nat):Int)=((j/4:Nat):Int):=gh ai ai;have w2:IntKind.i64.wrap (8 * ((j%4:Nat):Int))=((8 * (j%4):Nat):Int):=by rw[gh ai ai];omega
  have w3:IntKind.i64.wrap (24 - ((8 * (j%4):Nat):Int))=24 - ((8 * (j%4):Nat):Int):=gh ai ai;have ixs:=zW (b:=h.boxes.length+1) (n:=j/4) (k:=.i64) ai;have l1:aI aq Gt (H.push (ct ((jY s).take j)++br (32 - j) (cB 0))) 42 (.ptr (.box (h.boxes.length+1)) (j/4))=aa (aX (dt s (j/4))):=by refine sH ?_ ai;have:=ks.out;rw[K4 ai] at this ⊢;exact this
  have sh:=λt x y=>auj (t:=t) (x:=x) (y:=y) (v:=dt s (j/4)) (r:=j%4) ai;have uv:=TP ((dt s (j/4)).toNat/256^(3 - j%4));have ixd:=amE (b:=H.boxes.length) aC;have ho:=aaI s j ai;have stp:cE aq (H.push (ct ((jY s).take j)++br (32 - j) (cB 0))) 5 (.ptr (.box H.boxes.length) j) (cB (UInt8.ofNat ((dt s (j/4)).toNat/256^(3 - j%4))))=aa (H.push (ct ((jY s).take (j+1))++br (32 - (j+1)) (cB 0))):=by have bR:(ct ((jY s).take j)).length=j:=(by rw[mI,fm];omega);rw[Nc (bg _ _) (by rw[dM,bR,mX];omega),qs];congr 2;obtain⟨q,hq⟩:∃q,32 - j=q+1:=⟨31 - j,by omega⟩;rw[hq,Cc,List.set_append_right _ _ (by rw[bR];exact aL _),bR,ve,List.set_cons_zero,fE ho,(ai:32 - (j+1)=q)];unfold ct;rw[List.map_append,ua];rfl
  clear ho;refine bQ @Jr @aiV ?_;exact⟨32 - (j+1),by omega,j+1,by omega,rfl,by trivial,by trivial,by trivial,rfl,by trivial,rfl⟩
 ·have:j=32:=by omega
  subst this;have et:ct ((jY s).take 32)++br (32 - 32) (cB 0)=ct (fk b):=by rw[gK ai,ve,aeb,jC,kSh.out]
  have hL:(ct (fk b)).length=32:=by rw[mI,kSh.out];exact alC
  have yh:=(aW.1 kd.out).1;have kd2:(H.push (ct (fk b))).boxes[h.boxes.length]?=aa (br 32 (cB 0)):=by have:=kd.out;rw[K4 ai] at this ⊢;exact this
  have l1:aI aq Gt (H.push (ct (fk b))) 177 (.ptr (.box H.boxes.length) 0)=aa (.agg (ct (fk b))):=by rw[iP EF rQ (bg _ _) (by rw[hL];exact aL _),jm,gK (by rw[hL];exact aL _)]
  have st:cE aq (H.push (ct (fk b))) 177 (.ptr (.box h.boxes.length) 0) (.agg (ct (fk b)))=aa ((H.push (ct (fk b))).put h.boxes.length (ct (fk b))):=by rw[fK (Am _) rQ kd2 hL bJ,xo (by rw[hL];rfl)]
  have l2:aI aq Gt ((H.push (ct (fk b))).put h.boxes.length (ct (fk b))) 177 (.ptr (.box h.boxes.length) 0)=aa (.agg (ct (fk b))):=by rw[iP EF rQ (eO (aW.1 kd2).1) (by rw[hL];exact aL _),jm,gK (by rw[hL];exact aL _)]
  have xh:Ext h (H.push (ct (fk b))):=by have gi:∀(c:Nat) cs,h.boxes[c]?=aa cs->(H.push (ct (fk b))).boxes[c]?=aa cs:=λc cs hc=>(by have:=kX.out.box c cs hc;rw[K4 (by have:=(aW.1 hc).1;omega)] at this ⊢;exact this);exact⟨gi,kX.out.loop,kX.out.tn,kX.out.dead,kX.out.ok⟩
  have kX2:=ao.mk (xh.fZ (aL _) (ct (fk b)));rw[et];clear kd2 xh et;refine bC @Jr ?_;exact⟨_,rfl,kX2.out⟩
def atg(bA b)(k)(h)(ho:cK h=ah)(hb:b.length<=1099511610000)(ht:bA.length<=1099511610000):
 ∃h',W1.call 166 [.v (.string (bs bA)),.list k 1 (bf b)] h=aa (.ret (.agg (ct (gO bA b))),h')/\Ext h h':=by
 have z177:=Gx;have x0:Ext h ((h.push (br 32 (cB 0))).app .nil):=(Ext.push _ _).trans (Ext.app (Ext.refl _) (.inl rfl));have e0:((h.push (br 32 (cB 0))).app .nil).boxes=(h.push (br 32 (cB 0))).boxes:=eC _ _;obtain⟨H2,c2,x2⟩:=ab0 bA (.free (h.push (br 32 (cB 0))).tn) ((h.push (br 32 (cB 0))).app .nil) (x0.ok ho) ai;have d0:H2.boxes[h.boxes.length]?=aa (br 32 (cB 0)):=x2.box _ _ (by rw[e0];exact bg _ _);have tl:(ct (fk bA)).length=32:=by rw[mI,uS]
 have st1:cE aq (H2.push (br 32 (cB 0))) 177 (.ptr (.box H2.boxes.length) 0) (.agg (ct (fk bA)))=aa (H2.push (ct (fk bA))):=lq (Am _) rQ tl rfl;have x3:Ext h (H2.push (ct (fk bA))):=(x0.trans x2).trans (Ext.push _ _);have nr:np (H2.push (ct (fk bA))) 1 (.arr H2.boxes.length 0 32 32)=aa (bf (fk bA)):=
  eu.news (eu.box (AS _) (by rw[bF,uS]) (by rw[JQ];exact bg _ _))
 obtain⟨t4,H4,a4,g4⟩:=OE (H:=H2.push (ct (fk bA))) (k:=.tight) (n0:=h.tn) (es:=[]) nr (by rw[uS];simp) (.inr (.inl rfl)) (x3.ok ho) x3.tn;rw[mh] at a4;replace a4:hU aq (H2.push (ct (fk bA))) #[28,28] (.list .tight 1 []) (.arr H2.boxes.length 0 32 32)=aa (.list t4 1 (bf (fk bA)),H4):=a4;have x4:=g4.ext x3 (aL _);obtain⟨t5,H5,a5,g5⟩:=OE (H:=H4) (k:=t4) (n0:=h.tn) (es:=fk bA) (new:=b) (x:=.list k 1 (bf b)) RU (by rw[uS];omega) g4.can g4.ok x4.tn;have x5:=g5.ext x4 (aL _);obtain⟨H6,c6,x6⟩:=ab0 (fk bA++b) t5 H5 g5.ok (by rw[dM,uS];omega);have d6:H6.boxes[h.boxes.length]?=aa (br 32 (cB 0)):=x6.box _ _ (g5.box _ _ (g4.box _ _ (bh d0)));have tl2:(ct (gO bA b)).length=32:=by rw[mI];exact uS _
 have st2:cE aq H6 177 (.ptr (.box h.boxes.length) 0) (.agg (ct (gO bA b)))=aa (H6.put h.boxes.length (ct (gO bA b))):=by rw[fK (Am _) rQ d6 tl2 bJ,xo (by rw[tl2];simp)]
 have ld2:aI aq Gt (H6.put h.boxes.length (ct (gO bA b))) 177 (.ptr (.box h.boxes.length) 0)=aa (.agg (ct (gO bA b))):=by rw[iP EF rQ (eO (aW.1 d6).1) (by rw[tl2];exact aL _),jm,gK (by rw[tl2];exact aL _)]
 replace c6:W1.call 190 [.list t5 1 (bf (fk bA++b))] H5=aa (.ret (.agg (ct (gO bA b))),H6):=c6;have kX:=ao.mk ((x5.trans x6).fZ (aL _) (ct (gO bA b)));have bl:=OR;clear e0 x0 x2 x3 x4 x5 x6 g4 g5 d0 d6 tl tl2 nr;refine iD rfl Tryz.func166 rfl ?_;refine cX @asJ @Wx @acg ?_;exact⟨_,rfl,kX.out⟩
def ap9{b}:jK (mask b) 1=(dO b 0).toNat%128∨b=[]:=by
 by_cases hb:b=[]
 ·exact .inr hb
 ·refine .inl ?_;have:0<b.length:=List.length_pos_iff.2 hb;show 0 * 256+(dO (mask b) 0).toNat=_;rw[LS this,aH rfl,OC];omega
def aqX(bA b:List UInt8)(k:Tok)(h:ar)(ho:cK h=ah)(hb:b.length<=1099511610000)(ht:bA.length<=1099511610000):
 ∃h',W1.call 123 [.v (.string (bs bA)),.list k 1 (bf b)] h=aa (.ret (im (nj (gO bA b):Nat)),h')/\Ext h h':=by
 obtain⟨H1,c1,x1⟩:=atg bA b k h ho hb ht;have hl:(gO bA b).length=32:=uS _;have db:(ct (gO bA b)).length=32:=by rw[mI,hl]
 have he:=hash_eq (b:=gO bA b) ai;generalize gO bA b=d at *
 have bE:0<d.length:=by omega
 have z177:=Gx;have st1:cE aq (H1.push (br 32 (cB 0))) 177 (.ptr (.box H1.boxes.length) 0) (.agg (ct d))=aa (H1.push (ct d)):=lq (Am _) rQ db rfl;have ix0:dS aq 177 (.ptr (.box H1.boxes.length) 0) (.v (.int .i64 0))=aa (.ptr (.box H1.boxes.length) 0):=IN (n:=0) aZ;have l0:aI aq Gt (H1.push (ct d)) 5 (.ptr (.box H1.boxes.length) 0)=aa (.v (.int .u8 ((dO d 0).toNat:Nat))):=LK (bg _ _) bE;have m0:(((dO d 0).toNat:Nat):Int).tmod 128=((jK (mask d) 1:Nat):Int):=by refine(pR (dO d 0).toNat 128).trans ?_;rw[show jK (mask d) 1=(dO d 0).toNat%128 from ap9.resolve_right (by rintro rfl;simp at bE)]
 have ew0:IntKind.i64.wrap (((dO d 0).toNat:Nat):Int)=(((dO d 0).toNat:Nat):Int):=by have:=vV (dO d 0);exact gh ai ai
 have hX:=ao.mk (x1.trans (Ext.push H1 (ct d)));have aC:=λi hi=>aak bE (i:=i) hi;have nP:∀i,i≠0->dO (mask d) i=dO d i:=λi hi=>by rw[LS bE,aJ hi]
 have kB:=ao.mk (bg H1 (ct d));have klt:=ao.mk aC;have ke:=ao.mk he;have kl:=ao.mk hl;have kml:=ao.mk nP;clear db hl aC he nP x1 bE ho;unfold im;refine iD rfl Tryz.func123 rfl ?_;refine bQ @SK @O9 ?_;refine cH (λm e H=>∃i:Nat,1<=i/\i<=8/\m=8 - i/\e.get 5=.ptr (.box H1.boxes.length) 0/\e.get 7=.v (.int .i64 i)/\e.get 6=.v (.int .i64 (jK (mask d) i:Nat))/\e.defers=[]/\H=H1.push (ct d)) ?_ 7 _ _ ?_;rotate_left 1
 ·refine⟨1,by decide,by decide,rfl,?_,?_,?_,?_,rfl⟩<;>(first|assumption|(exact gR))
 clear z177 st1 ix0 l0 c1 m0 ew0;rintro m e H ⟨i,Qg,hi,rfl,g5,g7,g6,hd,rfl⟩;by_cases h8:i=8
 ·subst h8;have e1:(((jK (mask d) 8:Nat):Int)).tmod 1073741789=((nj d:Nat):Int):=by rw[<-ke.out];exact pR _ _
  generalize jK (mask d) 8=A at *
  refine bC @SK ?_;exact⟨_,rfl,hX.out⟩
 ·have aC:i<8:=by omega
  have a1:=klt.out i aC;have u1:=vV (dO d i);have ix:=IN (b:=H1.boxes.length) (n:=i) (k:=.i64) ai;have ld:aI aq Gt (H1.push (ct d)) 5 (.ptr (.box H1.boxes.length) i)=aa (.v (.int .u8 ((dO d i).toNat:Nat))):=LK kB.out (by have:=kl.out;omega);have ew:IntKind.i64.wrap (((dO d i).toNat:Nat):Int)=(((dO d i).toNat:Nat):Int):=gh ai ai;have kstep:=ao.mk (show jK (mask d) (i+1)=jK (mask d) i * 256+(dO d i).toNat by rw[<-kml.out i ai];rfl);generalize jK (mask d) i=A at *
  generalize (dO d i).toNat=r at *
  have e2:IntKind.i64.wrap (((A:Nat):Int) * 256)=((A * 256:Nat):Int):=by rw[gh ai ai];omega
  have e3:IntKind.i64.wrap (((A * 256:Nat):Int)+((r:Nat):Int))=((A * 256+r:Nat):Int):=by rw[gh ai ai];omega
  refine bQ @SK @O9 ?_;exact⟨8 - (i+1),by omega,i+1,by omega,by omega,rfl,by trivial,rfl,by rw[kstep.out],by trivial,by trivial⟩
def asw:Tryz.f119.results.toList=[.cell 2 96]:=aw
def asx:Tryz.f120.results.toList=[.cell 2 96]:=aw
def asy:Tryz.f121.results.toList=[.cell 2 96]:=aw
def OK(n):nH aq 96 [(0,.v (.int .i64 1)),(1,.v (.int .i64 n))]=aa (.agg (aM 1 n [] .nil 0 [])):=aw
def OL(s):nH aq 96 [(0,.v (.int .i64 2)),(2,.v (.string (bs s)))]=aa (.agg (aM 2 0 s .nil 0 [])):=aw
def bdl(k)(sz)(ae):nH aq 96 [(0,.v (.int .i64 3)),(3,.list k sz ae)]=aa (.agg (aM 3 0 [] k sz ae)):=aw
def Nd{H:ar}{k n}{s}{t}{sz}{ae}:cE aq (H.push (aM 0 0 [] .nil 0 [])) 96 (.ptr (.box H.boxes.length) 0) (.agg (aM k n s t sz ae))=aa (H.push (aM k n s t sz ae)):=lq rfl qW rfl rfl
def Rw{H:ar}{k n}{s}{t}{sz}{ae}:aI aq Gt (H.push (aM k n s t sz ae)) 96 (.ptr (.box H.boxes.length) 0)=aa (.agg (aM k n s t sz ae)):=qT rfl (bg _ _)
def aq5(n:Int)(h:ar):W1.call 120 [.v (.int .i64 n)] h=aa (.ret (.agg (aM 1 n [] .nil 0 [])),h.push (aM 1 n [] .nil 0 [])):=by have z:=yQ;refine cN rfl Tryz.func120 rfl ?_;exact oj @asx @OK @Nd @Rw
def atl(s:List UInt8)(h:ar):W1.call 121 [.v (.string (bs s))] h=aa (.ret (.agg (aM 2 0 s .nil 0 [])),h.push (aM 2 0 s .nil 0 [])):=by have z:=yQ;refine cN rfl Tryz.func121 rfl ?_;exact oj @asy @OL @Nd @Rw
def arQ(k:Tok)(sz:Nat)(ae:List (List AV))(h:ar):W1.call 119 [.list k sz ae] h=aa (.ret (.agg (aM 3 0 [] k sz ae)),h.push (aM 3 0 [] k sz ae)):=by have z:=yQ;refine cN rfl Tryz.func119 rfl ?_;exact oj @asw @bdl @Nd @Rw
def L2:List bq:=[28,29,30,46,65,66,69,78,82,94,118,119,120,121,123,132,138,140,146,194,201]
noncomputable def Sr:bq->Option (List AV->ar->Option (AV × ar)):=qG W1 L2
noncomputable abbrev W2:=whole aq Gt Sr
def AU:qu Sr L2:=xU
section
variable (a b n x:Int)
def Vb:∀h,W2.call 28 [im a,im b] h=aa (.ret (im (dj a b)),h):=bm (L:=L2) rfl rfl rfl (ae7 a b _) rfl rfl
def RN:∀h,W2.call 29 [im a,im b] h=aa (.ret (im (df a b)),h):=bm (L:=L2) rfl rfl rfl (anT a b _) rfl rfl
def amy:∀h,W2.call 201 [im n] h=aa (.ret (.tuple [im (if fmod n=0 then 0 else eU n),im (if fmod n=0 then 90 else 0)]),h):=bm (L:=L2) rfl rfl rfl (amx n _) rfl rfl
def awn:∀h,W2.call 46 [im x] h=aa (.ret (.v (.bool (bN x))),h):=bm (L:=L2) rfl rfl rfl (awk x _) rfl rfl
def akq:∀h,W2.call 69 [im a,im b] h=aa (.ret (.tuple [im (jL a b),im (mM a b)]),h):=bm (L:=L2) rfl rfl rfl (akp a b _) rfl rfl
def akv:∀h,W2.call 30 [im a,im n] h=aa (.ret (.tuple [im (fH a n),im (ni a)]),h):=bm (L:=L2) rfl rfl rfl (aku a n _) rfl rfl
def aqb:∀h,W2.call 65 [im a,im b] h=aa (.ret (im (dj a b)),h):=bm (L:=L2) rfl rfl rfl (aqa a b _) rfl rfl
def arS:∀h,W2.call 66 [im a,im b] h=aa (.ret (im (df a b)),h):=bm (L:=L2) rfl rfl rfl (arR a b _) rfl rfl
def aq7:∀h,W2.call 194 [im n] h=aa (.ret (.tuple [im (if fmod n=0 then 0 else eU n),im (if fmod n=0 then 90 else 0)]),h):=bm (L:=L2) rfl rfl rfl (aq6 n _) rfl rfl
def atH:∀h,W2.call 94 [im x] h=aa (.ret (.v (.bool (bN x))),h):=bm (L:=L2) rfl rfl rfl (atG x _) rfl rfl
def aqH:∀h,W2.call 140 [im a,im b] h=aa (.ret (.tuple [im (jL a b),im (mM a b)]),h):=bm (L:=L2) rfl rfl rfl (aqG a b _) rfl rfl
def aqO:∀h,W2.call 132 [im a,im n] h=aa (.ret (.tuple [im (fH a n),im (ni a)]),h):=bm (L:=L2) rfl rfl rfl (aqN a n _) rfl rfl
def aq1:∀h,W2.call 120 [im n] h=aa (.ret (.agg (aM 1 n [] .nil 0 [])),h):=bm (L:=L2) rfl rfl rfl (aq5 n _) rfl rfl
end
def ath(s):∀h,W2.call 121 [sv s] h=aa (.ret (.agg (aM 2 0 s .nil 0 [])),h):=bm (L:=L2) rfl rfl rfl (atl s _) rfl rfl
def vJ:cK ⟨[],[],0,[]⟩=ah:=rfl
def akl(bA b)(k)(hb:b.length<=1099511620000)(ht:bA.length<=1099511620000):∀h,W2.call 78 [.v (.string (bs bA)),.list k 1 (bf b)] h=aa (.ret (im (nj (gO bA b):Nat)),h):=
 bm (L:=L2) (b7:=[.v (.string (bs bA)),.list (bX k) 1 (bf b)]) rfl (by rw[bZ,bZ,aD.eq_1,qO];rfl) (by simp[aR,aK,fx,kL]) (akk bA b _ hb ht _) rfl rfl
def aqT(bA b)(k)(hb:b.length<=1099511610000)(ht:bA.length<=1099511610000):∀h,W2.call 123 [.v (.string (bs bA)),.list k 1 (bf b)] h=aa (.ret (im (nj (gO bA b):Nat)),h):=by obtain⟨h',hc,-⟩:=aqX bA b (bX k) ⟨[],[],0,[]⟩ vJ hb ht;exact bm (L:=L2) (b7:=[.v (.string (bs bA)),.list (bX k) 1 (bf b)]) rfl (by rw[bZ,bZ,aD.eq_1,qO];rfl) (by simp[aR,aK,fx,kL]) hc rfl rfl
def ajk{v}{r}(hv:dm v r)(hd:gQ v<=16)(hl:(dU v).length<=1099511600000):∃t,∀h,W2.call 146 [.agg r] h=aa (.ret (.tuple [.list t 1 (bf (dU v)),.v (.int .i64 0)]),h):=by obtain⟨h1,h2⟩:=dm.hold v r hv;obtain⟨r',h',hc,t,rfl,-⟩:=ajm h1 hd ai ⟨[],[],0,[]⟩ vJ;exact⟨bX t,bm (L:=L2) (b7:=[.agg (bZ r)]) rfl rfl (by simpa [aR,aK] using h2) hc rfl (by simp[aK,aR,fx,kL])⟩
def aqq{v}{r}(hv:dm v r)(hd:gQ v<=16)(hl:(dU v).length<=1099511600000):∃t,∀h,W2.call 118 [.agg r] h=aa (.ret (.tuple [.list t 1 (bf (dU v)),.v (.int .i64 0)]),h):=by obtain⟨h1,h2⟩:=dm.hold v r hv;obtain⟨r',h',hc,t,rfl,-⟩:=ap8 h1 hd ai ⟨[],[],0,[]⟩ vJ;exact⟨bX t,bm (L:=L2) (b7:=[.agg (bZ r)]) rfl rfl (by simpa [aR,aK] using h2) hc rfl (by simp[aK,aR,fx,kL])⟩
def oL(l:List Vl)(ae:List (List AV)):Prop:=ae.length=l.length/\∀(i:Nat) v r,l[i]?=aa v->ae[i]?=aa r->dm v r
def asT:Tryz.f202.results.toList=[.tmp 4]:=aw
def SY:Tryz.f219.results.toList=[]:=aw
def mj:gY aq 23=aa aB:=aw
def afl:gY aq 203=aa aB:=aw
def vG{H}{b}{x}(hb:H.boxes[b]?=aa [x]):aI aq Gt H 23 (.ptr (.box b) 0)=aa x:=by rw[mT mj hb];rfl
def yx{H}{b}{x}(hb:H.boxes[b]?=aa [x]):aI aq Gt H 203 (.ptr (.box b) 0)=aa x:=by rw[mT afl hb];rfl
def Aa{H}{b k}{cs}{x}(hb:H.boxes[b]?=aa cs)(hk:cs[k]?=aa x):aI aq Gt H 3 (.ptr (.box b) k)=aa x:=by rw[mT fh hb,Ke,hk]
def tN{H}{b k}{cs}{x}(hb:H.boxes[b]?=aa cs)(hk:cs[k]?=aa x):aI aq Gt H 23 (.ptr (.box b) k)=aa x:=by rw[mT mj hb,Ke,hk]
def rH{b len aF n}{k}(hn:n<len):dS aq 23 (.arr b 0 len aF) (.v (.int k (n:Nat)))=aa (.ptr (.box b) n):=by rw[FK dY fR ai ai,dW,ph,qA]
def FM{b len aF n}{k}(hn:n<len):dS aq 203 (.arr b 0 len aF) (.v (.int k (n:Nat)))=aa (.ptr (.box b) n):=by rw[FK Tryz.underlying203 iA ai ai,dW,ph,qA]
def Vd(xb w c:Nat)(h:ar):W2.call 202 [.arr xb 0 w w,im (c:Nat)] h=aa (.ret (.func (.func 219) [] [.ptr (.box (h.boxes.length+1)) 0,.ptr (.box h.boxes.length) 0]),(h.push [.arr xb 0 w w]).push [im (c:Nat)]):=by have b1:(AV.arr xb 0 w w).cd=aa [.arr xb 0 w w]:=rfl;have b2:(AV.v (.int .i64 (c:Nat))).cd=aa [.v (.int .i64 (c:Nat))]:=rfl;unfold im;refine cN rfl Tryz.func202 rfl ?_;exact si @asT @bu @cR
def Ve(l cb rb xb w c:Nat)(row:List Int)(Inv:Nat->ar->Prop)
 (h1:∀k H,Inv k H->H.boxes[cb]?=aa [im (c:Nat)]/\H.boxes[rb]?=aa [.arr xb 0 w w]/\(k<w->∃cs,H.boxes[xb]?=aa cs/\cs[k]?=aa (im (al row k))))
 (hR:∀k H,c<=k->k<w->Inv k H->∃H',W2.round l [im (k:Nat),im (al row k)] H=aa (.ret (.v (.bool ah)),H')/\Inv (k+1) H')
 (hc:c<=w) (jG:w<=1000000) (H0:ar) (h0:Inv c H0):∃H',W2.call 219 [.yield l,.ptr (.box cb) 0,.ptr (.box rb) 0] H0=aa (.ret (.tuple []),H')/\Inv w H':=by
 have k1:=ao.mk h1;have kR:=ao.mk hR;have k0:=ao.mk h0;obtain⟨b1,b2,-⟩:=h1 c H0 h0;have l1:=me b1;unfold im at l1;have u23:=dY;clear h1 hR h0 b1 b2;refine iD rfl Tryz.func219 rfl ?_;refine bC @SY ?_;refine cH (λm e H=>∃k:Nat,c<=k/\k<=w/\m=w - k/\e.get 0=.yield l/\e.get 1=.ptr (.box cb) 0/\e.get 2=.ptr (.box rb) 0/\e.get 4=.v (.int .i64 k)/\e.defers=[]/\Inv k H) ?_ (w - c) _ _ ?_;rotate_left 1
 ·refine⟨c,aL _,hc,rfl,?_,?_,?_,?_,?_,k0.out⟩<;>(first|assumption|(exact gR))
 clear l1 k0;rintro m e H ⟨k,Bo,Bp,rfl,g0,g1,g2,g4,hd,hI⟩;obtain⟨b1,b2,b3⟩:=k1.out k H hI;have l2:=vG b2;have kI:=ao.mk hI;clear b1 hI;by_cases aC:k<w
 ·obtain⟨cs,b4,b5⟩:=b3 aC;obtain⟨H',r1,r2⟩:=kR.out k H Bo aC kI.out;have ix:=rH (b:=xb) (len:=w) (aF:=w) (k:=.i64) aC;have l3:=Aa b4 b5;have kI2:=ao.mk r2;have fw:((k:Nat):Int)<((w:Nat):Int):=by omega
  unfold im at *
  clear b2 b3 b4 b5 r2 kI;refine bQ @SY @AT ?_;exact⟨w - (k+1),by omega,k+1,by omega,by omega,rfl,by trivial,by trivial,by trivial,by simp,by trivial,kI2.out⟩
 ·have:k=w:=by omega
  subst this;clear b2 b3;refine bC @SY ?_;exact⟨_,rfl,kI.out⟩
end Go.Proofs.YtnfciiiohoafaaaGreatDoor
end
