/-
  The engine, part 47: lists that grow.
-/
import Derived.Test.YtnfciiiohoafaaaGreatDoorYC
import Derived.Test.YtnfciiiohoafaaaGreatDoorYB
open True renaming intro->aT
open List renaming replicate->bm,replicate_succ->CP,flatten_cons->oK,length_nil->jP,getElem?_toArray->ja,getElem?_cons_zero->jD,getElem?_cons_succ->pc,getElem?_map->eR,take_append_drop->xI,flatten_append->qA,length_append->du,getElem?_eq_getElem->a9,take_length->gM,mem_of_getElem?->ez,mem_flatten->Ls,mem_cons_self->ga,not_mem_nil->AN,getElem?_eq_some_iff->aQ,mem_of_mem_take->pS,length_replicate->qC,nil_append->jZ,replicate_zero->aaC,append_nil->jv,length_map->bJ,drop_zero->iB,take_of_length_le->fK,map_cons->ev,map_nil->uN,head?_drop->Il,getD_eq_getElem?_getD->eQ,foldl_append->oL,getElem?_set->mU,length_set->nE,all_eq_true->eE,mem_cons->jm,length_take->fb,length_drop->gE,mem_map->jE,getElem?_take->nU,getElem?_drop->pR,range->bL,mem_filter->xG,set_set->CQ,ext_getElem?->sM,mem_cons_of_mem->fR,filter_cons_of_neg->Ii,filter_cons_of_pos->Ij,ext_getElem->Ih,getElem_map->pg,getElem_range->AJ,mem_range->fD,getElem?_append_right->ET,mem_singleton->ph,mem_or_eq_of_mem_set->vU,getElem_mem->iS,eq_of_mem_replicate->Ig,getElem?_replicate->Lm,nodup_cons->EX,foldl_cons->xE,contains_iff_mem->aah,mem_iff_getElem->AM,getElem?_mapIdx->aao,map_map->AL,cons_append->jO,append_assoc->tV,take_succ_cons->iK,take_zero->gm,length_cons->iJ,getElem?_range->yW
open Go.Proofs.Tryz renaming prog->aj,underlying28->jb,underlying3->CZ,func206->abc,underlying23->eY,underlying9->C0,func132->aa5,func140->RO,underlying94->qD,func207->RS,func186->RQ,func187->RR,func188->aba,func164->RP
open Option renaming some->aa,none->au,bind_some->oa,map_some->eX,some.injEq->dE,map_map->LM
open Nat renaming beq->jw,ble->LB,eq_of_beq_eq_true->jF,le_of_ble_eq_true->lN,mul_le_mul->ry,mul_one->nY,zero_add->nZ,le_trans->fc,zero_le->df,reduceEqDiff->aY,eq_zero_or_pos->Fa,le_refl->aJ,sub_self->yX,and_two_pow_sub_one_eq_mod->aaL,pow_succ->AT,mul_pos->LH,pow_pos->LJ,mod_lt->mE,add_mul->fW,mod_eq_of_lt->nF,pow_le_pow_right->aaY,shiftLeft_eq->AU,shiftLeft_add_eq_or_of_lt->LK,lt_of_lt_of_le->mD,lt_succ_of_lt->vV,lt_or_ge->dT,shiftLeft_add->Rw,shiftLeft_or_distrib->Rx
open Bool renaming false->ay,true->ai,and_eq_true->bA,and_true->EF,not_eq_true'->yP
open Int renaming sub_zero->CL,natCast_zero->tU,dvd_add->xz,zero_mul->Ic,emod_eq_emod_iff_emod_sub_eq_zero->Z0,emod_emod_of_dvd->CJ,dvd_refl->CI,emod_eq_of_lt->Lc,zero_add->EN,toNat_natCast->dS,mul_comm->yS,mul_sub->yT,dvd_mul_of_dvd_right->EJ,fdiv_eq_ediv_of_nonneg->EK
open And renaming intro->ax
open Go renaming Program->bB,TypeId->aH,FuncId->bq,Value->aL
open Prod renaming mk.injEq->cW,fst->Fg
set_option maxHeartbeats 64000000
set_option maxRecDepth 100000
set_option linter.unusedSimpArgs false
set_option linter.unusedVariables false
set_option linter.constructorNameAsVariable false
set_option linter.defProp false
section
namespace Go.Proofs.YtnfciiiohoafaaaGreatDoor
open Go.AE Go.NT
def PN(z:AV):∀n:Nat,(bm n [z]).flatten=bm n z
 |0=>rfl|n+1=>by rw[CP,oK,PN z n,CP];rfl
def X7:Tryz.f206.results.toList=[.tmp 4]:=aw
def Av:Tryz.f182.results.toList=[.tmp 2]:=aw
def SS:Db aj 28 (.list .nil 0 [])=aa (.v (.int .i64 0)):=aw
def YA:ie aj 28 (.list .nil 0 []) au (aa (.v (.int .i64 0))) au=aa (.list .nil 0 []):=aw
def Cb:∃i,aj.info? 5=aa i/\i.size=1/\i.bytes<=8/\(i.zero.map λz=>z.cells.size)=aa 1:=by
 have h:(match aj.info? 5 with|some i=>jw i.size 1&&LB i.bytes 8&&decide ((i.zero.map λz=>z.cells.size)=aa 1)|none=>ay)=ai:=aw;split at h
 ·rename_i i hi;simp only[bA,decide_eq_true_eq] at h;exact⟨i,hi,jF h.1.1,lN h.1.2,h.2⟩
 ·cases h
def zr5:(gy aj 5).bind AV.bU=aa [bT 0]:=aw
def acf{H}{n}(h0:0<n)(hn:n<=1099511627776):gd aj H #[28,3] (.list .nil 0 []) (.v (.int .i64 (n:Nat)))=aa (.arr H.boxes.length 0 n n,H.push (bm n [bT 0]).flatten):=by obtain⟨i,h1,h2,h3,h4⟩:=Cb;have:=ry hn h3;exact Si jb CZ h1 zr5 h0 ah ah ah h2.symm
def af3(n:Nat)(h0:0<n)(hn:n<=1099511627776)(H:ao):W.call 206 [.list .nil 0 [],.v (.int .i64 (n:Nat))] H=aa (.ret (.arr H.boxes.length 0 0 n),H.push (bm n [bT 0]).flatten):=by
 have u28:=jb;have a:=acf (H:=H) h0 hn;have e1:IntKind.i64.wrap ((0:Int) - 0)=0:=by rfl
 have e2:IntKind.i64.wrap (((n:Nat):Int) - 0)=((n:Nat):Int):=by rw[CL,fh ah ah]
 have s2:ie aj 28 (.arr H.boxes.length 0 n n) au (aa (.v (.int .i64 (0:Nat)))) au=aa (.arr H.boxes.length 0 0 n):=Yy u28 sH aO aO ah h0;have s2:ie aj 28 (.arr H.boxes.length 0 n n) au (aa (.v (.int .i64 0))) au=aa (.arr H.boxes.length 0 0 n):=s2;have az:(0:Int)<(n:Nat):=by omega
 refine cN rfl abc rfl ?_;exact Jg @X7 @FD @SS (ax @YA (ax @jP.{0} (ax @tU @CL)))
def af4(H:ao):W.call 206 [.list .nil 0 [],.v (.int .i64 (0:Nat))] H=aa (.ret (.list .nil 0 []),H):=by
 have u28:=jb;refine cN rfl abc rfl ?_;have e1:IntKind.i64.wrap ((0:Int) - 0)=0:=by rfl
 have e2:IntKind.i64.wrap (((0:Nat):Int) - 0)=0:=by rfl
 exact Jg @X7 @FD @SS (ax @YA (ax @jP.{0} (ax @tU @CL)))
def abK:fY aj 28=aa ay:=aw
def Ze:dm aj 28=aa 1:=aw
def abl{H}{b len aA}{cs}{new}{x}(s:dO 1 H x new)(hb:H.boxes[b]?=aa cs)(h2:len+new.length<=aA)(h3:aA<=cs.length):
 gd aj H #[28,28] (.arr b 0 len aA) x=aa (.arr b 0 (len+new.length) aA,H.put b (eK cs len new.flatten)):=by
 obtain⟨i,h1,q2,-,h4⟩:=Cb;have:=Sg (off:=0) jb jb h1 ah (by rw[q2];exact h4) (by rw[q2];exact s.news) hb h2 (by rw[q2];omega)
 rwa [q2,nY,nZ] at this
def abQ{H}{x}(s:dO 1 H x []):gd aj H #[28,28] (.list .nil 0 []) x=aa (.list .nil 0 [],H):=by
 obtain⟨i,h1,q2,-,h4⟩:=Cb;have hx:mw H i.size x=aa []:=by rw[q2];exact s.news
 unfold gd;simp only[ja,jD,pc,oa,jb,h1,hx];rw[aD ⟨ah,by rw[q2];exact h4⟩];simp
def aee(k:Tok)(xs:List AV)(dc:List (List (List AV)))(hl:xs.length=dc.length)(H:ao)(hs:∀(i:Nat) x rs,xs[i]?=aa x->dc[i]?=aa rs->dO 1 H x rs)(hb:dc.flatten.length<=1099511627776)(ff:xs.length<=1000):
 ∃r H',W.call 182 [.list k 1 (xs.map λx=>[x])] H=aa (r,H')/\∃y,r=.ret y/\Ext H H'/\dO 1 H' y dc.flatten:=by
 have u28:=jb;have u233:=Tryz.underlying233;have aE:=abK;have sE:=Ze;have hr:∀(i:Nat) x,xs[i]?=aa x->(xs.map λx=>[x])[i]?=aa [x]:=λi x hx=>by rw[eR,hx];rfl
 have eC:∀i,(dc.take i).flatten.length<=1099511627776:=λi=>by
  refine fc ?_ hb
  conv=>rhs;rw[<-xI i dc,qA,du]
  omega
 have lD:∀(i:Nat) rs,dc[i]?=aa rs->(dc.take (i+1)).flatten=(dc.take i).flatten++rs:=λi rs hi=>by rw[gx hi,qA];simp
 have kS:=aq.mk hs;have kl:=aq.mk hl;have kr:=aq.mk hr;have kst:=aq.mk lD;have kle:=aq.mk eC;have mL:(xs.map λx=>[x]).length=xs.length:=by simp
 clear hs hr lD eC hl;generalize hM:(xs.map λx=>[x])=M at *
 refine ec rfl Tryz.func182 rfl ?_;refine bR @Av ?_;refine de (λm e h'=>∃i:Nat,i<=xs.length/\m=xs.length - i/\e.get 0=.list k 1 M/\e.get 9=.list k 1 M/\e.get 10=.v (.int .i64 (xs.length:Nat))/\e.get 11=.v (.int .i64 i)/\e.get 3=.v (.int .i64 ((dc.take i).flatten.length:Nat))/\e.get 2=.list .nil 0 []/\e.defers=[]/\h'=H) ?_ xs.length _ _ ?_;rotate_left 1
 ·refine⟨0,df _,rfl,?_,?_,?_,?_,?_,?_,?_,rfl⟩<;>(first|assumption|(simp only[gW,reduceIte,aY,aR,mL]<;>rfl))
 rintro m e h' ⟨i,hi,rfl,g0,g9,g10,g11,g3,g2,hd,rfl⟩;by_cases az:i<xs.length
 ·obtain⟨x,hx⟩:∃x,xs[i]?=aa x:=⟨_,a9 az⟩;obtain⟨rs,jh⟩:∃rs,dc[i]?=aa rs:=⟨_,a9 (by have:=kl.out;omega)⟩;have s1:=kS.out i x rs hx jh;have ls:=s1.len u28;have vj:=kr.out i x hx;have BC:(i:Int)<(M.length:Int):=by omega
  have q:=kst.out i rs jh;have q1:=kle.out (i+1);rw[q,du] at q1;have ksum:=aq.mk (show(dc.take (i+1)).flatten.length=(dc.take i).flatten.length+rs.length by rw[q,du]);generalize (dc.take i).flatten.length=n1 at *
  have e1:IntKind.i64.wrap (((n1:Nat):Int)+((rs.length:Nat):Int))=((n1+rs.length:Nat):Int):=by rw[fh ah ah];omega
  have nn:¬(((n1+rs.length:Nat):Int)<0):=by omega
  have ld:aF aj Gt h' 28 (.elem 1 M i 0)=aa x:=by rw[r9 aE vj];rfl
  clear q q1 s1;refine cq @Av @ck ?_;exact⟨xs.length - (i+1),by omega,i+1,by omega,rfl,by trivial,by trivial,by trivial,by simp,by rw[ksum.out],by trivial,by trivial,by trivial⟩
 have:i=xs.length:=by omega
 subst this;rw[show dc.take xs.length=dc by rw[kl.out];exact gM] at g3;have hn:=kle.out xs.length;rw[show dc.take xs.length=dc by rw[kl.out];exact gM] at hn;generalize hN:dc.flatten.length=n at *
 rcases Fa n with h0|h0
 ·subst h0;have gn:=af4 h';have nL:dc.flatten=[]:=List.eq_nil_of_length_eq_zero hN;refine bR @Av ?_;refine de (λm e H1=>∃i:Nat,i<=xs.length/\m=xs.length - i/\e.get 25=.list k 1 M/\e.get 26=.v (.int .i64 (xs.length:Nat))/\e.get 27=.v (.int .i64 i)/\e.get 6=.list .nil 0 []/\e.defers=[]/\H1=h') ?_ xs.length _ _ ?_;rotate_left 1
  ·refine⟨0,df _,rfl,?_,?_,?_,?_,?_,rfl⟩<;>(first|assumption|(simp only[gW,reduceIte,aY,aR,mL]<;>rfl))
  clear g0 g9 g10 g11 g3 g2 hd gn;rintro m e H1 ⟨i,hi,rfl,g25,g26,g27,g6,hd,rfl⟩;by_cases az:i<xs.length
  ·obtain⟨x,hx⟩:∃x,xs[i]?=aa x:=⟨_,a9 az⟩;obtain⟨rs,jh⟩:∃rs,dc[i]?=aa rs:=⟨_,a9 (by have:=kl.out;omega)⟩;have s1:=kS.out i x rs hx jh;have Om:rs=[]:=by
    have:=ez jh;cases rs with|nil=>rfl|cons a l=>exact absurd (Ls.2 ⟨_,this,ga⟩) (by rw[nL];exact AN)
   subst Om;have an:=abQ s1;have vj:=kr.out i x hx;have BC:(i:Int)<(M.length:Int):=(by omega);have ld:aF aj Gt H1 28 (.elem 1 M i 0)=aa x:=(by rw[r9 aE vj];rfl);clear s1;refine cq @Av @ck ?_;exact⟨xs.length - (i+1),by omega,i+1,by omega,rfl,by trivial,by trivial,by simp,by trivial,by trivial,by trivial⟩
  ·have:i=xs.length:=(by omega);subst this;refine bR @Av ?_;exact⟨_,_,rfl,_,rfl,Ext.refl _,by(try rw[nL]);exact dO.list (λr hr=>by cases hr) (λq=>absurd rfl q)⟩
 ·have gn:=af3 n h0 hn h';refine bR @Av ?_;rw[PN];have BR:∀(i:Nat) rs,dc[i]?=aa rs->∀r∈rs,r.length=1:=λi rs hi=>by obtain⟨x,hx⟩:∃x,xs[i]?=aa x:=⟨_,a9 (by rw[kl.out];exact(aQ.1 hi).1)⟩;exact(kS.out i x rs hx hi).1
  have jg:∀i,∀r∈(dc.take i).flatten,r.length=1:=λi r hr=>by obtain⟨rs,h1,h2⟩:=Ls.1 hr;obtain⟨j,hj⟩:=List.mem_iff_getElem?.1 (pS h1);exact BR j rs hj r h2
  have ou:∀i,(dc.take i).flatten.flatten.length=(dc.take i).flatten.length:=λi=>by rw[na (jg i),nY]
  have Gi:∀i,(dc.take i).flatten.length<=n:=λi=>by
   rw[<-hN]
   conv=>rhs;rw[<-xI i dc,qA,du]
   omega
  have kfl:=aq.mk ou;have kmo:=aq.mk Gi;have kr2:=aq.mk jg;clear BR ou Gi jg gn;refine de (λm e H1=>∃i:Nat,i<=xs.length/\m=xs.length - i/\e.get 25=.list k 1 M/\e.get 26=.v (.int .i64 (xs.length:Nat))/\e.get 27=.v (.int .i64 i)/\e.get 6=.arr h'.boxes.length 0 (dc.take i).flatten.length n/\e.defers=[]/\H1.boxes[h'.boxes.length]?=aa ((dc.take i).flatten.flatten++bm (n - (dc.take i).flatten.length) (bT 0))/\Ext h' H1) ?_ xs.length _ _ ?_;rotate_left 1
  ·refine⟨0,df _,rfl,?_,?_,?_,?_,?_,?_,Ext.push _ _⟩<;>(first|assumption|exact bp _ _|(simp only[gW,reduceIte,aY,aR,mL]<;>rfl))
  clear g0 g9 g10 g11 g3 g2 hd;rintro m e H1 ⟨i,hi,rfl,g25,g26,g27,g6,hd,hB,hX⟩;by_cases az:i<xs.length
  ·obtain⟨x,hx⟩:∃x,xs[i]?=aa x:=⟨_,a9 az⟩;obtain⟨rs,jh⟩:∃rs,dc[i]?=aa rs:=⟨_,a9 (by have:=kl.out;omega)⟩;have s1:=(kS.out i x rs hx jh).ext hX;have q:=kst.out i rs jh;have m1:=kmo.out (i+1);have f0:=kfl.out i;have Ab:(dc.take (i+1)).flatten.length=(dc.take i).flatten.length+rs.length:=(by rw[q,du]);rw[Ab] at m1;have On:rs.flatten.length=rs.length:=(by rw[na s1.1,nY]);have ap:=abl s1 hB m1 (by rw[du,qC,f0];omega);have uo:eK ((dc.take i).flatten.flatten++bm (n - (dc.take i).flatten.length) (bT 0)) (dc.take i).flatten.length rs.flatten=(dc.take (i+1)).flatten.flatten++bm (n - (dc.take (i+1)).flatten.length) (bT 0):=(by unfold eK;rw[List.take_left' f0,List.drop_append,List.drop_of_length_le (by rw[f0];omega),jZ,f0,List.drop_replicate,q,qA,du,On];congr 2;omega);rw[uo] at ap;have vj:=kr.out i x hx;have BC:(i:Int)<(M.length:Int):=(by omega);have ld:aF aj Gt H1 28 (.elem 1 M i 0)=aa x:=(by rw[r9 aE vj];rfl);have kX:=aq.mk hX;have nm:=(aQ.1 hB).1;have ks:=aq.mk Ab;clear s1 hX hB uo q f0 Ab;refine cq @Av @ck ?_;refine⟨xs.length - (i+1),by omega,i+1,by omega,rfl,by trivial,by trivial,by simp,by rw[ks.out],by trivial,?_,kX.out.fI (aJ _) _⟩;exact ey nm
  ·have:i=xs.length:=(by omega);subst this;have ht:dc.take xs.length=dc:=(by rw[kl.out];exact gM);have f0:=kfl.out xs.length;have jg:=kr2.out xs.length;rw[ht] at hB g6 f0 jg;rw[hN] at hB g6;rw[yX,aaC,jv] at hB;have kB:=aq.mk hB;have kX:=aq.mk hX;clear hB hX;refine bR @Av ?_;exact⟨_,_,rfl,_,rfl,kX.out,dO.box jg hN.symm kB.out⟩
def XW:Tryz.f158.results.toList=[.tmp 4]:=aw
def At:Tryz.f109.results.toList=[.tmp 2]:=aw
def SR:Db aj 23 (.list .nil 0 [])=aa (.v (.int .i64 0)):=aw
def Yz:ie aj 23 (.list .nil 0 []) au (aa (.v (.int .i64 0))) au=aa (.list .nil 0 []):=aw
def Ca:∃i,aj.info? 3=aa i/\i.size=1/\i.bytes<=8/\(i.zero.map λz=>z.cells.size)=aa 1:=by
 have h:(match aj.info? 3 with|some i=>jw i.size 1&&LB i.bytes 8&&decide ((i.zero.map λz=>z.cells.size)=aa 1)|none=>ay)=ai:=aw;split at h
 ·rename_i i hi;simp only[bA,decide_eq_true_eq] at h;exact⟨i,hi,jF h.1.1,lN h.1.2,h.2⟩
 ·cases h
def zr3:(gy aj 3).bind AV.bU=aa [im 0]:=aw
def ace{H}{n}(h0:0<n)(hn:n<=1099511627776):gd aj H #[23,3] (.list .nil 0 []) (.v (.int .i64 (n:Nat)))=aa (.arr H.boxes.length 0 n n,H.push (bm n [im 0]).flatten):=by obtain⟨i,h1,h2,h3,h4⟩:=Ca;have:=ry hn h3;exact Si eY CZ h1 zr3 h0 ah ah ah h2.symm
def abJ:fY aj 23=aa ay:=aw
def jN:dm aj 23=aa 1:=aw
def abk{H}{b len aA}{cs}{new}{x}(s:dO 1 H x new)(hb:H.boxes[b]?=aa cs)(h2:len+new.length<=aA)(h3:aA<=cs.length):
 gd aj H #[23,23] (.arr b 0 len aA) x=aa (.arr b 0 (len+new.length) aA,H.put b (eK cs len new.flatten)):=by
 obtain⟨i,h1,q2,-,h4⟩:=Ca;have:=Sg (off:=0) eY eY h1 ah (by rw[q2];exact h4) (by rw[q2];exact s.news) hb h2 (by rw[q2];omega)
 rwa [q2,nY,nZ] at this
def abP{H}{x}(s:dO 1 H x []):gd aj H #[23,23] (.list .nil 0 []) x=aa (.list .nil 0 [],H):=by
 obtain⟨i,h1,q2,-,h4⟩:=Ca;have hx:mw H i.size x=aa []:=by rw[q2];exact s.news
 unfold gd;simp only[ja,jD,pc,oa,eY,h1,hx];rw[aD ⟨ah,by rw[q2];exact h4⟩];simp
def am8:Tryz.f145.results.toList=[.cell 4 177]:=aw
def Tj(l)(h):mY aj h 9 28 (.v (.string (bs l)))=aa (.list (.free h.tn) 1 (aX l),h.app .nil):=by have h1:aj.underlying 9=aa .string:=C0;have h2:aj.underlying 28=aa (.slice 5):=jb;have h3:aj.underlying 5=aa (.int .u8):=Tryz.underlying5;obtain⟨i,q1,q2,-⟩:=Cb;unfold mY;simp only[h1,h2,h3,q1,q2,if_true];simp[bs,ao.fresh,ao.app]
def acV(x y)(hx:x.dW=ai)(hy:y.dW=ai):gN aj 233 2 [(0,x),(1,y)]=aa (.list .tight 1 [[x],[y]]):=by cases x<;>first|(cases hx;done)|(cases y<;>first|(cases hy;done)|kernel_rfl)
def dO.cell{sz}{h}{x}{ae}(s:dO sz h x ae):x.dW=ai:=by rcases s.2 with⟨k,s',rfl,-⟩|⟨b,off,aA,cs,rfl,-⟩<;>rfl
def tM(b):(eJ b).length=32:=by unfold eJ;rw[Cn,uR _ _ _ rfl]
def Yw(M):ie aj 177 (.ptr (.box M) 0) au au au=aa (.arr M 0 32 32):=aw
def aqe(bh b:List UInt8)(x:AV)(h:ao)(s:dO 1 h x (aX b))(hb:b.length<=1099511620000)(ht:bh.length<=1099511620000):
 ∃h',W.call 145 [.v (.string (bs bh)),x] h=aa (.ret (.agg (bP (fZ bh b))),h')/\Ext h h':=by
 have z177:=ED;have x0:Ext h ((h.push (bm 32 (bT 0))).app .nil):=(Ext.push _ _).trans (Ext.app (Ext.refl _) (.inl rfl));have e0:((h.push (bm 32 (bT 0))).app .nil).boxes=(h.push (bm 32 (bT 0))).boxes:=eS _ _;obtain⟨H2,c2,x2⟩:=Ys bh (.list (.free (h.push (bm 32 (bT 0))).tn) 1 (aX bh)) ((h.push (bm 32 (bT 0))).app .nil) (dO.list (ze _) λ_=>rfl) ah;have d0:H2.boxes[h.boxes.length]?=aa (bm 32 (bT 0)):=x2.box _ _ (by rw[e0];exact bp _ _);have tl:(bP (eJ bh)).length=32:=by rw[lM,tM]
 have st1:b8 aj (H2.push (bm 32 (bT 0))) 177 (.ptr (.box H2.boxes.length) 0) (.agg (bP (eJ bh)))=aa (H2.push (bP (eJ bh))):=jt (yI _) qu tl rfl;have sx:dO 1 (H2.push (bP (eJ bh))) x (aX b):=((s.ext x0).ext x2).ext (Ext.push _ _);have sy:dO 1 (H2.push (bP (eJ bh))) (.arr H2.boxes.length 0 32 32) (aX (eJ bh)):=dO.box (ze _) (by rw[bJ,tM]) (by rw[HR];exact bp _ _);obtain⟨r3,H3,c3,y,rfl,x3,s3⟩:=aee .tight [.arr H2.boxes.length 0 32 32,x] [aX (eJ bh),aX b] rfl (H2.push (bP (eJ bh))) (λi z rs hz jh=>by
  rcases i with _|_|i
  ·injection hz with hz;injection jh with jh;subst hz;subst jh;exact sy
  ·injection hz with hz;injection jh with jh;subst hz;subst jh;exact sx
  ·cases hz) (by simp[tM];omega) bG
 have ef:[aX (eJ bh),aX b].flatten=aX (eJ bh++b):=by simp[aX]
 rw[ef] at s3;have bl:=acV _ x (dO.cell sy) (dO.cell sx);obtain⟨H4,c4,x4⟩:=Ys (eJ bh++b) y H3 s3 (by rw[du,tM];omega);have hX:Ext H2 H4:=(Ext.push _ _).trans (x3.trans x4);have d4:H4.boxes[h.boxes.length]?=aa (bm 32 (bT 0)):=hX.box _ _ d0;have tl2:(bP (fZ bh b)).length=32:=by rw[lM];exact tM _
 have st2:b8 aj H4 177 (.ptr (.box h.boxes.length) 0) (.agg (bP (fZ bh b)))=aa (H4.put h.boxes.length (bP (fZ bh b))):=by rw[fw (yI _) qu d4 tl2 bG,xn (by rw[tl2];simp)]
 have ld2:aF aj Gt (H4.put h.boxes.length (bP (fZ bh b))) 177 (.ptr (.box h.boxes.length) 0)=aa (.agg (bP (fZ bh b))):=by rw[jj C4 qu (ey (aQ.1 d4).1) (by rw[tl2];exact aJ _),iB,fK (by rw[tl2];exact aJ _)]
 replace c4:W.call 181 [y] H3=aa (.ret (.agg (bP (fZ bh b))),H4):=c4;have kX:=aq.mk (((x0.trans x2).trans hX).fI (aJ _) (bP (fZ bh b)));simp only[ev,uN] at c3;clear s sx sy s3 x0 e0 x2 x3 x4 hX d0 d4 ef tl tl2;refine ij rfl Tryz.func145 rfl ?_;refine eg @am8 @Tj @Yw ?_;exact⟨_,rfl,kX.out⟩
def Qe:Tryz.f78.results.toList=[.tmp 4]:=aw
def GG{b n}{k}(hn:n<32):dx aj 177 (.ptr (.box b) 0) (.v (.int k (n:Nat)))=aa (.ptr (.box b) n):=by have h1:aj.underlying 177=aa (.array 32 5):=Tryz.underlying177;unfold dx;simp only[h1,sH];rw[aD ⟨ah,by omega⟩];simp
def JO{H}{b i}{l}(hb:H.boxes[b]?=aa (bP l))(hi:i<l.length):aF aj Gt H 5 (.ptr (.box b) i)=aa (bT (dp l i)):=by rw[ma IB hb,Il,eR,a9 hi];unfold dp;rw[eQ,a9 hi];rfl
def FH(n)(h):mY aj h 5 3 (.v (.int .u8 n))=aa (.v (.int .i64 (IntKind.i64.wrap n)),h):=aw
def RZ(b):∀i,i<=b.length->jc b i=(b.take i).foldl (λn c=>n * 256+c.toNat) 0
 |0,_=>rfl
 |i+1,hi=>by
  rw[jc,RZ b i ah];have:b[i]?=aa (dp b i):=by unfold dp;rw[eQ,a9 ah];rfl
  rw[gx this,oL];rfl
def mask(b:List UInt8):List UInt8:=b.set 0 (dp b 0&&&127)
def JV{b}{i}(hb:0<b.length):dp (mask b) i=if i=0 then dp b 0&&&127 else dp b i:=by
 unfold mask dp;rw[eQ,mU];split
 ·rename_i h;subst h;simp[hb]
 ·rename_i h;rw[aG (λq=>h q.symm),eQ]
def L0(c:UInt8):(c&&&127).toNat=c.toNat%128:=by rw[UInt8.toNat_and];exact aaL c.toNat 7
def O1{b}(hb:0<b.length):∀i,jc (mask b) (i+1)=jc b (i+1)%(128 * 256^i)
 |0=>by show 0 * 256+(dp (mask b) 0).toNat=(0 * 256+(dp b 0).toNat)%128;rw[JV hb,aD rfl,L0];omega
 |i+1=>by
  rw[jc,O1 hb i,JV hb,aG ah,jc.eq_2 b (i+1)];have:=uI (dp b (i+1));generalize jc b (i+1)=A at *
  generalize (dp b (i+1)).toNat=r at *
  rw[AT,<-Nat.mul_assoc];have hM:0<128 * 256^i:=LH aO (LJ aO);generalize 128 * 256^i=M at *
  have h1:=mE A hM;have h2:=Nat.div_add_mod A M;have h3:A * 256+r=M * 256 * (A/M)+(A%M * 256+r):=by rw[Nat.mul_right_comm,<-Nat.add_assoc,<-fW,h2]
  rw[h3,Nat.mul_add_mod,nF (a:=A%M * 256+r) (b:=M * 256) (by have:(A%M+1) * 256<=M * 256:=Nat.mul_le_mul_right _ h1;rw[fW] at this;omega)]
def Wz{b}(hb:0<b.length){i}(hi:i<8):jc (mask b) i<36028797018963968:=by
 cases i with
 |zero=>show 0<_;decide|succ i=>
  rw[O1 hb];have h1:=mE (jc b (i+1)) (show 0<128 * 256^i from LH aO (LJ aO));have h2:256^i<=256^6:=aaY aO ah;have h3:256^6=281474976710656:=by decide
  omega
def hash_eq{b}(hb:8<=b.length):jc (mask b) 8%Q=nh b:=by unfold nh;rw[O1 ah 7,RZ b 8 hb]
def aoG{t}{x y}{n}(hn:n<36028797018963968):cQ aj .shl t x y (.v (.int .i64 (n:Nat))) (.v (.int .u64 8))=aa (.v (.int .i64 ((n * 256:Nat):Int))):=by rw[Mk aO];congr 3;show IntKind.i64.wrap (((n:Nat):Int) * 256)=_;rw[fh ah ah];omega
def ori{t}{x y}{n m}(hn:n<36028797018963968)(hm:m<256):cQ aj .or t x y (.v (.int .i64 ((n * 256:Nat):Int))) (.v (.int .i64 (m:Nat)))=aa (.v (.int .i64 ((n * 256+m:Nat):Int))):=by
 rw[Mj];congr 3;have e1:BitVec.ofInt IntKind.i64.bits ((n * 256:Nat):Int)=BitVec.ofNat 64 (n * 256):=by apply BitVec.eq_of_toNat_eq;show(BitVec.ofInt 64 ((n * 256:Nat):Int)).toNat=(BitVec.ofNat 64 (n * 256)).toNat;rw[BitVec.toNat_ofInt,BitVec.toNat_ofNat];omega
 have e2:BitVec.ofInt IntKind.i64.bits ((m:Nat):Int)=BitVec.ofNat 64 m:=by apply BitVec.eq_of_toNat_eq;show(BitVec.ofInt 64 ((m:Nat):Int)).toNat=(BitVec.ofNat 64 m).toNat;rw[BitVec.toNat_ofInt,BitVec.toNat_ofNat];omega
 have e3:(BitVec.ofNat 64 (n * 256)|||BitVec.ofNat 64 m).toNat=n * 256+m:=by
  rw[BitVec.toNat_or,BitVec.toNat_ofNat,BitVec.toNat_ofNat,nF (ah:n * 256<2^64),nF (ah:m<2^64)];have h1:n<<<8=n * 256:=by rw[AU]
  rw[<-h1,<-LK (ah:m<2^8)]
 have e4:(BitVec.ofInt IntKind.i64.bits ((n * 256:Nat):Int)|||BitVec.ofInt IntKind.i64.bits ((m:Nat):Int)).toNat=n * 256+m:=by rw[e1,e2];exact e3
 rw[e4,fh ah ah]
def abR{t}{x y}(c):cQ aj .and t x y (bT c) (.v (.int .u8 127))=aa (bT (c&&&127)):=by
 unfold bT;rw[sQ];congr 3;have hc:=uI c;have e1:BitVec.ofInt IntKind.u8.bits ((c.toNat:Nat):Int)=BitVec.ofNat 8 c.toNat:=by apply BitVec.eq_of_toNat_eq;show(BitVec.ofInt 8 ((c.toNat:Nat):Int)).toNat=(BitVec.ofNat 8 c.toNat).toNat;rw[BitVec.toNat_ofInt,BitVec.toNat_ofNat];omega
 have e3:(BitVec.ofInt IntKind.u8.bits ((c.toNat:Nat):Int)&&&BitVec.ofInt IntKind.u8.bits 127).toNat=c.toNat%128:=by rw[e1];show(BitVec.ofNat 8 c.toNat&&&127#8).toNat=_;rw[BitVec.toNat_and,BitVec.toNat_ofNat,nF (ah:c.toNat<2^8)];exact aaL c.toNat 7
 rw[e3,ML ah ah,L0]
def aiQ(l):(bP l).set 0 (bT (dp l 0&&&127))=bP (mask l):=by unfold mask bP;rw[List.map_set]
def afR(bh b:List UInt8)(x:AV)(h:ao)(s:dO 1 h x (aX b))(hb:b.length<=1099511620000)(ht:bh.length<=1099511620000):
 ∃h',W.call 78 [.v (.string (bs bh)),x] h=aa (.ret (im (nh (fZ bh b):Nat)),h')/\Ext h h':=by
 obtain⟨H1,c1,x1⟩:=aqe bh b x h s hb ht;have hl:(fZ bh b).length=32:=tM _;have cV:(bP (fZ bh b)).length=32:=by rw[lM,hl]
 have he:=hash_eq (b:=fZ bh b) ah;generalize fZ bh b=d at *
 have cY:0<d.length:=by omega
 have z177:=ED;have st1:b8 aj (H1.push (bm 32 (bT 0))) 177 (.ptr (.box H1.boxes.length) 0) (.agg (bP d))=aa (H1.push (bP d)):=jt (yI _) qu cV rfl;have ix0:dx aj 177 (.ptr (.box H1.boxes.length) 0) (.v (.int .i64 0))=aa (.ptr (.box H1.boxes.length) 0):=GG (n:=0) aO;have l0:aF aj Gt (H1.push (bP d)) 5 (.ptr (.box H1.boxes.length) 0)=aa (bT (dp d 0)):=JO (bp _ _) cY;have st2:b8 aj (H1.push (bP d)) 5 (.ptr (.box H1.boxes.length) 0) (bT (dp d 0&&&127))=aa (H1.push (bP (mask d))):=by rw[KJ (bp _ _) (by rw[cV];decide),aiQ,ss]
 have mL:(mask d).length=32:=by unfold mask;rw[nE,hl]
 have hX:=aq.mk (x1.trans (Ext.push H1 (bP (mask d))));have hB:=bp H1 (bP (mask d));have az:=λi hi=>Wz cY (i:=i) hi;have kB:=aq.mk hB;have klt:=aq.mk az;have ke:=aq.mk he;have kml:=aq.mk mL;clear s cV hl hB az he mL x1 cY;unfold im;refine ij rfl Tryz.func78 rfl ?_;refine cq @Qe @abR ?_;refine de (λm e H=>∃i:Nat,i<=8/\m=8 - i/\e.get 5=.ptr (.box H1.boxes.length) 0/\e.get 14=.v (.int .i64 i)/\e.get 4=.v (.int .i64 (jc (mask d) i:Nat))/\e.defers=[]/\H=H1.push (bP (mask d))) ?_ 8 _ _ ?_;rotate_left 1
 ·refine⟨0,by decide,rfl,?_,?_,?_,?_,rfl⟩<;>(first|assumption|(exact gR))
 clear z177 st1 ix0 l0 st2 c1;rintro m e H ⟨i,hi,rfl,g5,g14,g4,hd,rfl⟩;by_cases h8:i=8
 ·subst h8;have e1:(((jc (mask d) 8:Nat):Int)).tmod 1073741789=((nh d:Nat):Int):=by rw[<-ke.out];exact o9 _ _
  generalize jc (mask d) 8=A at *
  refine bR @Qe ?_;exact⟨_,rfl,hX.out⟩
 ·have az:i<8:=by omega
  have a1:=klt.out i az;have u1:=uI (dp (mask d) i);have ix:=GG (b:=H1.boxes.length) (n:=i) (k:=.i64) ah;have ld:aF aj Gt (H1.push (bP (mask d))) 5 (.ptr (.box H1.boxes.length) i)=aa (.v (.int .u8 ((dp (mask d) i).toNat:Nat))):=JO kB.out (by have:=kml.out;omega);have ew:IntKind.i64.wrap (((dp (mask d) i).toNat:Nat):Int)=(((dp (mask d) i).toNat:Nat):Int):=fh ah ah;have s1:=λt x y=>aoG (t:=t) (x:=x) (y:=y) a1;have s2:=λt x y=>ori (t:=t) (x:=x) (y:=y) a1 u1;have kstep:=aq.mk (show jc (mask d) (i+1)=jc (mask d) i * 256+(dp (mask d) i).toNat from rfl);generalize jc (mask d) i=A at *
  generalize (dp (mask d) i).toNat=r at *
  refine cq @Qe @FH ?_;exact⟨8 - (i+1),by omega,i+1,by omega,rfl,by trivial,rfl,by rw[kstep.out],by trivial,by trivial⟩
end Go.Proofs.YtnfciiiohoafaaaGreatDoor
end
section
namespace Go.AE
structure Grown(n0:Nat)(h h':ao)(t:Tok):Prop where
 box:∀(b:Nat) (cs:List AV),h.boxes[b]?=aa cs->h'.boxes[b]?=aa cs
 loop:∀(l:Nat) (r:gZ),h.loops[l]?=aa r->h'.loops[l]?=aa r
 can:dQ n0 h' t
 ok:dj h'=ai
 tn:h.tn<=h'.tn
 dead:∀n,n<n0->n∈h'.dead->n∈h.dead
section
variable {n0:Nat} {h0 h h' h2:ao} {t k:Tok}
def Grown.refl(hk:dQ n0 h k)(ho:dj h=ai):Grown n0 h h k:=⟨λ_ _ q=>q,λ_ _ q=>q,hk,ho,aJ _,λ_ _ q=>q⟩
def Grown.trans(g:Grown n0 h h' t)(g2:Grown n0 h' h2 k):Grown n0 h h2 k:=
 ⟨λb cs q=>g2.box b cs (g.box b cs q),λb cs q=>g2.loop b cs (g.loop b cs q),g2.can,g2.ok,fc g.tn g2.tn,λn hn q=>g.dead n hn (g2.dead n hn q)⟩
def Grown.ext(g:Grown n0 h h' t)(x:Ext h0 h)(hn:h0.tn<=n0):Ext h0 h':=
 ⟨λb cs hb=>g.box b cs (x.box b cs hb),λl r hl=>g.loop l r (x.loop l r hl),fc x.tn g.tn,λn q hd=>x.dead n q (g.dead n (mD q hn) hd),λ_=>g.ok⟩
def abW(ho:dj h=ai)(hk:dQ n0 h k):dj (h.app k)=ai:=by
 unfold dj at *
 rw[eE] at *
 intro n hn;rcases hk with rfl|rfl|⟨m,rfl,-,ha⟩
 ·exact cz (vV (of_decide_eq_true (ho n hn)))
 ·exact cz (vV (of_decide_eq_true (ho n hn)))
 ·rcases jm.1 hn with rfl|q
  ·exact cz (vV (uP ha))
  ·exact cz (vV (of_decide_eq_true (ho n q)))
def Grown.one(hk:dQ n0 h k)(ho:dj h=ai)(hn:n0<=h.tn):Grown n0 h (h.app k) (.free h.tn):=by
 refine⟨λb cs q=>by rw[eS];exact q,λb cs q=>by rw[wc];exact q,hk.next ho hn,abW ho hk,by rw[Fp];omega,λn q hd=>?_⟩;rcases hk with rfl|rfl|⟨m,rfl,hm,ha⟩
 ·exact hd
 ·exact hd
 ·rcases jm.1 hd with rfl|hd
  ·omega
  ·exact hd
def Grown.push(g:Grown n0 h h' t)(cs:List AV):Grown n0 h (h'.push cs) t:=⟨λb cs q=>aZ (g.box b cs q),g.loop,g.can,g.ok,g.tn,g.dead⟩
def Grown.app(g:Grown n0 h h' t)(hn:n0<=h.tn):Grown n0 h (h'.app t) (.free h'.tn):=g.trans (Grown.one g.can g.ok (fc hn g.tn))
variable {P:bB} {t0 t1 elem:aH} {i:TypeInfo} {sz:Nat} {es new:List (List AV)} {x:AV}
def Fq(h0:P.underlying t0=aa (.slice elem))(h1:(∃e,P.underlying t1=aa (.slice e))∨P.underlying t1=aa .string)(hi:P.info? elem=aa i)(dV:0<i.size)(hz:(i.zero.map λz=>z.cells.size)=aa i.size)
 (hx:mw h i.size x=aa new) (lv:new≠[]) (hb:(es.length+new.length) * i.bytes<=140737488355328) (hl:es.length+new.length<=9223372036854775807) (hs:sz=i.size∨(es=[]/\k=.nil)) (hk:dQ n0 h k):
 gd P h #[t0,t1] (.list k sz es) x=aa (.list (.free h.tn) i.size (es++new),h.app k):=by
 unfold gd;rcases h1 with⟨e,h1⟩|h1
 all_goals
  simp only[ja,jD,pc,oa,h0,h1,hi,hx];rw[aD ⟨dV,hz⟩,aD (hs.imp_right λq=>q.1),aG lv,aD ⟨hb,hl⟩];rcases hk with rfl|rfl|⟨m,rfl,-,ha⟩
  ·rfl
  ·rfl
  ·have hs:sz=i.size:=by
    rcases hs with hs|⟨-,hs⟩
    ·exact hs
    ·cases hs
   simp only[ha,hs,decide_true,Bool.and_self,if_true];rfl
def Sh(h0:P.underlying t0=aa (.slice elem))(h1:(∃e,P.underlying t1=aa (.slice e))∨P.underlying t1=aa .string)(hi:P.info? elem=aa i)(dV:0<i.size)(hz:(i.zero.map λz=>z.cells.size)=aa i.size)
 (hx:mw h i.size x=aa []) (hs:sz=i.size∨es=[]):gd P h #[t0,t1] (.list k sz es) x=aa (.list k sz es,h):=by
 unfold gd;rcases h1 with⟨e,h1⟩|h1
 ·simp only[ja,jD,pc,oa,h0,h1,hi,hx];rw[aD ⟨dV,hz⟩,aD hs,aD trivial]
 ·simp only[ja,jD,pc,oa,h0,h1,hi,hx];rw[aD ⟨dV,hz⟩,aD hs,aD trivial]
end
end Go.AE
end
section
namespace Go.AE
open Go.RowKit (Below)
mutual
def gJ(h:ao):AV->AV
 | .list k sz es=>.list (ct k) sz es
 | .arr b off len _=>match h.boxes[b]? with
  |some cs=>if off+len<=cs.length then .list .held 1 (((cs.drop off).take len).map λc=>[c]) else .bad
  |none=>.bad
 | .tuple cs=>.tuple (vp h cs)
 | .agg cs=>.agg (vp h cs)
 |x=>x
def vp(h:ao):List AV->List AV
 | []=>[]
 |x::r=>gJ h x::vp h r
end
def D6(R:Rec)(g:bq)(args:List AV):Option AV:=
 if bg 0 0 0 (cA args)=ai then
  match R.call g (cA args) ⟨[],[],0,[]⟩ with
  |some (.ret y,h2)=>if aW 0 0 0 (gJ h2 y)=ai then aa (gJ h2 y) else au
  |_=>au
 else au
def C8(R:Rec)(g:bq)(args:List AV)(h:ao):Option (AV × ao):=(D6 R g args).map (·,h)
def KD:∀l:List AV,(l.map λc=>[c]).flatten=l
 | []=>rfl
 |x::l=>by rw[ev,oK,KD l];rfl
section
variable {P:bB} {G:Nat->Option (List AV)} {ok:bq->Nat->Code->Bool} {w0 w w':World} {K K1 K2:aP} {h h2:ao}
mutual
def aU.mn(jB:∀g j c,K1.ic g j=aa c->K2.ic g j=aa c):∀{x:AV} {c:aL},aU K1 x c->aW 0 0 0 x=ai->aU K2 x c
 |_,_,.bad c,_=>.bad c
 |_,_,.v x hx,_=>.v x hx
 |_,_,.nil sz,_=>.nil sz
 |_,_,.iY sz a,_=>.iY sz a
 |_,_,.list k sz es g off m aA cells hn hr hv hc ht ha,h=>by
  rw[aW,bA] at h;refine .list k sz es g off m aA cells hn hr (aM.mn jB hv (by rw[sX];exact h.2)) (λj c hj=>jB _ _ _ (hc j c hj)) ⟨ht.1,?_⟩ ha;have h1:=h.1;have h2:=ht.2;cases k with|free i=>simp[AD] at h1|_=>exact h2
 |_,_,.arr _ _ _ _ _ _ _ _ _ _ _ _,h=>by simp[aW] at h
 |_,_,.agg cs vs hv,h=>.agg cs vs (aM.mn jB hv (by rw[aW] at h;exact h))
 |_,_,.tuple cs vs hv,h=>.tuple cs vs (aM.mn jB hv (by rw[aW] at h;exact h))
 |_,_,.box _ _ _ _,h=>by simp[aW] at h
 |_,_,.eG g off,_=>.eG g off
 |_,_,.elem sz es i off g o p cells hr hv hc hi hp ha,h=>.elem sz es i off g o p cells hr (aM.mn jB hv (by rw[sX];rw[aW] at h;exact h)) (λj c hj=>jB _ _ _ (hc j c hj)) hi hp ha
 |_,_,.func fn first aA fs cs h1 h2,h=>.func fn first aA fs cs (aM.mn jB h1 (by rw[aW,bA] at h;exact h.1)) (aM.mn jB h2 (by rw[aW,bA] at h;exact h.2))
 |_,_,.yield _ _ _,h=>by simp[aW] at h
 |_,_,.iface t x c hx,h=>.iface t x c (aU.mn jB hx (by rw[aW] at h;exact h))
def aM.mn(jB:∀g j c,K1.ic g j=aa c->K2.ic g j=aa c):∀{xs:List AV} {cs:List aL},aM K1 xs cs->bg 0 0 0 xs=ai->aM K2 xs cs
 |_,_,.nil,_=>.nil
 |_,_,.cons x c xs cs hx hs,h=>.cons x c xs cs (aU.mn jB hx (by rw[bg,bA] at h;exact h.1)) (aM.mn jB hs (by rw[bg,bA] at h;exact h.2))
end
mutual
def aU.oD(s1:bN K1 G ok w h2 w')(jB:∀g j c,K1.ic g j=aa c->K2.ic g j=aa c)(lv:∀g j c,K1.base<=g->w'.cell? ⟨g,j,au⟩=aa c->K2.ic g j=aa c):
 ∀{x:AV} {c:aL},aU K1 x c->aW 0 0 0 (gJ h2 x)=ai->aU K2 (gJ h2 x) c
 |_,_,.bad c,_=>.bad c
 |_,_,.v x hx,_=>.v x hx
 |_,_,.nil sz,_=>.nil sz
 |_,_,.iY sz a,_=>.iY sz a
 |_,_,.list k sz es g off m aA cells hn hr hv hc ht ha,h=>by
  have hf:iU 0 0 0 es=ai:=by simp only[gJ,aW,bA] at h;exact h.2
  have pG:aM K2 es.flatten cells:=aM.mn jB hv (by rw[sX];exact hf);cases k with|nil=>exact ht.2.elim|tight=>exact .list .tight sz es g off m aA cells hn hr pG (λj c hj=>jB _ _ _ (hc j c hj)) ⟨ht.1,ht.2⟩ ha|free i=>exact .list .held sz es g off m aA cells hn hr pG (λj c hj=>jB _ _ _ (hc j c hj)) ⟨ht.1,aT⟩ ha|held=>exact .list .held sz es g off m aA cells hn hr pG (λj c hj=>jB _ _ _ (hc j c hj)) ⟨ht.1,aT⟩ ha
 |_,_,.arr b g off len aA fi hJ hb hl oV ho hr,h=>by
  simp only[gJ] at h ⊢;cases bZ:h2.boxes[b]? with
  |none=>exact .bad _|some cs=>
   rw[bZ] at h;simp only at h ⊢;split at h
   ·rename_i eC;rw[aD eC];have hf:iU 0 0 0 (((cs.drop off).take len).map λc=>[c])=ai:=(by simp only[aW,bA] at h;exact h.2);obtain⟨q1,q2,q3,cells,e,q4,q5⟩:=s1.box b g cs hb bZ;have ag2:=q5.le;by_cases h0:aA=0
    ·have:len=0:=(by omega);subst this;exact .list .held 1 [] g fi 0 hJ [] rfl (λ_ h=>by cases h) .nil (λ_ _ h=>by simp at h) ⟨df _,aT⟩ rfl
    ·have zV:fi=off:=by rcases ho with p|p<;>omega
     subst zV;have hv:aM K1 ((cs.drop fi).take len) (((cells.toList.take cs.length).drop fi).take len):=(q5.1.drop fi).take len;have bO:((cs.drop fi).take len).length=len:=(by rw[fb,gE];omega);refine .list .held 1 _ g fi len hJ (((cells.toList.take cs.length).drop fi).take len) (by rw[bJ,bO]) (λr hr=>?_) ?_ (λj c hj=>?_) ⟨ah,aT⟩ ?_
     ·obtain⟨c,-,rfl⟩:=jE.1 hr;rfl
     ·rw[KD];rw[<-sX,KD] at hf;exact aM.mn jB hv hf
     ·refine lv _ _ _ q1 ?_;have oW:j<len:=(by have:=(aQ.1 hj).1;rw[fb] at this;omega);rw[nU,aD oW,pR,nU,aD ah] at hj;rw[rJ q4];simpa using hj
     ·rw[KD];rw[eE] at q3 ⊢;exactλx hx=>q3 x (List.mem_of_mem_drop (pS hx))
   ·rename_i eC;rw[aG eC];exact .bad _
 |_,_,.agg cs vs hv,h=>.agg _ vs (aM.oD s1 jB lv hv (by simpa only[gJ,aW] using h))
 |_,_,.tuple cs vs hv,h=>.tuple _ vs (aM.oD s1 jB lv hv (by simpa only[gJ,aW] using h))
 |_,_,.box b g off hb,h=>by simp[gJ,aW] at h
 |_,_,.eG g off,_=>.eG g off
 |_,_,.elem sz es i off g o p cells hr hv hc hi hp ha,h=>.elem sz es i off g o p cells hr (aM.mn jB hv (by rw[sX];simpa only[gJ,aW] using h)) (λj c hj=>jB _ _ _ (hc j c hj)) hi hp ha
 |_,_,.func fn first aA fs cs h1 h2,h=>by simp only[gJ,aW,bA] at h;exact .func fn first aA fs cs (aM.mn jB h1 h.1) (aM.mn jB h2 h.2)
 |_,_,.yield l g hl,h=>by simp[gJ,aW] at h
 |_,_,.iface t x c hx,h=>by simp only[gJ,aW] at h;exact .iface t x c (aU.mn jB hx h)
def aM.oD(s1:bN K1 G ok w h2 w')(jB:∀g j c,K1.ic g j=aa c->K2.ic g j=aa c)(lv:∀g j c,K1.base<=g->w'.cell? ⟨g,j,au⟩=aa c->K2.ic g j=aa c):
 ∀{xs:List AV} {cs:List aL},aM K1 xs cs->bg 0 0 0 (vp h2 xs)=ai->aM K2 (vp h2 xs) cs
 |_,_,.nil,_=>.nil
 |_,_,.cons x c xs cs hx hs,h=>by simp only[vp,bg,bA] at h;exact .cons _ c _ cs (aU.oD s1 jB lv hx h.1) (aM.oD s1 jB lv hs h.2)
end
def aP.sees(K:aP)(n:Nat)(w:World):aP:={K with ic:=λg j=>if g<n then K.ic g j else w.cell? ⟨g,j,au⟩}
def aP.OV(s:bN K G ok w0 h w):K.Le (K.sees w.heap.size w'):=by
 refine⟨rfl,λg j c hc=>?_,λ_ _ h=>h,λ_ _ h=>h,aJ _,λ_ _=>rfl,λ_ h=>h,λ_ _=>rfl,λg j c hc=>?_⟩
 ·simp only[aP.sees,aD (s.Aj hc),hc]
 ·simp only[aP.sees] at hc;split at hc
  ·exact .inl hc
  ·exact .inr (by have:=s.size;omega)
def bN.sees(s:bN K G ok w0 h w)(b:Below w.heap.size w w'):bN (K.sees w.heap.size w') G ok w0 h w':=by
 have g:=s.grown b;have le:K.Le (K.sees w.heap.size w'):=aP.OV s;refine⟨g.cZ,g.size,λg1 j c hc=>?_,λg1 cs hg=>?_,g.lj,g.pQ,λb1 g1 cs hb hc=>?_,g.nS,g.qw,λl g1 r hl hr=>?_,g.tn,λt ht=>?_,g.pN,g.md,g.all⟩
 ·simp only[aP.sees] at hc;split at hc
  ·exact g.ic g1 j c hc
  ·exact hc
 ·obtain⟨cells,q1,q2⟩:=g.eG g1 cs hg;exact⟨cells,q1.mono le,λj c hj=>le.ic _ _ _ (q2 j c hj)⟩
 ·obtain⟨q1,q2,q3,cells,e,q4,q5⟩:=g.box b1 g1 cs hb hc;obtain⟨-,-,-,cells0,e0,p4,-⟩:=s.box b1 g1 cs hb hc;refine⟨q1,λj=>?_,q3,cells,e,q4,q5.mono le (aQ.1 hb).1⟩;simp only[aP.sees,aD (oF p4)];exact q2 j
 ·obtain⟨q1,fn,tmps,d,q2,q3,q4⟩:=g.loop l g1 r hl hr;exact⟨q1,fn,tmps,d,q2,q3.mono le,q4⟩
 ·obtain⟨q1,q2,q3,q4⟩:=g.tok t ht;obtain⟨-,-,-,cells0,e0,z0,p4,-⟩:=s.tok t ht;refine⟨q1,q2,λj hj=>?_,q4⟩;simp only[aP.sees,aD (oF p4)];exact q3 j hj
def aP.alone(K:aP)(n:Nat):aP:={K with base:=n,β:=[],γ:=[],tn:=0,md:=[]}
def bN.alone(s:bN K G ok w0 h w)(hG:∀g cs,G g=aa cs->bg 0 0 0 cs=ai):bN (K.alone w.heap.size) G ok w ⟨[],[],0,[]⟩ w:=by
 refine⟨Below.refl _ _,aJ _,s.ic,λg cs hg=>?_,rfl,λb b' g hb=>by simp[aP.alone] at hb,λb g cs hb=>by simp[aP.alone] at hb,rfl,λb b' g hb=>by simp[aP.alone] at hb,λl g r hl=>by simp[aP.alone] at hl,rfl,λt ht=>?_,λt t' ht=>?_,λr hr=>by simp[aP.alone] at hr,rfl⟩
 ·obtain⟨cells,q1,q2⟩:=s.eG g cs hg;exact⟨cells,aM.mn (K1:=K) (K2:=K.alone w.heap.size) (λ_ _ _ h=>h) q1 (hG g cs hg),q2⟩
 ·simp[alive] at ht
 ·simp[alive] at ht
def SP{aK:bq->Option (List AV->ao->Option (AV × ao))}(hp:Prog P)(hG:∀g cs,G g=aa cs->bg 0 0 0 cs=ai)(oA:∀V g p,aK g=aa p->sP P G V g p){g:bq}(gG:∃fn,P.funcs[g]?=aa fn/\fn.body.isSome=ai)(V:World):
 sP P G V g (C8 (whole P G aK) g):=by
 refine⟨gG,λargs h x h' hx K w fa hv hs cs=>?_⟩;unfold C8 D6 at hx;split at hx
 ·rename_i hf;split at hx
  ·rename_i y h2 hc;split at hx
   ·rename_i zN;simp only[eX,dE,cW] at hx;obtain⟨rfl,rfl⟩:=hx;obtain⟨-,Gw⟩:=(QV hp (oA w)).call g _ _ _ _ hc;have s0:=bN.alone hs hG;obtain⟨K1,w',fr,le,s1,cd,wP,v,qi,eC⟩:=Gw (K.alone w.heap.size) w fa (aM.mn (K1:=K) (K2:=K.alone w.heap.size) (λ_ _ _ h=>h) hv.hold hf) s0 cs;have hb:Below w.heap.size w w':=(by have:=s1.cZ;rwa [le.base] at this);refine⟨.returned v,w',fr,⟨v,_,rfl,aP.OV hs,aU.oD (K2:=K.sees w.heap.size w') s1 (λg j c hc=>?_) (λg j c hg hc=>?_) qi zN,bN.sees hs hb⟩,cd,wP,eC⟩
    ·rcases le.new g j c hc with q|q
     ·have:g<w.heap.size:=hs.Aj q;simp only[aP.sees,aD this];exact q
     ·have q:w.heap.size<=g:=q;simp only[aP.sees,aG (ah:¬g<w.heap.size)];exact s1.ic g j c hc
    ·have q:w.heap.size<=g:=(by rw[le.base] at hg;exact hg);simp only[aP.sees,aG (ah:¬g<w.heap.size)];exact hc
   ·cases hx
  ·cases hx
 ·cases hx
def tX(R:Rec)(L:List bq)(g:bq):Option (List AV->ao->Option (AV × ao)):=if L.contains g=ai then aa (C8 R g) else au
def C9{aK:bq->Option (List AV->ao->Option (AV × ao))}(hp:Prog P)(hG:∀g cs,G g=aa cs->bg 0 0 0 cs=ai)(oA:∀V g p,aK g=aa p->sP P G V g p){L:List bq}(hL:∀g∈L,∃fn,P.funcs[g]?=aa fn/\fn.body.isSome=ai):
 ∀V g p,tX (whole P G aK) L g=some p->sP P G V g p:=by
 intro V g p he;unfold tX at he;split at he
 ·rename_i hg;injection he with he;subst he;exact SP hp hG oA (hL g (by simpa using hg)) V
 ·cases he
def cC{R:Rec}{L:List bq}{g:bq}{args dL:List AV}{x y:AV}{h1:ao}(hg:L.contains g=ai)(ha:cA args=dL)(hf:bg 0 0 0 dL=ai)(hc:R.call g dL ⟨[],[],0,[]⟩=aa (.ret y,h1))(hy:gJ h1 y=x)(hx:aW 0 0 0 x=ai):
 ∀h,(whole P G (tX R L)).call g args h=aa (.ret x,h):=by
 intro h;subst ha;subst hy;rw[HU];unfold qK tX;rw[aD hg];simp only[C8,D6,aD hf,hc,aD hx,eX]
end
end Go.AE
end
section
namespace Go.AE
def Pf(P:bB)(s d:aH):Bool:=
 match P.underlying s,P.underlying d with
 |some (.int _),aa (.int _)=>ai
 |_,_=>ay
def Mt(P:bB)(ops:Array Oper)(L:List bq)(k:Nat):Bool:=
 match ops[k]? with
 |some o=>o.guard.isNone&&match o.op with
  | .call {callee:=.value (.func f),.. }=>L.contains f
  | .call {callee:=.builtin .max,.. }=>ai
  | .call {callee:=.builtin .min,.. }=>ai
  | .convert s d _=>Pf P s d
  |_=>ay
 |none=>ay
def Mu(P:bB)(ops:Array Oper)(L:List bq):List Nat:=(bL ops.size).filter (Mt P ops L)
section
variable {P:bB} {G:Nat->Option (List AV)} {aK:bq->Option (List AV->ao->Option (AV × ao))} {Q:Xt->Env->ao->Prop} {e:Env} {h:ao} {L:List bq}
def tQ(aK:bq->Option (List AV->ao->Option (AV × ao)))(L:List bq):Prop:=∀g∈L,∃q:List AV->Option AV,aK g=aa λargs h=>(q args).map (·,h)
def FC{R:Rec}:tQ (tX R L) L:=λg hg=>⟨D6 R g,by unfold tX;rw[aD (by simpa using hg)];rfl⟩
def ai9{s d:aH}{x:AV}(hn:Pf P s d=ai):∃q:Option AV,∀hm,mY P hm s d x=q.map (·,hm):=by
 unfold Pf at hn;split at hn
 ·rename_i k1 k2 h1 h2;unfold mY;simp only[h1,h2];cases x<;>first|exact⟨au,λhm=>rfl⟩|exact⟨_,λhm=>rfl⟩
 ·cases hn
def acg{hm:ao}{ts:Array aH}{ty:aH}{xs:List AV}:jn P hm .max ts ty xs=(match flatAll xs with|some l=>(fj P (Builtin.max_ ts ty l.toArray)).bind nR|none=>au).map (·,hm):=by rcases xs with _|⟨x,_|⟨y,xs⟩⟩<;>(unfold jn;simp only[];cases flatAll _<;>rfl)
def ach{hm:ao}{ts:Array aH}{ty:aH}{xs:List AV}:jn P hm .min ts ty xs=(match flatAll xs with|some l=>(fj P (Builtin.min_ ts ty l.toArray)).bind nR|none=>au).map (·,hm):=by rcases xs with _|⟨x,_|⟨y,xs⟩⟩<;>(unfold jn;simp only[];cases flatAll _<;>rfl)
def IJ{o:Oper}(hg:o.guard=au)(hq:zj o.op=ai)(bI:∀er:Env,∃q:Option AV,∀hm,dY P G (whole P G aK) er hm o=q.map λx=>(.ret x,er,hm)){ops:Array Oper}{en:Env}{hn:ao}
 (eI:da P G (whole P G aK) ops (bL ops.size) e h=aa (.normal,en,hn)) {k:Nat} (ho:ops[k]?=aa o):zl P G (whole P G aK) ops e h k:=by
 have Va:k<ops.size:=(Array.getElem?_eq_some_iff.1 ho).1;obtain⟨-,tr,st⟩:=trace eI;obtain⟨s1,-⟩:=st k Va;obtain⟨q,rV⟩:=bI (cR P G (whole P G aK) ops e h k).1;unfold jM at s1;simp only[ho,fg,hg,rV] at s1;cases hx:q with|none=>rw[hx] at s1;simp at s1|some x=>exact⟨o,x,_,_,ho,hq,tr k (Nat.le_of_lt Va),λm hm=>⟨_,_,tr m hm,by rw[rV,hx];rfl⟩⟩
def SQ{ops:Array Oper}(hL:tQ aK L){en:Env}{hn:ao}(eI:da P G (whole P G aK) ops (bL ops.size) e h=aa (.normal,en,hn)){k:Nat}(hk:Mt P ops L k=ai):zl P G (whole P G aK) ops e h k:=by
 unfold Mt at hk;split at hk
 ·rename_i o ho;simp only[bA,Option.isNone_iff_eq_none] at hk;obtain⟨hg,hk⟩:=hk;split at hk
  ·rename_i f args ts bI;obtain⟨q,hq⟩:=hL f (by simpa using hk);refine IJ hg (by rw[bI];rfl) (λer=>⟨q (args.toList.map er.eval),λhm=>?_⟩) eI ho;have:dY P G (whole P G aK) er hm o=(lO P (whole P G aK) er hm {callee:=.value (.func f),args,argTypes:=ts}).map λ(r,h1)=>(r,er,h1):=(by unfold dY;rw[bI]);rw[this,SJ,HU];unfold qK;rw[hq];simp only[LM];rfl
  ·rename_i args ts bI;refine IJ hg (by rw[bI];rfl) (λer=>⟨match flatAll (args.toList.map er.eval) with|some l=>(fj P (Builtin.max_ ts o.type l.toArray)).bind nR|none=>au,λhm=>?_⟩) eI ho
   ·unfold dY;simp only[bI];show(jn P hm .max ts o.type (args.toList.map er.eval)).map _=_;rw[acg,LM];rfl
  ·rename_i args ts bI;refine IJ hg (by rw[bI];rfl) (λer=>⟨match flatAll (args.toList.map er.eval) with|some l=>(fj P (Builtin.min_ ts o.type l.toArray)).bind nR|none=>au,λhm=>?_⟩) eI ho
   ·unfold dY;simp only[bI];show(jn P hm .min ts o.type (args.toList.map er.eval)).map _=_;rw[ach,LM];rfl
  ·rename_i s d x bI;refine IJ hg (by rw[bI];rfl) (λer=>?_) eI ho;obtain⟨q,hq⟩:=ai9 (P:=P) (x:=er.eval x) hk;refine⟨q,λhm=>?_⟩;unfold dY;simp only[bI,dK,hq,LM];rfl
  ·cases hk
 ·cases hk
def oG{id:Nat}{ops:Array Oper}(ps:List (Nat × Nat))(hL:tQ aK L)(hd:De ops (Mu P ops L) ps=ai)(hs:∀p∈ps,lJ P G (whole P G aK) ops e h p.1 p.2=ai)
 (hr:cJ P G (whole P G aK) ops ops.toList e h (xT Q)):bM (whole P G aK) (.region id ops ai) e h Q:=by
 have fN:=hr;obtain⟨o,en,hn,h1,h2⟩:=fN;cases o with
 |normal=>
  have eI:da P G (whole P G aK) ops (bL ops.size) e h=aa (.normal,en,hn):=by rw[sf (aJ _),<-Array.length_toList,gM];exact h1
  exact Qm (MJ hd (λk hk=>SQ hL eI (xG.1 hk).2) hs) hr
 |_=>exact h2.elim
def fQ{id:Nat}{ops:Array Oper}(hL:tQ aK L)(hd:De ops (Mu P ops L) []=ai)
 (hr:cJ P G (whole P G aK) ops ops.toList e h (xT Q)):bM (whole P G aK) (.region id ops ai) e h Q:=oG [] hL hd (λp hp=>nomatch hp) hr
end
end Go.AE
end
section
namespace Go.AE
structure fT(S:List Nat)(n0:Nat)(h h':ao):Prop where
 box:∀(c:Nat) (cs:List AV),c∉S->h.boxes[c]?=aa cs->h'.boxes[c]?=aa cs
 len:h.boxes.length<=h'.boxes.length
 loop:∀(l:Nat) (r:gZ),h.loops[l]?=aa r->h'.loops[l]?=aa r
 tn:h.tn<=h'.tn
 dead:∀n,n<n0->n∈h'.dead->n∈h.dead
 ok:dj h=ai->dj h'=ai
section
variable {S S':List Nat} {n0:Nat} {h0 h h' h2:ao}
def fT.refl:fT S n0 h h:=⟨λ_ _ _ q=>q,aJ _,λ_ _ q=>q,aJ _,λ_ _ q=>q,λq=>q⟩
def fT.trans(m:fT S n0 h h')(k:fT S n0 h' h2):fT S n0 h h2:=
 ⟨λc cs hc hb=>k.box c cs hc (m.box c cs hc hb),fc m.len k.len,λl r q=>k.loop l r (m.loop l r q),fc m.tn k.tn,λn hn q=>m.dead n hn (k.dead n hn q),λq=>k.ok (m.ok q)⟩
def fT.mono(m:fT S n0 h h')(hs:∀b∈S,b∈S'):fT S' n0 h h':=⟨λc cs hc=>m.box c cs λq=>hc (hs c q),m.len,m.loop,m.tn,m.dead,m.ok⟩
def fT.put{b:Nat}(hb:b∈S)(cs:List AV):fT S n0 h (h.put b cs):=
 ⟨λc ds hc q=>by rw[cP (λ(e:c=b)=>hc (by rw[e];exact hb))];exact q,by rw[mc];exact aJ _,λ_ _ q=>q,aJ _,λ_ _ q=>q,λq=>q⟩
def fT.fI(m:fT S n0 h h'){b:Nat}(hb:h.boxes.length<=b)(cs:List AV):fT S n0 h (h'.put b cs):=
 ⟨λc ds hc q=>by have:=(aQ.1 q).1;rw[cP ah];exact m.box c ds hc q,by rw[mc];exact m.len,m.loop,m.tn,m.dead,m.ok⟩
def fT.push(m:fT S n0 h h')(cs:List AV):fT S n0 h (h'.push cs):=
 ⟨λc ds hc q=>aZ (m.box c ds hc q),by rw[cH];exact Nat.le_succ_of_le m.len,m.loop,m.tn,m.dead,m.ok⟩
def fT.Ai(m:fT S n0 h h')(r:gZ):fT S n0 h (h'.loop r):=⟨m.box,m.len,λl q hq=>Wv (m.loop l q hq),m.tn,m.dead,m.ok⟩
def fT.eH(m:fT S n0 h h'){l:Nat}(hl:h.loops.length<=l)(r:gZ):fT S n0 h (h'.eH l r):=
 ⟨m.box,m.len,λk q hq=>by have:=(aQ.1 hq).1;rw[Yp ah];exact m.loop k q hq,m.tn,m.dead,m.ok⟩
def fT.Cj(x:Ext h h')(hn:n0<=h.tn):fT S n0 h h':=⟨λc cs _ hb=>x.box c cs hb,x.len,x.loop,x.tn,λn hl hd=>x.dead n (mD hl hn) hd,x.ok⟩
def fT.tO{n1:Nat}(m:fT S n1 h h')(hn:n0<=n1):fT S n0 h h':=⟨m.box,m.len,m.loop,m.tn,λn hl hd=>m.dead n (mD hl hn) hd,m.ok⟩
def Ext.O9(x:Ext h0 h)(m:fT S h0.tn h h')(hb:∀b∈S,h0.boxes.length<=b):Ext h0 h':=
 ⟨λc cs q=>m.box c cs (λhc=>by have:=hb c hc;have:=(aQ.1 q).1;omega) (x.box c cs q),λl r q=>m.loop l r (x.loop l r q),fc x.tn m.tn,λn hn hd=>x.dead n hn (m.dead n hn hd),λq=>m.ok (x.ok q)⟩
def Grown.O9{t:Tok}(g:Grown n0 h h' t):fT S n0 h h':=⟨λc cs _ q=>g.box c cs q,by
 rcases dT h'.boxes.length h.boxes.length with az|eo
 ·have h1:=g.box h'.boxes.length _ (a9 az);have:=(aQ.1 h1).1;omega
 ·exact eo,g.loop,g.tn,g.dead,λ_=>g.ok⟩
end
section
variable {P:bB} {G:Nat->Option (List AV)} {aK:bq->Option (List AV->ao->Option (AV × ao))} {H:ao} {l:Nat} {rec:gZ} {args:List AV}
def amP{Post:ao->Prop}(hr:H.loops[l]?=aa rec)(hs:rec.params.size=args.length)(cd:rec.state=.ready)(hp:rec.pending=au)
 (ha:bM (whole P G aK) rec.assign (mT l rec args) H (λo e1 h1=>o=.normal/\h1=H/\bM (whole P G aK) rec.body e1 (H.busy l rec) (λo _ h2=>o=.normal/\h2.loops=(H.busy l rec).loops/\Post {h2 with loops:=H.loops}))):
 ∃H',(whole P G aK).round l args H=aa (.ret (.v (.bool ai)),H')/\H'.loops=H.loops/\Post H':=by
 obtain⟨o,e1,h1,q1,rfl,rfl,o2,e2,h2,q2,rfl,q3,q4⟩:=ha;have dy:=(aQ.1 hr).1;have hb:(h1.busy l rec).loops[l]?=aa {rec with state:=.busy}:=by show(h1.loops.set l _)[l]?=_;simp[dy]
 refine⟨{h2 with loops:=h1.loops},Ki hr hs ⟨_,e1,h1,q1,rfl,rec,hr,cd,.normal,e2,h2,q2,{rec with state:=.busy},by rw[q3];exact hb,rfl,?_⟩,rfl,q4⟩;have zZ:{rec with state:=LoopState.ready,pending:=au}=rec:=by cases rec;cases cd;cases hp;rfl
 have BV:h2.loops.set l rec=h1.loops:=by
  rw[q3];show(h1.loops.set l _).set l rec=_;rw[CQ];apply sM;intro k;rw[mU];split
  ·rename_i e;subst e;exact hr.symm
  ·rfl
 show _=({h2 with loops:=h2.loops.set l {rec with state:=LoopState.ready,pending:=au}}:ao);rw[zZ,BV]
def Hg{Post:ao->Prop}(hr:H.loops[l]?=aa rec)(hs:rec.params.size=args.length)(cd:rec.state=.ready)(hp:rec.pending=au)
 (ha:bM (whole P G aK) rec.assign (mT l rec args) H (λo e1 h1=>o=.normal/\h1=H/\bM (whole P G aK) rec.body e1 (H.busy l rec) (λo _ h2=>o=.normal/\h2.loops=(H.busy l rec).loops/\Post {h2 with loops:=H.loops}))):
 ∃H',(whole P G aK).round l args H=aa (.ret (.v (.bool ai)),H')/\Post H':=by
 obtain⟨H',q1,_,q3⟩:=amP hr hs cd hp ha;exact⟨H',q1,q3⟩
end
end Go.AE
end
section
namespace Go.NT
def apY{α:Type}{f}:∀{l:List α},(∀i∈l,f i=0)->cG (l.map f)=0:=by
 intro l
 induction l with
 |nil=>intro _;rfl|cons x l ih=>intro h;simp only[ev,cG];rw[h x ga,ih λi hi=>h i (fR _ hi)];rfl
def QI{α:Type}{f g}:∀{l:List α},(∀i∈l,f i=g i)->cG (l.map f)=cG (l.map g):=by
 intro l
 induction l with
 |nil=>intro _;rfl|cons x l ih=>intro h;simp only[ev,cG];rw[h x ga,ih λi hi=>h i (fR _ hi)]
def apX{α:Type}{f}{p}:∀{l:List α},(∀i∈l,p i=ay->f i=0)->cG ((l.filter p).map f)=cG (l.map f):=by
 intro l
 induction l with
 |nil=>intro _;rfl|cons x l ih=>
  intro h;have ih:=ih λi hi=>h i (fR _ hi);cases hp:p x
  ·rw[Ii (by simp[hp]),ih];simp only[ev,cG];rw[h x ga hp];omega
  ·rw[Ij hp];simp only[ev,cG,ih]
def Y5{α:Type}{f g}:∀{l:List α},cG (l.map λi=>f i+g i)=cG (l.map f)+cG (l.map g):=by
 intro l
 induction l with
 |nil=>rfl|cons x l ih=>simp only[ev,cG,ih];omega
def KL{α:Type}{f}{c}:∀{l:List α},cG (l.map λi=>c * f i)=c * cG (l.map f):=by
 intro l
 induction l with
 |nil=>simp[cG]|cons x l ih=>simp only[ev,cG,ih,Int.mul_add]
def Y6{α β:Type}{f:α->β->Int}:∀{l:List α} {m:List β},cG (l.map λi=>cG (m.map λj=>f i j))=cG (m.map λj=>cG (l.map λi=>f i j)):=by
 intro l m
 induction l with
 |nil=>simp only[uN,cG];exact(apY λ_ _=>rfl).symm|cons x l ih=>simp only[ev,cG,ih];rw[<-Y5]
def HL{α:Type}{f g}{q}:∀{l:List α},(∀i∈l,q∣f i - g i)->q∣cG (l.map f) - cG (l.map g):=by
 intro l
 induction l with
 |nil=>intro _;simp[cG]|cons x l ih=>
  intro h;simp only[ev,cG];have e:f x+cG (l.map f) - (g x+cG (l.map g))=(f x - g x)+(cG (l.map f) - cG (l.map g)):=by omega
  rw[e];exact xz (h x ga) (ih λi hi=>h i (fR _ hi))
def aiP{α β:Type}{l:List α}{f}{g:Nat->β}(h:∀i x,l[i]?=aa x->f x=g i):l.map f=(bL l.length).map g:=by
 apply Ih
 ·simp
 ·intro i h1 h2;rw[pg,pg,AJ];exact h i _ (a9 (by simpa using h1))
def Zi(ae)(target):(iR ae target).length=target.length:=by unfold iR;simp
def Zk{ae}{target a}(h:a∈iR ae target):∃k,k<target.length/\a=ae.map (λr=>al r k)++[al target k]:=by unfold iR at h;obtain⟨k,hk,rfl⟩:=jE.1 h;exact⟨k,fD.1 hk,rfl⟩
def acb{ae:List (List Int)}{k i}{t}(hi:i<ae.length):al (ae.map (λr=>al r k)++t) i=al (ae.getD i []) k:=by unfold al;rw[eQ,List.getElem?_append_left (by simpa using hi),eR,a9 hi,kJ hi];rfl
def acd{ae:List (List Int)}{k}{x}:al (ae.map (λr=>al r k)++[x]) ae.length=x:=by unfold al;rw[eQ,ET bG];simp
section
variable {ae:List (List Int)} {target l:List Int}
def Zj(hr:∀r∈ae,∀x∈r,okF x)(ht:∀x∈target,okF x):(∀a∈iR ae target,a.length=ae.length+1)/\∀a∈iR ae target,∀x∈a,okF x:=by
 refine⟨λa ha=>?_,λa ha x hx=>?_⟩
 ·obtain⟨k,-,rfl⟩:=Zk ha;simp
 ·obtain⟨k,hk,rfl⟩:=Zk ha;rcases List.mem_append.1 hx with q|q
  ·obtain⟨r,h1,rfl⟩:=jE.1 q;exact qE (hr r h1) k
  ·rw[ph] at q;subst q;exact qE ht k
def combine_sat(hr:∀r∈ae,∀x∈r,okF x)(ht:∀x∈target,okF x)(h:uU ae target=aa l):
 l.length=ae.length/\(∀x∈l,okF x)/\∀k,k<target.length->Qi∣cG ((bL ae.length).map λi=>al l i * al (ae.getD i []) k) - al target k:=by
 obtain⟨t1,t2⟩:=Zj hr ht;unfold uU at h;dsimp only at h;split at h
 ·rename_i eI;simp only[dE] at h;subst h;have NW:∀i a,(iH (iR ae target) ae.length).2.length<=i->(iH (iR ae target) ae.length).1[i]?=aa a->al a ae.length=0:=λi a hi ha=>by rw[eE] at eI;have:a∈(iH (iR ae target) ae.length).1.drop (iH (iR ae target) ae.length).2.length:=(by refine ez (i:=i - (iH (iR ae target) ae.length).2.length) ?_;rw[pR];rw[show(iH (iR ae target) ae.length).2.length+(i - (iH (iR ae target) ae.length).2.length)=i by omega];exact ha);simpa using eI a this
  have hs:=ao1 t1 t2 NW;have R:=(Kf t1 t2 (ah:ae.length<=ae.length+1)).1;refine⟨KE _ _,?_,λk hk=>?_⟩
  ·have bD:∀(ps:List (Nat × Nat)) (y:List Int),(∀x∈y,okF x)->∀x∈ps.foldl (λy p=>y.set p.1 (al ((iH (iR ae target) ae.length).1.getD p.2 []) ae.length)) y,okF x:=by
    intro ps
    induction ps with
    |nil=>intro y hy;exact hy|cons p ps ih=>
     intro y hy;refine ih _ λx hx=>?_;rcases vU hx with q|q
     ·exact hy x q
     ·rw[q];refine qE (λz hz=>?_) _;rcases dT p.2 (iH (iR ae target) ae.length).1.length with q2|q2
      ·rw[kJ q2] at hz;exact R.ok _ (iS q2) z hz
      ·rw[eQ,List.getElem?_eq_none q2] at hz;simp at hz
   unfold qt;exact bD _ _ λx hx=>by rw[Ig hx];exact An
  ·have hm:ae.map (λr=>al r k)++[al target k]∈iR ae target:=(by unfold iR;exact jE.2 ⟨k,fD.2 hk,rfl⟩);have:=hs _ hm;unfold Sat res dot at this;rw[KE,acd] at this;have e:((bL ae.length).map λi=>al (qt (iH (iR ae target) ae.length) ae.length) i * al (ae.map (λr=>al r k)++[al target k]) i)=(bL ae.length).map λi=>al (qt (iH (iR ae target) ae.length) ae.length) i * al (ae.getD i []) k:=
    List.map_congr_left λi hi=>by rw[acb (fD.1 hi)]
   rw[e] at this;exact this
 ·cases h
end
def ao8{n}{at_}{l}:(sD n at_ l).length=n:=by unfold sD;rw[FJ (λp=>al l p.2)];simp
def apa{n i}{at_}{l}(h:i∉at_):al (sD n at_ l) i=0:=by unfold sD;rw[Ja (λp=>al l p.2) _ _ λp hp e=>h (by subst e;obtain⟨p1,p2⟩:=p;have:=List.mem_zipIdx hp;simp only at this ⊢;rw[this.2.2];exact iS _)];unfold al;rw[eQ,Lm];split<;>rfl
def ao7{l}:∀(ps:List (Nat × Nat)) (y:List Int),(ps.map Fg).Nodup->(∀p∈ps,p.1<y.length)->∀p∈ps,al (ps.foldl (λy p=>y.set p.1 (al l p.2)) y) p.1=al l p.2:=by
 intro ps
 induction ps with
 |nil=>intro y _ _ p hp;cases hp
 |cons q ps ih=>
  intro y hn hy p hp;rw[ev,EX] at hn;rcases jm.1 hp with rfl|hp
  ·rw[xE,Ja (λp=>al l p.2) _ _ λp' hp' e=>hn.1 (jE.2 ⟨p',hp',e⟩),IF (hy p ga),aD rfl]
  ·exact ih _ hn.2 (λp hp=>by rw[nE];exact hy p (fR _ hp)) p hp
def zip_fst(at_:List Nat):at_.zipIdx.map Fg=at_:=by apply Ih<;>simp
def ao6{n j i}{at_}{l}(hn:at_.Nodup)(hb:∀i∈at_,i<n)(hj:at_[j]?=aa i):al (sD n at_ l) i=al l j:=by
 unfold sD;have hm:(i,j)∈at_.zipIdx:=by rw[List.mem_zipIdx_iff_getElem?];exact hj
 exact ao7 at_.zipIdx (bm n 0) (by rw[zip_fst];exact hn) (λp hp=>by
  rw[qC];refine hb _ ?_;have:p.1∈at_.zipIdx.map Fg:=jE.2 ⟨p,hp,rfl⟩
  rwa [zip_fst] at this) (i,j) hm
def ao9{n}{at_}{l}(hl:∀x∈l,okF x):∀x∈sD n at_ l,okF x:=by
 have bD:∀(ps:List (Nat × Nat)) (y:List Int),(∀x∈y,okF x)->∀x∈ps.foldl (λy p=>y.set p.1 (al l p.2)) y,okF x:=by
  intro ps
  induction ps with
  |nil=>intro y hy;exact hy|cons p ps ih=>
   intro y hy;refine ih _ λx hx=>?_;rcases vU hx with q|q
   ·exact hy x q
   ·rw[q];exact qE hl _
 exact bD _ _ λx hx=>by rw[Ig hx];exact An
def Pp{ag ar}{i}:i∈jk ag ar↔i<ag.length/\al ag i∈ar:=by unfold jk;rw[xG,fD,aah]
def ajE(ag ar):(jk ag ar).Nodup:=List.nodup_range.filter _
def qZ{ae}{ag}(h:dn ae ag=0):ae.length=ag.length/\ae.length<=64/\(∀r∈ae,r.length=bV ae/\0<r.length/\r.length<=64/\∀x∈r,okF x)/\∀x∈ag,0<=x/\x<=63:=by
 unfold dn at h;split at h
 ·cases h
 ·rename_i h1;simp only[Bool.or_eq_true,decide_eq_true_eq,List.any_eq_true,not_or,not_exists,not_and,Nat.not_lt] at h1;split at h
  ·cases h
  ·rename_i h2;have h2:ae.length=ag.length:=(by simpa using h2);split at h
   ·rename_i h3;rw[eE] at h3;have key:∀i (hi:i<ae.length),ae[i].length=(ae.getD 0 []).length/\0<ae[i].length/\(∀x∈ae[i],okF x)/\0<=al ag i/\al ag i<=63:=λi hi=>by
     have:=h3 i (fD.2 hi);simp only[kJ hi,bA,decide_eq_true_eq,eE] at this;obtain⟨⟨⟨a,b⟩,c,d⟩,f⟩:=this;refine⟨b,?_,λx hx=>?_,c,d⟩
     ·rcases Fa ae[i].length with q|q
      ·rw[List.length_eq_zero_iff] at q;rw[q] at a;cases a
      ·exact q
     ·have:=f x hx;unfold cE at this;simpa [okF] using this
    refine⟨h2,h1.1,λr hr=>?_,λx hx=>?_⟩
    ·obtain⟨i,hi,rfl⟩:=AM.1 hr;obtain⟨a,b,c,-⟩:=key i hi;refine⟨?_,b,h1.2 _ hr,c⟩;unfold bV;rw[aG ah];exact a
    ·obtain⟨i,hi,rfl⟩:=AM.1 hx;have:=(key i ah).2.2.2
     rwa [fx hi] at this
   ·cases h
def tY{ae}{ag}(h:dn ae ag=0):0<bV ae/\bV ae<=64:=by
 obtain⟨-,-,h3,-⟩:=qZ h;unfold bV;split
 ·omega
 ·rename_i q;have:=h3 (ae.getD 0 []) (by rw[kJ ah];exact iS _);exact⟨this.2.1,this.2.2.1⟩
def aqh{n}(h:0<n):(gY n).length=n:=by unfold gY;simp;omega
def aqg{n k}:al (gY n) k=if k=0 then 1 else 0:=by
 unfold gY al;cases k with|zero=>rfl|succ k=>rw[List.getD_cons_succ,eQ,Lm];split<;>rfl
def aqi{n}:∀x∈gY n,okF x:=by
 intro x hx;unfold gY at hx;rcases jm.1 hx with rfl|q
 ·unfold okF;decide
 ·rw[Ig q];exact An
def xM{ae}{ag ar y}(h:iL ae ag ar=(y,ai,0)):
 dn ae ag=0/\fE (-1) ar=ai/\y.length=ae.length/\(∀x∈y,okF x)/\(∀i,al ag i∉ar->al y i=0)/\
  ∀k,k<bV ae->Qi∣cG ((bL ae.length).map λi=>al y i * al (ae.getD i []) k) - (if k=0 then 1 else 0):=by
 unfold iL at h;split at h
 ·simp at h
 ·rename_i hp;have hp:dn ae ag=0:=by simpa using hp
  obtain⟨p1,p2,p3,p4⟩:=qZ hp;split at h
  ·simp at h
  ·rename_i hw;split at h
   ·simp at h
   ·rename_i l hl;simp only[cW,and_true] at h;subst h;have hb:∀i∈jk ag ar,i<ae.length:=λi hi=>(by rw[p1];exact(Pp.1 hi).1);have hr:∀r∈(jk ag ar).map (λi=>ae.getD i []),∀x∈r,okF x:=λr hr=>(by obtain⟨i,hi,rfl⟩:=jE.1 hr;rw[kJ (hb i hi)];exact(p3 _ (iS _)).2.2.2);obtain⟨c1,c2,c3⟩:=combine_sat hr aqi hl;rw[bJ] at c1 c3;have zX:∀i,i∉jk ag ar->al (sD ae.length (jk ag ar) l) i=0:=λi hi=>apa hi;refine⟨hp,by simpa using hw,ao8,ao9 c2,λi hi=>zX i λq=>hi (Pp.1 q).2,λk hk=>?_⟩;have:=c3 k (by rw[aqh (tY hp).1];exact hk);rw[aqg] at this;have e:cG ((bL ae.length).map λi=>al (sD ae.length (jk ag ar) l) i * al (ae.getD i []) k)=cG ((bL (jk ag ar).length).map λi=>al l i * al (((jk ag ar).map λi=>ae.getD i []).getD i []) k):=(by have e1:jk ag ar=(bL ae.length).filter λi=>ar.contains (al ag i):=(by unfold jk;rw[p1]);have e2:=apX (f:=λi=>al (sD ae.length (jk ag ar) l) i * al (ae.getD i []) k) (p:=λi=>ar.contains (al ag i)) (l:=bL ae.length) λi hi hq=>(by rw[zX i λq=>?_,Ic];rw[aah.2 (Pp.1 q).2] at hq;cases hq);rw[<-e1] at e2;rw[<-e2];congr 1;refine aiP λj i hj=>?_;have oW:=(aQ.1 hj).1;rw[ao6 (ajE ag ar) hb hj,kJ (t:=(jk ag ar).map λi=>ae.getD i []) (by simpa using oW),pg];rw[(aQ.1 hj).2]);rw[e];exact this
end Go.NT
end
section
namespace Go.NT
def Gn:Nat:=4
def qy:elem Gn=ai:=by decide+kernel
def Tf{a b}(h:Qi∣a - b):a%Qi=b%Qi:=Z0.2 (Int.emod_eq_zero_of_dvd h)
def IQ{a b}(h:a%Qi=b%Qi):Qi∣a - b:=Int.dvd_of_emod_eq_zero (Z0.1 h)
def PA{a b}(h:Qi∣a - b):br Gn a=br Gn b:=GW (Tf h)
def akx{a}(h:br Gn a=1):Qi∣a:=by
 have hf:=Dn a;have ha:Qi∣a - fmod a:=IQ (by unfold fmod;rw[CJ _ (CI _)]);by_cases h0:fmod a=0
 ·rw[h0,CL] at ha;exact ha
 ·exfalso;have h1:br Gn (fmod a * fL (fmod a))=1:=by rw[GX qy,akq,h,yC,Nat.one_pow];rfl
  have h2:db (fmod a) (fL (fmod a))=1:=MT hf h0;rw[tc] at h2;have h3:br Gn (fmod a * fL (fmod a))=br Gn 1:=GW (by rw[h2];rfl);rw[h1,akt qy] at h3;cases h3
def aku{a b}(h:br Gn a=br Gn b):Qi∣a - b:=by refine akx ?_;rw[Int.sub_eq_add_neg,Eh qy,h];exact aks qy b
def akv{a b}(ha:okF a)(hb:okF b)(h:br Gn a=br Gn b):a=b:=by
 have:=Tf (aku h)
 rwa [Lc ha.1 ha.2,Lc hb.1 hb.2] at this
def afz{α:Type}{f:α->Nat}{a}:∀{l:List α} (_:∀p∈l,f p=br Gn (a p)) (k:Int),l.foldl (λx p=>x * f p%P) (br Gn k)=br Gn (k+cG (l.map a)):=by
 intro l
 induction l with
 |nil=>intro _ k;simp[cG]|cons p l ih=>intro h k;rw[xE,h p ga,<-Eh qy,ih (λq hq=>h q (fR _ hq))];simp only[ev,cG];congr 1;omega
def PF{α:Type}{f:α->Nat}{a}{l:List α}(h:∀p∈l,f p=br Gn (a p)):l.foldl (λx p=>x * f p%P) 1=br Gn (cG (l.map a)):=by have:=afz h 0;rw[Xm,EN] at this;exact this
def oi(a b:List Int):Int:=(bL a.length).foldl (λx j=>cS x (db (al a j) (al b j))) 0
def MU{α:Type}{f}:∀{l:List α} (x:Int),Qi∣l.foldl (λx j=>cS x (f j)) x - (x+cG (l.map f)):=by
 intro l
 induction l with
 |nil=>intro x;simp[cG]|cons j l ih=>intro x;have h1:=ih (cS x (f j));simp only[xE,ev,cG];have h2:Qi∣cS x (f j) - (x+f j):=IQ (by rw[A9,CJ _ (CI _)]);have:=xz h1 h2;rw[show l.foldl (λx j=>cS x (f j)) (cS x (f j)) - (cS x (f j)+cG (l.map f))+(cS x (f j) - (x+f j))=l.foldl (λx j=>cS x (f j)) (cS x (f j)) - (x+(f j+cG (l.map f))) by omega] at this;exact this
def TU{α:Type}{f:α->Int}{l:List α}{x}(hx:okF x):okF (l.foldl (λx j=>cS x (f j)) x):=by
 rcases List.eq_nil_or_concat l with rfl|⟨l',a,rfl⟩
 ·exact hx
 ·rw[List.concat_eq_append,oL];exact I0 _ _
def aeM(a b):okF (oi a b):=TU An
def I8(a b):Qi∣db a b - a * b:=IQ (by rw[tc,CJ _ (CI _)])
def TA(a b):Qi∣cS a b - (a+b):=IQ (by rw[A9,CJ _ (CI _)])
def Df{a b c}(h:Qi∣a - b)(k:Qi∣b - c):Qi∣a - c:=by
 have:=xz h k
 rwa [(ah:a - b+(b - c)=a - c)] at this
def To(a b):Qi∣oi a b - cG ((bL a.length).map λj=>al a j * al b j):=by have h1:=MU (f:=λj=>db (al a j) (al b j)) (l:=bL a.length) 0;rw[EN] at h1;exact Df h1 (HL λj _=>I8 _ _)
def mS(av row:List Int):Nat:=(bL av.length).foldl (λx j=>x * br (al av j).toNat (al row j)%P) 1
def jl(ae:List (List Int))(s:List Int):List Int:=ae.map λr=>oi r s
def bF(s:List Int):List Int:=s.map λn=>((br Gn n:Nat):Int)
def Sm{s}{j}(hj:j<s.length):al (bF s) j=((br Gn (al s j):Nat):Int):=by
 unfold bF;have:j<(s.map λn=>((br Gn n:Nat):Int)).length:=by simpa using hj
 rw[fx this,fx hj,pg]
def Xq{s row}(hl:row.length=s.length):mS (bF s) row=br Gn (oi row s):=by
 unfold mS;have hc:(bF s).length=s.length:=by unfold bF;simp
 rw[hc,PF (a:=λj=>al row j * al s j) λj hj=>by rw[Sm (fD.1 hj),dS,<-GX qy,yS]];refine(PA ?_).symm;have:=To row s
 rwa [hl] at this
def aec{s}:(bF s).all b9=ai:=by rw[eE];intro x hx;obtain⟨n,-,rfl⟩:=jE.1 hx;have:=Ar qy n;unfold b9;rw[dS,this,EF];have h:=(elem_iff.1 this).1;exact cz ah
def aqR{ae}{ag ar y s}(h:iL ae ag ar=(y,ai,0))(hs:s.length=bV ae):
 Qi∣cG ((bL ae.length).map λi=>al y i * al (jl ae s) i) - al s 0:=by
 obtain⟨hp,-,h1,h2,h3,h4⟩:=xM h;obtain⟨p1,p2,p3,p4⟩:=qZ hp;have hc:=tY hp;have e1:Qi∣cG ((bL ae.length).map λi=>al y i * al (jl ae s) i) - cG ((bL ae.length).map λi=>cG ((bL (bV ae)).map λk=>al s k * (al y i * al (ae.getD i []) k))):=by
  refine HL λi hi=>?_;have hi:=fD.1 hi;have hd:=To ae[i] s;rw[(p3 _ (iS hi)).1] at hd;have e:al (jl ae s) i=oi ae[i] s:=by unfold jl;rw[fx (by simpa using hi),pg]
  rw[e,kJ hi];have:cG ((bL (bV ae)).map λk=>al s k * (al y i * al ae[i] k))=al y i * cG ((bL (bV ae)).map λk=>al ae[i] k * al s k):=by rw[<-KL];exact QI λk _=>by rw[Int.mul_left_comm,yS (al s k)]
  rw[this,<-yT];exact EJ hd
 refine Df e1 ?_;rw[Y6];have e2:Qi∣cG ((bL (bV ae)).map λk=>cG ((bL ae.length).map λi=>al s k * (al y i * al (ae.getD i []) k))) - cG ((bL (bV ae)).map λk=>if k=0 then al s 0 else 0):=by
  refine HL λk hk=>?_;have:=h4 k (fD.1 hk);rw[KL];have e:(if k=0 then al s 0 else 0)=al s k * (if k=0 then 1 else 0):=by
   split
   ·rename_i q;subst q;rw[Int.mul_one]
   ·rw[Int.mul_zero]
  rw[e,<-yT];exact EJ this
 refine Df e2 ?_;rw[Za (p:=0) _ hc.1 λi _ bE=>aG bE,aD rfl,Int.sub_self];exact Int.dvd_zero _
def iZ(ag:List Int)(aC:Int):List Nat:=(bL ag.length).filter λi=>decide (al ag i=aC)
def eP(ae:List (List Int))(ag:List Int)(l:List Pr):List Int:=(iL ae ag (l.map Pr.aC)).1
def lh(y:List Int)(s:List (Int × Int)):Int:=s.foldl (λa p=>cS a (db (al y p.1.toNat) p.2)) 0
def Cu(ae:List (List Int))(av:List Int)(p:Int × Int):Bool:=cE p.2&&decide (br Gn p.2=mS av (ae.getD p.1.toNat []))
def mz(ae:List (List Int))(ag av:List Int)(aC:Int)(s:List (Int × Int)):Bool:=decide (s.map Fg=(iZ ag aC).map λ(i:Nat)=>(i:Int))&&s.all (Cu ae av)
def pI(l:List Pr)(aC:Int):Option Pr:=l.find? λp=>decide (p.aC=aC)
def dR(c0:Int)(text:List UInt8)(l:List Pr):Nat:=sC (jX c0 text l) c0 text
def Ak(ae:List (List Int))(ag:List Int)(av:List Int)(text:List UInt8)(l:List Pr)(aC:Int)(s:List (Int × Int))(d f:Int):Int × Int:=
 match pI l aC with
 |none=>(0,1)
 |some x=>
  if !(cE d&&cE f) then (0,1)
  else if !mz ae ag av aC s then (0,340)
  else if ¬((br Gn d:Nat):Int)=x.d∨¬((br Gn f:Nat):Int)=x.e then (0,420)
  else (cS (cS d (db f (gF (al av 0) text l aC))) (db (dR (al av 0) text l) (lh (eP ae ag l) s)),0)
def xr(ae:List (List Int))(ag:List Int)(av:List Int)(text:List UInt8)(l:List Pr)(x:Pr):Nat:=
 qX (al av 0) text l x * ((iZ ag x.aC).foldl (λa i=>a * br (mS av (ae.getD i [])) (al (eP ae ag l) i * dR (al av 0) text l)%P) 1)%P
def zB(ae:List (List Int))(ag:List Int)(av:List Int)(text:List UInt8)(l:List Pr)(aC z:Int):Bool × Int:=
 match pI l aC with
 |none=>(ay,1)
 |some x=>if !cE z then (ay,1) else (decide (br Gn z=xr ae ag av text l x),0)
def ny(key:Int)(text:List UInt8)(e s:Int):Bool:=b9 key&&cE e&&cE s&&decide (e=((sC ((br Gn s * br key.toNat (-e)%P:Nat):Int) key text:Nat):Int))
def ags(b):nh b<Q:=mE _ aO
def qU{x}:cE x=ai↔okF x:=by unfold cE okF;simp
def UH(bh)(v):cE ((tq bh v:Nat):Int)=ai:=by rw[qU];have:=ags (fZ bh (dM v));unfold tq okF;rw[AX];omega
def aqM{x n s}{text}{e}(he:e=sC ((br Gn n:Nat):Int) ((br Gn x:Nat):Int) text)(hs:okF s)(h:Qi∣s - (n+e * x)):ny ((br Gn x:Nat):Int) text e s=ai:=by
 unfold ny;have hx:=Ar qy x;have e1:b9 ((br Gn x:Nat):Int)=ai:=by unfold b9;rw[dS,hx,EF];have h:=(elem_iff.1 hx).1;exact cz ah
 have e2:cE ((e:Nat):Int)=ai:=by rw[he];exact UH _ _
 have e3:br Gn s * br (br Gn x) (-(e:Int))%P=br Gn n:=by
  rw[<-GX qy,<-Eh qy];refine PA ?_;have:s+x * -(e:Int) - n=s - (n+e * x):=by rw[Int.mul_neg,yS x];omega
  rw[this];exact h
 rw[e1,e2,qU.2 hs,dS,e3,<-he];simp
end Go.NT
end
section
namespace Go.NT
def nI(f:Nat->Int)(a:List Int)(c k:Nat):List Int:=(bL a.length).map λj=>if c<=j/\j<k then f j else al a j
section
variable {f:Nat->Int} {a own:List Int} {c k j r w:Nat} {t:List (List Int)}
def uV:(nI f a c k).length=a.length:=by unfold nI;simp
def FF(hj:j<a.length):al (nI f a c k) j=if c<=j/\j<k then f j else al a j:=by rw[fx (by rw[uV];exact hj)];unfold nI;rw[pg,AJ]
def aev:nI f a c c=a:=by refine yE uV λj hj=>?_;rw[uV] at hj;rw[FF hj,aG ah]
def aeu(hc:c<=k)(hk:k<a.length):(nI f a c k).set k (f k)=nI f a c (k+1):=by
 refine yE (by rw[nE,uV,uV]) λj hj=>?_;rw[nE,uV] at hj;rw[IF (by rw[uV];exact hk),FF hj,FF hj];by_cases zQ:j=k
 ·subst zQ;rw[aD rfl,aD ah]
 ·rw[aG zQ];by_cases q:c<=j/\j<k
  ·rw[aD q,aD ah]
  ·rw[aG q,aG ah]
def aet{n:Int}(hc:c<=a.length):nI (λj=>db (al a j) n) a c a.length=gU c a n:=by
 unfold gU;refine yE (by rw[uV,du,bJ,fb,gE];omega) λj hj=>?_;rw[uV] at hj;rw[FF hj,C6 hc];by_cases q:j<c
 ·rw[aG ah,aD q]
 ·rw[aD ah,aG q];have hm:j - c<((a.drop c).map (db · n)).length:=by rw[bJ,gE];omega
  rw[fx hm,pg,List.getElem_drop,fx hj];congr 2;omega
def pT(c:Nat)(own:List Int)(r j:Nat)(t:List (List Int)):List (List Int):=t.mapIdx λi a=>if i<j/\i≠r then uT c a own else a
def S8:(pT c own r j t).length=t.length:=by unfold pT;simp
def wq(i:Nat):(pT c own r j t)[i]?=t[i]?.map λa=>if i<j/\i≠r then uT c a own else a:=by unfold pT;rw[aao]
def ad1:pT c own r 0 t=t:=by apply sM;intro i;rw[wq];cases t[i]?<;>simp
def adZ:pT c own r (r+1) t=pT c own r r t:=by
 apply sM;intro i;rw[wq,wq];congr 1;funext a;by_cases h:i<r/\i≠r
 ·rw[aD h,aD ah]
 ·rw[aG h,aG ah]
def adY:(pT c own r j t)[j]?=t[j]?:=by rw[wq];cases t[j]?<;>simp
def adX:(pT c own r j t)[r]?=t[r]?:=by rw[wq];cases t[r]?<;>simp
def ad0{a:List Int}(hj:t[j]?=aa a)(hr:j≠r):(pT c own r j t).set j (uT c a own)=pT c own r (j+1) t:=by
 apply sM;intro i;rw[mU,S8];have hl:=(aQ.1 hj).1;split
 ·rename_i e;subst e
  try rw[aD hl]
  rw[wq,hj,eX,aD ⟨Nat.lt_succ_self _,hr⟩]
 ·rename_i e;rw[wq,wq];congr 1;funext a;by_cases h:i<j/\i≠r
  ·rw[aD h,aD ah]
  ·rw[aG h,aG ah]
def TH{j:Nat}(hr:r<=j)(hj:j<=t.length)(hz:∀k,r<=k->k<j->al (t.getD k []) c=0)(he:j<t.length->al (t.getD j []) c≠0):qI t r c=if j=t.length then au else aa j:=by
 cases hf:qI t r c with
 |none=>
  by_cases e:j=t.length
  ·rw[aD e]
  ·exact absurd (TG hf ah hr) (he ah)
 |some k=>
  obtain⟨k1,k2,k3⟩:=Dl hf;have hkj:j<=k:=by
   rcases dT k j with h|h
   ·exact absurd (hz k k2 h) k3
   ·exact h
  rw[aG ah];unfold qI at hf;rw[List.find?_eq_some_iff_getElem] at hf;obtain⟨-,i,hi,yi,eI⟩:=hf;rw[AJ] at yi;subst yi;rcases dT j i with h|h
  ·have:=eI j h;rw[AJ] at this;simp only[yP,Bool.and_eq_false_imp,decide_eq_true_eq,Bool.not_eq_false',decide_eq_true_eq] at this;exact absurd (this hr) (he ah)
  ·rw[Nat.le_antisymm h hkj]
def apw{pv:List Nat}{k:Nat}{b o:List Int}(hf:qI t pv.length c=aa k)(hb:t[k]?=aa b)(ho:t[pv.length]?=aa o):
 xo (t,pv) c=(pT c (gU c b (fL (al b c))) pv.length t.length (((t.set pv.length b).set k o).set pv.length (gU c b (fL (al b c)))),pv++[c]):=by
 have hk:=(aQ.1 hb).1;have hr:=(aQ.1 ho).1;have gb:t.getD k []=b:=by rw[eQ,hb];rfl
 have go:t.getD pv.length []=o:=by rw[eQ,ho];rfl
 unfold xo;simp only[hf,gb,go];congr 1;generalize gU c b (fL (al b c))=s;have e1:((t.set pv.length b).set k o).set pv.length s=(t.set k o).set pv.length s:=by
  by_cases e:k=pv.length
  ·subst e;simp
  ·rw[List.set_comm _ _ (λq=>e q.symm),CQ]
 rw[e1];apply sM;intro i;rw[aao,wq];by_cases e:i=pv.length
 ·subst e;rw[List.getElem?_set_self (by rw[nE];exact hr)];simp
 ·cases hi:((t.set k o).set pv.length s)[i]? with|none=>rfl|some x=>have:=(aQ.1 hi).1;rw[nE,nE] at this;simp[e,this]
end
end Go.NT
end
section
namespace Go.NT
def Lz(l:List Pr)(ld le:Int->Int):Prop:=∀p∈l,p.d=((br Gn (ld p.aC):Nat):Int)/\p.e=((br Gn (le p.aC):Nat):Int)
def UI(bh)(v):okF ((tq bh v:Nat):Int):=qU.1 (UH bh v)
def Pz(x)(bh)(v):sn x (tq bh v)=br x ((tq bh v:Nat):Int):=by unfold br;rw[Dm (UI bh v),dS]
def WM{text}{l}{p}{d e}(hd:p.d=((br Gn d:Nat):Int))(he:p.e=((br Gn e:Nat):Int))(c0):
 qX c0 text l p=br Gn (d+e * ((gF c0 text l p.aC:Nat):Int)):=by
 unfold qX;rw[hd,he,dS,dS];unfold gF;rw[Pz,<-GX qy,<-Eh qy]
def akg{text}{l}{ld le}(h:Lz l ld le)(c0):
 jX c0 text l=br Gn (cG (l.map λp=>ld p.aC+le p.aC * ((gF c0 text l p.aC:Nat):Int))):=by
 unfold jX;exact PF λp hp=>WM (h p hp).1 (h p hp).2 c0
def my(ag sh:List Int)(k:Int):List (Int × Int):=(iZ ag k).map λi=>((i:Nat),al sh i)
def yJ(y sh:List Int)(L:List Nat):Int:=cG (L.map λi=>al y i * al sh i)
def aq5(y ag sh)(k):Qi∣lh y (my ag sh k) - yJ y sh (iZ ag k):=by
 unfold lh my yJ;rw[List.foldl_map];have h1:=MU (f:=λi:Nat=>db (al y i) (al sh i)) (l:=iZ ag k) 0;rw[EN] at h1;have e:(λ(a:Int) (i:Nat)=>cS a (db (al y (((i:Nat):Int)).toNat) (al sh i)))=λa i=>cS a (db (al y i) (al sh i)):=by funext a i;rw[dS]
 simp only[e];exact Df h1 (HL λi _=>I8 _ _)
def apW{α:Type}{f}{p}:∀{l:List α},cG ((l.filter p).map f)=cG (l.map λi=>if p i=ai then f i else 0):=by
 intro l
 induction l with
 |nil=>rfl|cons x l ih=>
  cases hp:p x
  ·rw[Ii (by simp[hp]),ih];simp only[ev,cG,hp];simp
  ·rw[Ij hp];simp only[ev,cG,hp,ih];simp
def apZ{n v}:∀{ar:List Int},ar.Nodup->cG (ar.map λk=>if decide (n=k)=ai then v else 0)=if n∈ar then v else 0:=by
 intro ar
 induction ar with
 |nil=>intro _;rfl|cons k l ih=>
  intro h;obtain⟨h1,h2⟩:=EX.1 h;simp only[ev,cG,ih h2];by_cases hk:n=k
  ·subst hk;simp[h1]
  ·simp[hk]
def amY{ag y sh}{ar:List Int}(hn:ar.Nodup)(h0:∀i,al ag i∉ar->al y i=0):
 cG (ar.map λk=>yJ y sh (iZ ag k))=cG ((bL ag.length).map λi=>al y i * al sh i):=by
 have e1:(λk=>yJ y sh (iZ ag k))=λk=>cG ((bL ag.length).map λi=>if decide (al ag i=k)=ai then al y i * al sh i else 0):=by funext k;exact apW
 rw[e1,Y6];refine QI λi _=>?_;rw[apZ hn];split
 ·rfl
 ·rename_i h;rw[h0 i h,Ic]
def Pw:∀{dH:Int} {ar:List Int},fE dH ar=true->(∀n∈ar,dH<n/\n<=63)/\ar.Nodup:=by
 intro dH ar
 induction ar generalizing dH with
 |nil=>intro _;exact⟨λn hn=>by simp at hn,.nil⟩|cons n l ih=>
  intro h;rw[fE] at h;simp only[bA,decide_eq_true_eq] at h;obtain⟨h1,h2⟩:=ih h.2;refine⟨λm hm=>?_,EX.2 ⟨λhm=>?_,h2⟩⟩
  ·rcases jm.1 hm with rfl|hm
   ·exact h.1
   ·have:=h1 m hm;exact⟨ah,this.2⟩
  ·have:=h1 n hm;omega
def pJ(ae:List (List Int))(ag av:List Int)(text:List UInt8)(l:List Pr)(k d f:Int)(s:List (Int × Int)):Int:=
 cS (cS d (db f (gF (al av 0) text l k))) (db (dR (al av 0) text l) (lh (eP ae ag l) s))
def Xd{ae}{ag av}{text}{l}{k d f}{s}:okF (pJ ae ag av text l k d f s):=I0 _ _
def Xc(ae)(ag av)(text)(l)(k d f)(sh):
 Qi∣pJ ae ag av text l k d f (my ag sh k) - (d+f * ((gF (al av 0) text l k:Nat):Int)+((dR (al av 0) text l:Nat):Int) * yJ (eP ae ag l) sh (iZ ag k)):=by
 unfold pJ;generalize ((gF (al av 0) text l k:Nat):Int)=b;generalize ((dR (al av 0) text l:Nat):Int)=c;have h1:=aq5 (eP ae ag l) ag sh k;generalize lh (eP ae ag l) (my ag sh k)=w at *
 generalize yJ (eP ae ag l) sh (iZ ag k)=v at *
 have h2:=TA (cS d (db f b)) (db c w);have h3:=TA d (db f b);have h4:=I8 f b;have h5:=I8 c w;have h6:Qi∣c * (w - v):=EJ h1;rw[yT] at h6;have:=xz (xz (xz h2 h3) (xz h4 h5)) h6;refine(congrArg (Qi∣·) ?_).mp this;generalize f * b=x1;generalize c * w=x2;generalize c * v=x3;omega
def ajU{ae}{ag y s}{text}{l}{ld le:Int->Int}(ha:iL ae ag (l.map Pr.aC)=(y,ai,0))(hs:s.length=bV ae):
 Qi∣cG ((l.map Pr.aC).map λk=>pJ ae ag (bF s) text l k (ld k) (le k) (my ag (jl ae s) k)) -
  (cG ((l.map Pr.aC).map λk=>ld k+le k * ((gF (al (bF s) 0) text l k:Nat):Int))+((dR (al (bF s) 0) text l:Nat):Int) * al s 0):=by
 obtain⟨hp,hw,h1,h2,h3,h4⟩:=xM ha;obtain⟨p1,-,-,-⟩:=qZ hp;have hn:=(Pw hw).2;have e1:=HL (q:=Qi) (l:=l.map Pr.aC) (f:=λk=>pJ ae ag (bF s) text l k (ld k) (le k) (my ag (jl ae s) k))
  (g:=λk=>ld k+le k * ((gF (al (bF s) 0) text l k:Nat):Int)+((dR (al (bF s) 0) text l:Nat):Int) * yJ (eP ae ag l) (jl ae s) (iZ ag k))
  λk _=>Xc ae ag (bF s) text l k (ld k) (le k) (jl ae s)
 refine Df e1 ?_;rw[Y5,KL];have hy:eP ae ag l=y:=by unfold eP;rw[ha]
 rw[hy,amY hn h3,<-p1];have h5:=aqR ha hs;have h6:Qi∣((dR (al (bF s) 0) text l:Nat):Int) * (cG ((bL ae.length).map λi=>al y i * al (jl ae s) i) - al s 0):=EJ h5;rw[yT] at h6;refine(congrArg (Qi∣·) ?_).mp h6;omega
def aeb{s}(h:0<s.length):al (bF s) 0=((br Gn (al s 0):Nat):Int):=Sm h
def abA(z):Qi∣z.foldl cS 0 - cG z:=by have:=MU (f:=λx:Int=>x) (l:=z) 0;rw[EN,List.map_id'] at this;exact this
def abB(z:List Int):okF (z.foldl cS 0):=TU (f:=λx:Int=>x) An
def HB{ae}{ag y s}{text}{l}{ld le}(ha:iL ae ag (l.map Pr.aC)=(y,ai,0))(hs:s.length=bV ae)(hl:Lz l ld le):
 ny (al (bF s) 0) text ((dR (al (bF s) 0) text l:Nat):Int) (((l.map Pr.aC).map λk=>pJ ae ag (bF s) text l k (ld k) (le k) (my ag (jl ae s) k)).foldl cS 0)=ai:=by
 obtain⟨hp,-⟩:=xM ha;have mq:0<s.length:=by have:=(tY hp).1;omega
 have h1:=ajU (text:=text) (ld:=ld) (le:=le) ha hs;have h2:=abA ((l.map Pr.aC).map λk=>pJ ae ag (bF s) text l k (ld k) (le k) (my ag (jl ae s) k));have h3:=Df h2 h1;have hpt:=akg (text:=text) hl (al (bF s) 0);have e:(l.map Pr.aC).map (λk=>ld k+le k * ((gF (al (bF s) 0) text l k:Nat):Int))=l.map λp=>ld p.aC+le p.aC * ((gF (al (bF s) 0) text l p.aC:Nat):Int):=by rw[AL];rfl
 rw[e] at h3;have hc:dR (al (bF s) 0) text l=sC ((jX (al (bF s) 0) text l:Nat):Int) (al (bF s) 0) text:=rfl;rw[hpt] at hc;generalize dR (al (bF s) 0) text l=c at *
 generalize cG (l.map λp=>ld p.aC+le p.aC * ((gF (al (bF s) 0) text l p.aC:Nat):Int))=n at *
 rw[aeb mq] at *
 exact aqM hc (abB _) h3
def Qs{ae}{s}{i}(h:i<ae.length):al (jl ae s) i=oi (ae.getD i []) s:=by unfold jl;rw[fx (by simpa using h),pg,kJ h]
def aqO{ae}{ag s}{text}{l}{x}{d f}(hp:dn ae ag=0)(hs:s.length=bV ae)(hd:x.d=((br Gn d:Nat):Int))(he:x.e=((br Gn f:Nat):Int)):
 xr ae ag (bF s) text l x=br Gn (pJ ae ag (bF s) text l x.aC d f (my ag (jl ae s) x.aC)):=by
 obtain⟨p1,p2,p3,p4⟩:=qZ hp;unfold xr;rw[WM hd he,PF (a:=λi=>al (eP ae ag l) i * al (jl ae s) i * ((dR (al (bF s) 0) text l:Nat):Int)) λi hi=>?_];rotate_left 1
 ·have hi:i<ae.length:=by rw[p1];unfold iZ at hi;exact fD.1 (xG.1 hi).1
  rw[Xq (by rw[hs,kJ hi];exact(p3 _ (iS _)).1),<-GX qy,Qs hi];congr 1;rw[yS (al (eP ae ag l) i) (oi _ _),Int.mul_assoc]
 rw[<-Eh qy];refine(PA ?_).symm;have h1:=Xc ae ag (bF s) text l x.aC d f (jl ae s);have e:cG ((iZ ag x.aC).map λi=>al (eP ae ag l) i * al (jl ae s) i * ((dR (al (bF s) 0) text l:Nat):Int))=((dR (al (bF s) 0) text l:Nat):Int) * yJ (eP ae ag l) (jl ae s) (iZ ag x.aC):=by unfold yJ;rw[<-KL];exact QI λi _=>yS _ _
 rw[e];exact h1
def afn{ae}{ag s}{text}{l}{x}{d f z}(hp:dn ae ag=0)(hs:s.length=bV ae)(hd:x.d=((br Gn d:Nat):Int))(he:x.e=((br Gn f:Nat):Int))(hz:okF z):
 decide (br Gn z=xr ae ag (bF s) text l x)=decide (z=pJ ae ag (bF s) text l x.aC d f (my ag (jl ae s) x.aC)):=by
 rw[aqO hp hs hd he,decide_eq_decide];exact⟨λh=>akv hz Xd h,λh=>by rw[h]⟩
def ajH{ae}{ag s}(hp:dn ae ag=0)(hs:s.length=bV ae)(k):mz ae ag (bF s) k (my ag (jl ae s) k)=ai:=by
 obtain⟨p1,p2,p3,p4⟩:=qZ hp;unfold mz my;rw[bA];refine⟨by simp[AL,Function.comp_def],?_⟩;rw[eE];intro q hq;obtain⟨i,hi,rfl⟩:=jE.1 hq;have hi:i<ae.length:=by rw[p1];unfold iZ at hi;exact fD.1 (xG.1 hi).1
 unfold Cu;simp only[dS];have BQ:mS (bF s) (ae.getD i [])=br Gn (oi (ae.getD i []) s):=Xq (by rw[hs,kJ hi];exact(p3 _ (iS _)).1);rw[Qs hi,qU.2 (aeM _ _),Bool.true_and];exact cz BQ.symm
def Xb{l}{dH}(h:mb dH l=true){p}(hp:p∈l):pI l p.aC=some p:=by
 induction l generalizing dH with
 |nil=>simp at hp|cons q l ih=>
  rw[mb] at h;simp only[bA,decide_eq_true_eq] at h;unfold pI;rw[List.find?_cons];rcases jm.1 hp with rfl|hp
  ·simp
  ·have F9:∀{l:List Pr} {dH:Int},mb dH l=ai->∀p∈l,dH<p.aC:=by
    intro l
    induction l with
    |nil=>intro _ _ p hp;simp at hp|cons q l ih=>
     intro dH h p hp;rw[mb] at h;simp only[bA,decide_eq_true_eq] at h;rcases jm.1 hp with rfl|hp
     ·exact h.1.1.1.1.1.1
     ·have:=ih h.2 p hp;have:=h.1.1.1.1.1.1;omega
   have:=F9 h.2 p hp;have bE:decide (q.aC=p.aC)=ay:=cX ah;rw[bE];exact ih h.2 hp
def aiL{ae}{ag s}{text}{l}{dH}(hp:dn ae ag=0)(hs:s.length=bV ae)(hl:mb dH l=ai){x}(hx:x∈l){d f}(hd:x.d=((br Gn d:Nat):Int))(he:x.e=((br Gn f:Nat):Int))(od:okF d)(of_:okF f):
 Ak ae ag (bF s) text l x.aC (my ag (jl ae s) x.aC) d f=(pJ ae ag (bF s) text l x.aC d f (my ag (jl ae s) x.aC),0):=by
 unfold Ak;rw[Xb hl hx];simp only[qU.2 od,qU.2 of_,ajH hp hs,hd,he];simp[pJ]
end Go.NT
end
section
namespace Go.Proofs.YtnfciiiohoafaaaGreatDoor
open Go.AE Go.NT
def SM:tQ aK []:=λg h=>nomatch h
def alD(a n:Int)(h:ao):W.call 132 [im a,im n] h=aa (.ret (.tuple [im (eU a n),im (mo a)]),h):=by
 have ca:=Ky a;unfold eU mo;by_cases ha:b9 a=ai
 ·rw[aD ha,aD ha];rw[ha] at ca;obtain⟨x,rfl,hx,x1,x2⟩:=A7 ha;have ce:=afe n;have az:=MS n;have hm:=Bg n;have cp:=XN (br x n) x (fmod n).toNat (by have:Q=1073741789:=rfl;omega) (nG.start x2 (by have:Q=1073741789:=rfl;omega));rw[hm] at cp;simp only[dS];clear ha hx x1 x2 az hm;unfold im at *
  refine cN rfl aa5 rfl ?_;exact kK @XR
 ·have pY:b9 a=ay:=by simpa using ha
  rw[aG ha,aG ha];rw[pY] at ca;unfold im at *
  refine cN rfl aa5 rfl ?_;exact kK @XR
def alx(a b:Int)(h:ao):W.call 140 [im a,im b] h=aa (.ret (.tuple [im (jy a b),im (nf a b)]),h):=by
 have ca:=Ky a;have cb:=Ky b;unfold jy nf;by_cases ha:b9 a=ai
 ·by_cases hb:b9 b=ai
  ·rw[aD ⟨ha,hb⟩,aD ⟨ha,hb⟩];rw[ha] at ca;rw[hb] at cb;obtain⟨x,rfl,-,-,x2⟩:=A7 ha;obtain⟨y,rfl,-,-,y2⟩:=A7 hb;obtain⟨m1,m2,-⟩:=mul_tmod x2 y2;simp only[dS];have e1:((x:Nat):Int) * (y:Nat)=((x * y:Nat):Int):=(Int.natCast_mul _ _).symm;have e3:((x * y:Nat):Int).tmod 2147483579=((x * y%P:Nat):Int):=o9 (x * y) 2147483579;rw[e1] at m1 m2;clear ha hb;unfold im at *
   refine cN rfl RO rfl ?_;exact kK @PY
  ·have gQ:b9 b=ay:=(by simpa using hb);rw[aG (λq=>hb q.2),aG (λq=>hb q.2)];rw[ha] at ca;rw[gQ] at cb;unfold im at *
   refine cN rfl RO rfl ?_;exact kK @PY
 ·have pY:b9 a=ay:=by simpa using ha
  rw[aG (λq=>ha q.1),aG (λq=>ha q.1)];rw[pY] at ca;unfold im at *
  refine cN rfl RO rfl ?_;exact kK @PY
def ant:Tryz.f223.results.toList=[.tmp 2]:=aw
def anu:Tryz.f224.results.toList=[.tmp 4]:=aw
def Yc:Tryz.f225.results.toList=[.cell 0 242]:=aw
def Ho:Tryz.f190.results.toList=[.cell 2 177]:=aw
def amy(v:BitVec 32)(n:Nat)(h0:0<n)(hn:n<32)(h:ao):W.call 224 [aN v,im (n:Nat)] h=aa (.ret (aN (NT.dD v n)),h):=by
 have e1:IntKind.i64.wrap (32 - ((n:Nat):Int))=((32 - n:Nat):Int):=by rw[fh ah ah];omega
 have s1:∀t x y,cQ aj .shr t x y (aN v) (.v (.int .i64 (n:Nat)))=aa (aN (v>>>n)):=λt x y=>sw hn;have s2:∀t x y,cQ aj .shl t x y (aN v) (.v (.int .i64 ((32 - n:Nat):Int)))=aa (aN (v<<<(32 - n))):=λt x y=>rn ah;have e3:NT.dD v n=(v>>>n)|||(v<<<(32 - n)):=rfl
 rw[e3];unfold im;refine cN rfl Tryz.func224 rfl ?_
 repeat' (first|simp(maxSteps:=999999)(disch:=first|exact dZ|fail)only[gW,reduceIte,aY,aR,anu,o7, *]|(refine dX ?_ ?_<;>(intro _;try omega))|refine fQ SM aw ?_)
def aqX{a0 a1 a2 a3}(h0:a0<256)(h1:a1<256)(h2:a2<256)(h3:a3<256):(((a0<<<24)|||(a1<<<16))|||(a2<<<8))|||a3=(a0 * 256+a1) * 256 * 256+a2 * 256+a3:=by
 have e0:a0<<<24=(a0<<<8)<<<16:=by rw[<-Rw]
 have e1:a1<<<16=(a1<<<8)<<<8:=by rw[<-Rw]
 have e2:(a0<<<8)<<<16=((a0<<<8)<<<8)<<<8:=by rw[<-Rw (a0<<<8) 8 8]
 rw[e0,e1,e2,<-Rx,<-Rx,<-Rx,<-LK (show a1<2^8 from h1),<-LK (show a2<2^8 from h2),<-LK (show a3<2^8 from h3),AU,AU,AU];omega
def aqY{b}:(BitVec.ofNat 32 (dp b 0).toNat<<<24|||BitVec.ofNat 32 (dp b 1).toNat<<<16)|||BitVec.ofNat 32 (dp b 2).toNat<<<8|||BitVec.ofNat 32 (dp b 3).toNat=pP b 0:=by
 have h0:=uI (dp b 0);have h1:=uI (dp b 1);have h2:=uI (dp b 2);have h3:=uI (dp b 3);unfold pP;rw[<-aqX h0 h1 h2 h3];generalize (dp b 0).toNat=a0 at *
 generalize (dp b 1).toNat=a1 at *
 generalize (dp b 2).toNat=a2 at *
 generalize (dp b 3).toNat=a3 at *
 rw[BitVec.ofNat_or,BitVec.ofNat_or,BitVec.ofNat_or];have sh:∀a k:Nat,BitVec.ofNat 32 (a<<<k)=BitVec.ofNat 32 a<<<k:=λa k=>by apply BitVec.eq_of_toNat_eq;rw[BitVec.toNat_shiftLeft,BitVec.toNat_ofNat,BitVec.toNat_ofNat,AU,AU,Nat.mod_mul_mod]
 rw[sh,sh,sh]
def cvw(c)(h):mY aj h 5 42 (bT c)=aa (aN (BitVec.ofNat 32 c.toNat),h):=by unfold bT;rw[Ti];unfold aN;have:=uI c;rw[wrap32,BitVec.toNat_ofNat];congr 3
def JQ{h}{b}{i}(hi:i<b.length):aF aj Gt h 5 (.elem 1 (aX b) i 0)=aa (bT (dp b i)):=by rw[r9 IB (row:=jQ (dp b i)) (by rw[eR,a9 hi];unfold dp;rw[eQ,a9 hi];rfl)];rfl
def aoH{t}{x y}{u}:cQ aj .shl t x y (aN u) (.v (.int .u64 24))=aa (aN (u<<<24))/\cQ aj .shl t x y (aN u) (.v (.int .u64 16))=aa (aN (u<<<16))/\cQ aj .shl t x y (aN u) (.v (.int .u64 8))=aa (aN (u<<<8)):=⟨rn (n:=24) aO,rn (n:=16) aO,rn (n:=8) aO⟩
def aoj(b:List UInt8)(hb:4<=b.length)(k:Tok)(h:ao):W.call 223 [.list k 1 (aX b)] h=aa (.ret (aN (pP b 0)),h):=by
 have ix:∀n:Nat,n<b.length->dx aj 28 (.list k 1 (aX b)) (.v (.int .i64 (n:Nat)))=aa (.elem 1 (aX b) n 0):=λn hn=>by rw[ck jb sH ah (by rw[bJ];omega),dS]
 have i0:=ix 0 ah;have i1:=ix 1 ah;have i2:=ix 2 ah;have i3:=ix 3 ah;have l0:=JQ (h:=h) (ah:0<b.length);have l1:=JQ (h:=h) (ah:1<b.length);have l2:=JQ (h:=h) (ah:2<b.length);have l3:=JQ (h:=h) (ah:3<b.length);rw[<-aqY];simp only[tU,Int.natCast_one] at i0 i1;have i2:dx aj 28 (.list k 1 (aX b)) (.v (.int .i64 2))=aa (.elem 1 (aX b) 2 0):=i2;have i3:dx aj 28 (.list k 1 (aX b)) (.v (.int .i64 3))=aa (.elem 1 (aX b) 3 0):=i3;clear ix;refine cN rfl Tryz.func223 rfl ?_
 repeat' (first|simp(maxSteps:=999999)(disch:=first|exact dZ|fail)only[gW,reduceIte,aY,aR,ant,cvw,aoH,o7, *]|(refine dX ?_ ?_<;>(intro _;try omega))|refine fQ SM aw ?_)
def anq:Tryz.f210.results.toList=[.tmp 2]:=aw
def aoE{t}{x y}{n}(hn:n<=4611686018427387903):cQ aj .shl t x y (.v (.int .u64 (n:Nat))) (.v (.int .u64 1))=aa (.v (.int .u64 ((2 * n:Nat):Int))):=by rw[Mk aO];congr 3;show IntKind.u64.wrap (((n:Nat):Int) * 2)=_;unfold IntKind.wrap;simp[IntKind.signed,IntKind.bits];omega
def aoI{t}{x y}{n}(hn:n<=4611686018427387903):cQ aj .shr t x y (.v (.int .i64 (n:Nat))) (.v (.int .u64 63))=aa (.v (.int .i64 0)):=by rw[A0 aO];congr 3;show((n:Nat):Int).fdiv (2^63)=_;rw[EK _ aO];omega
def aq7{t}{x y}{n}(hn:n<=4611686018427387903):cQ aj .xor t x y (.v (.int .u64 ((2 * n:Nat):Int))) (.v (.int .u64 0))=aa (.v (.int .u64 ((2 * n:Nat):Int))):=by
 rw[Sr];congr 3;have e1:(BitVec.ofInt IntKind.u64.bits ((2 * n:Nat):Int)^^^BitVec.ofInt IntKind.u64.bits 0).toNat=2 * n:=by show(BitVec.ofInt 64 ((2 * n:Nat):Int)^^^0#64).toNat=2 * n;rw[BitVec.xor_zero,BitVec.toNat_ofInt];omega
 rw[e1];unfold IntKind.wrap;simp[IntKind.signed,IntKind.bits];omega
def vP{n}(hn:n<18446744073709551616):IntKind.u64.wrap ((n:Nat):Int)=((n:Nat):Int):=by unfold IntKind.wrap;simp[IntKind.signed,IntKind.bits];omega
def aqw(n)(hn:n<=4611686018427387903)(h):W.call 210 [.v (.int .i64 (n:Nat))] h=aa (.ret (.v (.int .u64 (kU n:Nat))),h):=by
 have e:kU (n:Int)=2 * n:=by unfold kU;rw[aD ah,dS]
 rw[e];have e1:=vP (n:=n) ah;have e2:IntKind.u64.wrap 0=0:=rfl;have s1:=λt x y=>aoE (t:=t) (x:=x) (y:=y) hn;have s2:=λt x y=>aoI (t:=t) (x:=x) (y:=y) hn;have s3:=λt x y=>aq7 (t:=t) (x:=x) (y:=y) hn;refine cN rfl Tryz.func210 rfl ?_;exact jq @anq @qG
def L1:List bq:=[28,29,30,46,65,66,69,78,82,94,132,138,140,194,201,210,223,224]
noncomputable def PC:bq->Option (List AV->ao->Option (AV × ao)):=tX W L1
noncomputable abbrev W1:=whole aj Gt PC
def uS:tQ PC L1:=FC
def fJ{t}(k):AD t (ct k)=ai:=by cases k<;>rfl
def qP:∀b:List UInt8,fS (aX b)=aX b
 | []=>rfl
 |c::b=>by show cA (jQ c)::fS (aX b)=_;rw[qP b];rfl
def kC{n l t}:∀b:List UInt8,iU n l t (aX b)=ai
 | []=>rfl
 |c::b=>by show(bg n l t (jQ c)&&iU n l t (aX b))=ai;rw[kC b];rfl
def Vt:∀l:List Int,fS (ints l)=ints l
 | []=>rfl
 |c::b=>by show cA (vq c)::fS (ints b)=_;rw[Vt b];rfl
def ud{n l t}:∀b:List Int,iU n l t (ints b)=ai
 | []=>rfl
 |c::b=>by show(bg n l t (vq c)&&iU n l t (ints b))=ai;rw[ud b];rfl
section
variable (a b n x:Int)
def abr:∀h,W1.call 28 [im a,im b] h=aa (.ret (im (cS a b)),h):=cC (L:=L1) rfl rfl rfl (abz a b _) rfl rfl
def aiZ:∀h,W1.call 29 [im a,im b] h=aa (.ret (im (db a b)),h):=cC (L:=L1) rfl rfl rfl (O8 a b _) rfl rfl
def ahT:∀h,W1.call 201 [im n] h=aa (.ret (.tuple [im (if fmod n=0 then 0 else fL n),im (if fmod n=0 then 90 else 0)]),h):=cC (L:=L1) rfl rfl rfl (ahV n _) rfl rfl
def aqF:∀h,W1.call 46 [im x] h=aa (.ret (.v (.bool (b9 x))),h):=cC (L:=L1) rfl rfl rfl (KW x _) rfl rfl
def afS:∀h,W1.call 69 [im a,im b] h=aa (.ret (.tuple [im (jy a b),im (nf a b)]),h):=cC (L:=L1) rfl rfl rfl (afW a b _) rfl rfl
def afX:∀h,W1.call 30 [im a,im n] h=aa (.ret (.tuple [im (eU a n),im (mo a)]),h):=by obtain⟨h',hc,-⟩:=af0 a n ⟨[],[],0,[]⟩;exact cC (L:=L1) rfl rfl rfl hc rfl rfl
def aoa:∀h,W1.call 94 [im x] h=aa (.ret (.v (.bool (b9 x))),h):=cC (L:=L1) rfl rfl rfl (Ky x _) rfl rfl
def alq:∀h,W1.call 140 [im a,im b] h=aa (.ret (.tuple [im (jy a b),im (nf a b)]),h):=cC (L:=L1) rfl rfl rfl (alx a b _) rfl rfl
def aly:∀h,W1.call 132 [im a,im n] h=aa (.ret (.tuple [im (eU a n),im (mo a)]),h):=cC (L:=L1) rfl rfl rfl (alD a n _) rfl rfl
end
def aqv(n)(hn:n<=4611686018427387903):∀h,W1.call 210 [.v (.int .i64 (n:Nat))] h=aa (.ret (.v (.int .u64 (kU n:Nat))),h):=cC (L:=L1) rfl rfl rfl (aqw n hn _) rfl rfl
def w8(v)(n)(h0:0<n)(hn:n<32):∀h,W1.call 224 [aN v,im (n:Nat)] h=aa (.ret (aN (NT.dD v n)),h):=cC (L:=L1) rfl rfl rfl (amy v n h0 hn _) rfl rfl
def aoi(b)(hb:4<=b.length)(k):∀h,W1.call 223 [.list k 1 (aX b)] h=aa (.ret (aN (pP b 0)),h):=
 cC (L:=L1) (dL:=[.list (ct k) 1 (aX b)]) rfl (by rw[cA,aI,qP];rfl) (by simp[bg,aW,fJ,kC]) (aoj b hb _ _) rfl rfl
def afN(bh b)(k)(hb:b.length<=1099511620000)(ht:bh.length<=1099511620000):∀h,W1.call 78 [.v (.string (bs bh)),.list k 1 (aX b)] h=aa (.ret (im (nh (fZ bh b):Nat)),h):=by obtain⟨h',hc,-⟩:=afR bh b (.list (ct k) 1 (aX b)) ⟨[],[],0,[]⟩ (dO.list (ze _) λ_=>rfl) hb ht;exact cC (L:=L1) (dL:=[.v (.string (bs bh)),.list (ct k) 1 (aX b)]) rfl (by rw[cA,cA,aI.eq_1,qP];rfl) (by simp[bg,aW,fJ,kC]) hc rfl rfl
def sv(s:List UInt8):AV:=.v (.string (bs s))
def bf(k n:Int)(s:List UInt8)(t:Tok)(sz:Nat)(ae:List (List AV)):List AV:=[im k,im n,sv s,.list t sz ae]
inductive dh:Vl->List AV->Prop
 |int (n:Int) (hn:0<=n/\n<=4611686018427387903):dh (.int n) (bf 1 n [] .nil 0 [])
 |text (s:List UInt8) (hs:s.length<=1099511620000):dh (.text s) (bf 2 0 s .nil 0 [])
 |list (l:List Vl) (k:Tok) (sz:Nat) (ae:List (List AV)) (hl:ae.length=l.length) (hs:ae≠[]->sz=4) (hm:ae.length<=1000000) (h:∀(i:Nat) v r,l[i]?=aa v->ae[i]?=aa r->dh v r):dh (.list l) (bf 3 0 [] k sz ae)
def dh.len{v}{r}(h:dh v r):r.length=4:=by cases h<;>rfl
def kV{k n}{s}{t}{sz}{ae}:(AV.agg (bf k n s t sz ae)).bU=aa (bf k n s t sz ae):=rfl
def dh.cells{v}{r}(h:dh v r):(AV.agg r).bU=aa r:=by cases h<;>rfl
def Hs:Tryz.f207.results.toList=[.tmp 2,.tmp 3]:=aw
def LZ:fY aj 96=aa ai:=aw
def rp:dm aj 96=aa 4:=aw
def Sc:fY aj 94=aa ay:=aw
def ag9:fY aj 9=aa ay:=aw
def ag4:fY aj 4=aa ay:=aw
def aqb:dm aj 246=aa 4:=aw
section
variable {H:ao} {b:Nat} {k n:Int} {s:List UInt8} {t:Tok} {sz:Nat} {ae:List (List AV)}
def r8(hb:H.boxes[b]?=aa (bf k n s t sz ae)):aF aj Gt H 3 (.ptr (.box b) 0)=aa (.v (.int .i64 k)):=by rw[ma eM hb];rfl
def vy(hb:H.boxes[b]?=aa (bf k n s t sz ae)):aF aj Gt H 3 (.ptr (.box b) 1)=aa (.v (.int .i64 n)):=by rw[ma eM hb];rfl
def tJ(hb:H.boxes[b]?=aa (bf k n s t sz ae)):aF aj Gt H 9 (.ptr (.box b) 2)=aa (.v (.string (bs s))):=by rw[ma ag9 hb];rfl
def oZ(hb:H.boxes[b]?=aa (bf k n s t sz ae)):aF aj Gt H 94 (.ptr (.box b) 3)=aa (.list t sz ae):=by rw[ma Sc hb];rfl
def rZ{r:List AV}(hr:r.length=4)(hb:H.boxes[b]?=aa r):aF aj Gt H 96 (.ptr (.box b) 0)=aa (.agg r):=by rw[jj LZ rp hb ah,iB,<-hr,gM]
end
def fU:(∀b,gi aj 96 (.ptr (.box b) 0) 0=aa (.ptr (.box b) 0))/\(∀b,gi aj 96 (.ptr (.box b) 0) 1=aa (.ptr (.box b) 1))/\(∀b,gi aj 96 (.ptr (.box b) 0) 2=aa (.ptr (.box b) 2))/\∀b,gi aj 96 (.ptr (.box b) 0) 3=aa (.ptr (.box b) 3):=⟨λ_=>aw,λ_=>aw,λ_=>aw,λ_=>aw⟩
def b4(a b c:Bool):List AV:=[.v (.bool ay),.v (.bool a),.v (.bool b),.v (.bool c)]
def Me(a b c):mF aj 246 [(1,.v (.bool a)),(2,.v (.bool b)),(3,.v (.bool c))]=aa (.agg (b4 a b c)):=aw
def arf:(gy aj 246).bind AV.bU=aa (b4 ay ay ay):=aw
def AG:(gy aj 96).bind AV.bU=aa (bf 0 0 [] .nil 0 []):=aw
def Qw(H:ao)(a b c):b8 aj (H.push (b4 ay ay ay)) 246 (.ptr (.box H.boxes.length) 0) (.agg (b4 a b c))=aa (H.push (b4 a b c)):=jt rfl aqb rfl rfl
def OJ{b n}{k}(hn:n<4):dx aj 246 (.ptr (.box b) 0) (.v (.int k (n:Nat)))=aa (.ptr (.box b) n):=by have h1:aj.underlying 246=aa (.array 4 4):=Tryz.underlying246;have sz4:dm aj 4=aa 1:=aw;unfold dx;simp only[h1,sz4];rw[aD ⟨ah,by omega⟩];simp
def OK{b}:dx aj 246 (.ptr (.box b) 0) (.v (.int .i64 1))=aa (.ptr (.box b) 1)/\dx aj 246 (.ptr (.box b) 0) (.v (.int .i64 2))=aa (.ptr (.box b) 2)/\dx aj 246 (.ptr (.box b) 0) (.v (.int .i64 3))=aa (.ptr (.box b) 3):=⟨OJ (n:=1) aO,OJ (n:=2) aO,OJ (n:=3) aO⟩
def ldb{H}{b}{x y z}(hb:H.boxes[b]?=aa (b4 x y z)):aF aj Gt H 4 (.ptr (.box b) 1)=aa (.v (.bool x))/\aF aj Gt H 4 (.ptr (.box b) 2)=aa (.v (.bool y))/\aF aj Gt H 4 (.ptr (.box b) 3)=aa (.v (.bool z)):=by refine⟨?_,?_,?_⟩<;>(rw[ma ag4 hb];rfl)
def OL{H:ao}{x}{p q r}:aF aj Gt ((H.push x).push (b4 p q r)) 4 (.ptr (.box (H.push x).boxes.length) 1)=aa (.v (.bool p))/\aF aj Gt ((H.push x).push (b4 p q r)) 4 (.ptr (.box (H.push x).boxes.length) 2)=aa (.v (.bool q))/\aF aj Gt ((H.push x).push (b4 p q r)) 4 (.ptr (.box (H.push x).boxes.length) 3)=aa (.v (.bool r)):=ldb (bp _ _)
def QH{H:ao}{v}{r}(hv:dh v r):b8 aj (H.push (bf 0 0 [] .nil 0 [])) 96 (.ptr (.box H.boxes.length) 0) (.agg r)=aa (H.push r):=jt hv.cells rp hv.len rfl
def GI{H}{ae}{i}{r}(hl:r.length=4)(hr:ae[i]?=aa r):aF aj Gt H 96 (.elem 4 ae i 0)=aa (.agg r):=by rw[JS LZ rp hr ah,iB,<-hl,gM]
def MC:∀l m:List Vl,gO (l++m)=max (gO l) (gO m)
 | [],m=>by simp[gO]
 |v::l,m=>by rw[jO,gO,gO,MC l m,Nat.max_assoc]
def MD{l:List Vl}{i}{v}(h:l[i]?=aa v):gO (l.take (i+1))=max (gO (l.take i)) (gg v):=by rw[gx h,MC];simp[gO]
def ME(l)(i):gO (l.take i)<=gO l:=by have:=MC (l.take i) (l.drop i);rw[xI] at this;omega
def Tm{l}{i:Nat}{v}(h:l[i]?=aa v):gg v<=gO l:=by have h1:=MD h;have h2:=ME l (i+1);omega
def afB{v:Vl}{r:List AV}(hv:dh v r):gg v<=100->∀h,∃h',W1.call 207 [.agg r] h=aa (.ret (.tuple [.v (.int .i64 (gg v:Nat)),.v (.bool ai)]),h')/\Ext h h':=by
 have u9:=C0;have u94:=qD;have z:=arf
 induction hv with
 |int n hn=>
  intro _ h;refine ij rfl RS rfl ?_;show bM _ _ _ _ (zu _ _ _ _ (.ret (.tuple [.v (.int .i64 0),.v (.bool ai)])) _)
  repeat' (first|simp(maxSteps:=999999)(disch:=first|exact dZ|fail)only[gW,reduceIte,aY,aR,Hs,Me,Qw,kV,r8,vy,tJ,oZ,OK,fU,OL,jP,tU,decide_true, *]|refine dX ?_ ?_<;>(intro _;try omega))
  all_goals exact⟨_,rfl,(Ext.push _ _).trans (Ext.push _ _)⟩
 |text s hs=>
  intro _ h;refine ij rfl RS rfl ?_;show bM _ _ _ _ (zu _ _ _ _ (.ret (.tuple [.v (.int .i64 0),.v (.bool ai)])) _)
  repeat' (first|simp(maxSteps:=999999)(disch:=first|exact dZ|fail)only[gW,reduceIte,aY,aR,Hs,Me,Qw,kV,r8,vy,tJ,oZ,OK,fU,OL,jP,tU,decide_true, *]|refine dX ?_ ?_<;>(intro _;try omega))
  all_goals exact⟨_,rfl,(Ext.push _ _).trans (Ext.push _ _)⟩
 |list l k sz ae hl hs hm hr ih=>
  intro hd h;have kd:=aq.mk hd;have kr:=aq.mk hr;have kih:=aq.mk ih;have kh:=aq.mk hs;have kl:=aq.mk hl;refine ij rfl RS rfl ?_;clear hr ih hs hd hl;by_cases h0:(ae.length:Int)=0
  all_goals
   repeat' (first|simp(maxSteps:=999999)(disch:=first|exact dZ|fail)only[gW,reduceIte,aY,aR,Hs,Me,Qw,kV,r8,vy,tJ,oZ,OK,fU,OL,tU,decide_true, *]|refine dX ?_ ?_<;>(intro _;try omega))
   refine de (λm e H=>∃i:Nat,i<=ae.length/\m=ae.length - i/\e.get 55=.list k sz ae/\e.get 56=.v (.int .i64 (ae.length:Nat))/\e.get 57=.v (.int .i64 i)/\e.get 2=.v (.int .i64 (gO (l.take i):Nat))/\e.defers=[]/\Ext h H) ?_ ae.length _ _ ?_;rotate_left 1
   ·refine⟨0,df _,rfl,?_,?_,?_,?_,?_,(Ext.push _ _).trans (Ext.push _ _)⟩<;>(first|assumption|(simp only[gW,reduceIte,aY,aR]<;>first|rfl|(rw[h0])))
   rintro m e H ⟨i,hi,rfl,g55,g56,g57,g2,hd,hX⟩;have kX:=aq.mk hX;clear hX;by_cases az:i<ae.length
   ·obtain⟨r,hr⟩:∃r,ae[i]?=aa r:=⟨_,a9 az⟩;obtain⟨v,hv⟩:∃v,l[i]?=aa v:=⟨_,a9 (by have:=kl.out;omega)⟩;have dU:=kr.out i v r hv hr;have h4:sz=4:=kh.out (by rintro rfl;simp at az);subst h4;have wM:gg (.list l)=gO l+1:=rfl;have hdv:=Tm hv;have Bq:=ME l i;have F5:=kd.out;obtain⟨H2,c1,x1⟩:=kih.out i v r hv hr ah (H.push r);have ld:=GI (H:=H) dU.len hr;have st:=QH (H:=H) dU;have l2:aF aj Gt (H.push r) 96 (.ptr (.box H.boxes.length) 0)=aa (.agg r):=rZ dU.len (bp _ _);have zz:=AG;have s96:=rp;have kX2:=aq.mk (kX.out.trans ((Ext.push H r).trans x1));have kst:=aq.mk (MD hv);have Gd:(i:Int)<(ae.length:Int):=(by omega);clear kX dU hv hr x1 wM F5;have qb:(if ((gO (l.take i):Nat):Int)<((gg v:Nat):Int) then ((gg v:Nat):Int) else ((gO (l.take i):Nat):Int))=((max (gO (l.take i)) (gg v):Nat):Int):=by split<;>omega
    repeat' (first|simp(maxSteps:=999999)(disch:=first|exact dZ|fail)only[gW,reduceIte,aY,aR,Hs,ck,Ci, *]|refine dX ?_ ?_<;>(intro _;try omega))
    all_goals exact⟨ae.length - (i+1),by omega,i+1,by omega,rfl,by trivial,by trivial,by simp,by rw[kst.out],by trivial,kX2.out⟩
   ·have:i=ae.length:=(by omega);subst this;have F5:=kd.out;have e1:l.take ae.length=l:=(by rw[kl.out];exact gM);rw[e1] at g2;have wM:gg (.list l)=gO l+1:=rfl;rw[wM] at F5 ⊢;have e2:((gO l+1:Nat):Int)=((gO l:Nat):Int)+1:=by omega
    repeat' (first|simp(maxSteps:=999999)(disch:=first|exact dZ|fail)only[gW,reduceIte,aY,aR,Hs, *]|refine dX ?_ ?_<;>(intro _;try omega))
    all_goals exact⟨_,rfl,kX.out⟩
def P5:Tryz.f209.results.toList=[.tmp 4]:=aw
def IC{H}{k}{n0 sz}{es new}{x}{t1}(h1:(∃e,aj.underlying t1=aa (.slice e))∨aj.underlying t1=aa .string)(hx:mw H 1 x=aa (aX new))(bE:new≠[])(hl:es.length+new.length<=8796093022208)(hs:sz=1∨(es=[]/\k=.nil))(hk:dQ n0 H k):
 gd aj H #[28,t1] (.list k sz (aX es)) x=aa (.list (.free H.tn) 1 (aX (es++new)),H.app k):=by
 obtain⟨i,q1,q2,q3,q4⟩:=Cb;have hb:=ry hl q3;have:=Fq (t0:=28) (n0:=n0) (i:=i) (sz:=sz) (es:=aX es) (new:=aX new) jb h1 q1 ah (by rw[q2];exact q4) (by rw[q2];exact hx) (by simpa using bE)
  (by rw[bJ,bJ];omega) (by rw[bJ,bJ];omega) (hs.imp (λq=>q.trans q2.symm) λq=>⟨by rw[q.1];rfl,q.2⟩) hk
 rw[this,q2];simp[aX]
def y8{H}{k k'}{n0 sz}{es}{c}(hl:es.length<8796093022208)(hs:sz=1∨(es=[]/\k=.nil))(hk:dQ n0 H k):
 gd aj H #[28,28] (.list k sz (aX es)) (.list k' 1 [[bT c]])=aa (.list (.free H.tn) 1 (aX (es++[c])),H.app k):=
 IC (new:=[c]) (.inl ⟨_,jb⟩) rfl bG (by simp;omega) hs hk
def zd(c):gN aj 28 1 [(0,bT c)]=aa (.list .tight 1 [[bT c]]):=aw
def ajz(c):c%256|||128=c%128+128:=by
 have h:∀d:Fin 256,(d.val|||128)=d.val%128+128:=by decide+kernel
 have:=h ⟨c%256,mE _ aO⟩;simp only at this;rw[this];omega
def ajA{t}{x y}(c):cQ aj .or t x y (.v (.int .u8 (IntKind.u8.wrap (c:Nat)))) (.v (.int .u8 128))=aa (bT (UInt8.ofNat (c%128+128))):=by
 have hw:IntKind.u8.wrap ((c:Nat):Int)=((c%256:Nat):Int):=by unfold IntKind.wrap;simp[IntKind.signed,IntKind.bits]
 have ht:(UInt8.ofNat (c%128+128)).toNat=c%128+128:=by have:(UInt8.ofNat (c%128+128)).toNat=(c%128+128)%256:=UInt8.toNat_ofNat';omega
 unfold bT;rw[hw,Mj,ht];congr 3;have e1:BitVec.ofInt IntKind.u8.bits ((c%256:Nat):Int)=BitVec.ofNat 8 (c%256):=by apply BitVec.eq_of_toNat_eq;show(BitVec.ofInt 8 ((c%256:Nat):Int)).toNat=(BitVec.ofNat 8 (c%256)).toNat;rw[BitVec.toNat_ofInt,BitVec.toNat_ofNat];omega
 have e3:(BitVec.ofInt IntKind.u8.bits ((c%256:Nat):Int)|||BitVec.ofInt IntKind.u8.bits 128).toNat=c%128+128:=by rw[e1];show(BitVec.ofNat 8 (c%256)|||128#8).toNat=_;rw[BitVec.toNat_or,BitVec.toNat_ofNat,nF (ah:c%256<2^8)];exact ajz c
 rw[e3,ML ah ah]
def aoJ{t}{x y}{n}:cQ aj .shr t x y (.v (.int .u64 (n:Nat))) (.v (.int .u64 7))=aa (.v (.int .u64 ((n/128:Nat):Int))):=by rw[A0 aO];congr 3;show((n:Nat):Int).fdiv (2^7)=_;rw[EK _ aO];simp
def nP:∀(k u:Nat),(fB k u).length<=k+1
 |0,u=>by simp[fB]
 |k+1,u=>by
  rw[fB];split
  ·simp
  ·have:=nP k (u/128);simp;omega
def Pg(u:Nat)(hu:u<18446744073709551616)(es:List UInt8)(k:Tok)(sz n0:Nat)(h:ao)(ho:dj h=ai)(hk:dQ n0 h k)(hn:n0<=h.tn)(hs:sz=1∨(es=[]/\k=.nil))(hl:es.length<=1099511627776):
 ∃r h',W1.call 209 [.list k sz (aX es),.v (.int .u64 (u:Nat))] h=aa (r,h')/\∃t,r=.ret (.list t 1 (aX (es++fB 9 u)))/\Grown n0 h h' t:=by
 have kG:=aq.mk (Grown.refl hk ho);clear hk ho;refine ec rfl Tryz.func209 rfl ?_;refine bR @P5 ?_;refine de (λm e H=>∃(j:Nat) (t:Tok) (cur:List UInt8) (s:Nat),j<=9/\m<2 * 128^j/\cur++fB j m=es++fB 9 u/\cur.length+j=es.length+9/\(s=1∨(cur=[]/\t=.nil))/\e.get 0=.list t s (aX cur)/\e.get 1=.v (.int .u64 (m:Nat))/\e.defers=[]/\Grown n0 h H t) ?_ u _ _ ?_;rotate_left 1
 ·exact⟨9,k,es,sz,aJ _,by simpa using hu,rfl,rfl,hs,by exact gR,by exact gR,by exact gR,kG.out⟩
 clear kG hu;rintro m e H ⟨j,t,cur,s,hj,hm,hq,cV,hs,g0,g1,hd,hG⟩;have kG:=aq.mk hG;have can:=aq.mk hG.can;clear hG;by_cases FM:m<128
 ·have Gl:=WO (k:=j) FM;rw[Gl] at hq;have uv:bT (UInt8.ofNat m)=.v (.int .u8 ((m:Nat):Int)):=by have:(UInt8.ofNat m).toNat=m%256:=UInt8.toNat_ofNat';unfold bT;rw[this,nF ah]
  have eo:¬((128:Int)<=((m:Nat):Int)):=by omega
  have ap:=y8 (k':=.tight) (c:=UInt8.ofNat m) (ah:cur.length<8796093022208) hs can.out;rw[hq] at ap;have bl:=zd (UInt8.ofNat m);rw[uv] at ap bl;clear hm FM Gl hq uv;refine cq @P5 @Dc ?_;exact⟨_,_,rfl,_,rfl,kG.out.app hn⟩
 ·obtain⟨j',rfl⟩:∃j',j=j'+1:=⟨j - 1,by
   rcases j with _|j
   ·omega
   ·omega⟩
  have Gl:=WQ (k:=j') (ah:128<=m);rw[Gl] at hq;have eo:(128:Int)<=((m:Nat):Int):=by omega
  have bl:=zd (UInt8.ofNat (m%128+128));have ap:=y8 (k':=.tight) (c:=UInt8.ofNat (m%128+128)) (ah:cur.length<8796093022208) hs can.out;have kq:=aq.mk hq;have km:=aq.mk hm;clear Gl hq hm;refine bW @P5 @Dc @ajA @aoJ ?_;refine⟨m/128,by omega,j',.free H.tn,cur++[UInt8.ofNat (m%128+128)],1,by omega,?_,?_,by simp;omega,.inl rfl,by trivial,by trivial,by trivial,kG.out.app hn⟩
  ·have:=km.out;rw[AT] at this;omega
  ·rw[tV];exact kq.out
def anm:Tryz.f184.results.toList=[.tmp 0]:=aw
def P4:Tryz.f208.results.toList=[.tmp 4]:=aw
def P6:Tryz.f211.results.toList=[.tmp 4]:=aw
def Ep:Tryz.f212.results.toList=[.tmp 5]:=aw
def gP:AV:=.v .nilFunc
def vO(a:Nat):List AV:=[gP,.func (.func 208) [] [],.func (.func 211) [] [],.func (.func 212) [] [.ptr (.box a) 0]]
def ap8:dm aj 207=aa 1:=aw
def abH:fY aj 207=aa ay:=aw
def abI:fY aj 210=aa ay:=aw
def ap9:dm aj 210=aa 1:=aw
def acn:mF aj 237 []=aa (.agg [gP,gP,gP,gP]):=aw
def ara:(gy aj 210).bind AV.bU=aa [.v (.pointer au)]:=aw
def JL{b n}{k}(hn:n<4):dx aj 237 (.ptr (.box b) 0) (.v (.int k (n:Nat)))=aa (.ptr (.box b) n):=by have h1:aj.underlying 237=aa (.array 4 209):=Tryz.underlying237;have sz:dm aj 209=aa 1:=aw;unfold dx;simp only[h1,sz];rw[aD ⟨ah,by omega⟩];simp
def V9{b}:dx aj 237 (.ptr (.box b) 0) (.v (.int .i64 1))=aa (.ptr (.box b) 1)/\dx aj 237 (.ptr (.box b) 0) (.v (.int .i64 2))=aa (.ptr (.box b) 2)/\dx aj 237 (.ptr (.box b) 0) (.v (.int .i64 3))=aa (.ptr (.box b) 3):=⟨JL (n:=1) aO,JL (n:=2) aO,JL (n:=3) aO⟩
def A8{r}{o}:gi aj 209 (.ptr r o) 0=aa (.ptr r o):=aw
def stw{h:ao}{c q}{k}{f}{a b}(hc:c.length=4)(hk:k<4):b8 aj ((h.push c).push q) 207 (.ptr (.box h.boxes.length) k) (.func f a b)=aa ((h.push (c.set k (.func f a b))).push q):=by rw[fw (xs:=[.func f a b]) rfl ap8 (aZ (bp _ _)) rfl ah];congr 1;rw[akP (by rw[cH];omega),ss];congr 2;unfold eK;rw[List.set_eq_take_append_cons_drop,aD ah];simp
def Wd{H}{a b}(hb:H.boxes[a]?=aa [.ptr (.box b) 0]):aF aj Gt H 210 (.ptr (.box a) 0)=aa (.ptr (.box b) 0):=by rw[ma abI hb];rfl
def ah6{h:ao}{c}:aF aj Gt ((h.push c).push [.ptr (.box h.boxes.length) 0]) 210 (.ptr (.box (h.push [gP,gP,gP,gP]).boxes.length) 0)=aa (.ptr (.box h.boxes.length) 0):=by refine Wd ?_;rw[cH,<-cH h c];exact bp _ _
def apd{H:ao}{b}:b8 aj (H.push [.v (.pointer au)]) 210 (.ptr (.box H.boxes.length) 0) (.ptr (.box b) 0)=aa (H.push [.ptr (.box b) 0]):=jt rfl ap9 rfl rfl
def aq3(h:ao):W1.call 184 [] h=aa (.ret (.ptr (.box h.boxes.length) 0),(h.push (vO (h.boxes.length+1))).push [.ptr (.box h.boxes.length) 0]):=by
 have z:=ara;have cs:(AV.agg [gP,gP,gP,gP]).bU=aa [gP,gP,gP,gP]:=rfl;have e:vO (h.boxes.length+1)=(([gP,gP,gP,gP].set 1 (.func (.func 208) [] [])).set 2 (.func (.func 211) [] [])).set 3 (.func (.func 212) [] [.ptr (.box (h.push [gP,gP,gP,gP]).boxes.length) 0]):=by rw[cH];rfl
 rw[e];have l0:[gP,gP,gP,gP].length=4:=rfl;have l1:([gP,gP,gP,gP].set 1 (.func (.func 208) [] [])).length=4:=rfl;have l2:(([gP,gP,gP,gP].set 1 (.func (.func 208) [] [])).set 2 (.func (.func 211) [] [])).length=4:=rfl;refine cN rfl Tryz.func184 rfl ?_;exact oo @anm @acn @apd (ax @ah6 (ax @V9 (ax @A8 @stw)))
def HT:Vl->bq
 | .int _=>208
 | .text _=>211
 | .list _=>212
def HS(a:Nat):Vl->List AV
 | .list _=>[.ptr (.box a) 0]
 |_=>[]
def rE:gN aj 28 1 [(0,.v (.int .u8 1))]=aa (.list .tight 1 [[bT 1]])/\gN aj 28 1 [(0,.v (.int .u8 2))]=aa (.list .tight 1 [[bT 2]])/\gN aj 28 1 [(0,.v (.int .u8 3))]=aa (.list .tight 1 [[bT 3]]):=⟨zd 1,zd 2,zd 3⟩
def aq1(n:Nat)(hn:n<=4611686018427387903)(es:List UInt8)(k:Tok)(sz n0:Nat)(H:ao)(ho:dj H=ai)(hk:dQ n0 H k)(h0:n0<=H.tn)(hs:sz=1∨(es=[]/\k=.nil))(hl:es.length<=1099511627000):
 ∃r' H',W1.call 208 [.list k sz (aX es),.agg (bf 1 (n:Nat) [] .nil 0 [])] H=aa (r',H')/\∃t,r'=.ret (.list t 1 (aX (es++dM (.int (n:Nat)))))/\Grown n0 H H' t:=by
 have g1:Grown n0 H (H.push (bf 1 (n:Nat) [] .nil 0 [])) k:=(Grown.refl hk ho).push _;have ap:=y8 (H:=H.push (bf 1 (n:Nat) [] .nil 0 [])) (k':=.tight) (c:=1) (ah:es.length<8796093022208) hs g1.can;have g2:=g1.app h0;have hu:kU ((n:Nat):Int)<18446744073709551616:=by unfold kU;rw[aD ah];omega
 obtain⟨r3,H3,c3,t3,rfl,g3⟩:=Pg (kU ((n:Nat):Int)) hu (es++[1]) _ 1 n0 _ g2.ok g2.can (fc h0 g2.tn) (.inl rfl) (by simp;omega);have kG:=aq.mk (g2.trans g3);have ee:es++[1]++fB 9 (kU ((n:Nat):Int))=es++dM (.int (n:Nat)):=by rw[dM];simp
 rw[ee] at c3;clear g1 g2 g3 ho hk hs ee hu;refine ec rfl Tryz.func208 rfl ?_;have cu:=aqv n hn;refine bW @P4 @rE @kV (ax @vy (ax @fU @eS)) ?_;refine oG [(2,4)] uS aw (λp hp=>?_) ?_
 ·simp only[ph] at hp;subst hp;refine vM (x:=.ptr (.box H.boxes.length) 1) (v:=.v (.int .i64 (n:Nat))) aw rfl rfl rfl aw (by simp[fC,me]) ?_ ?_<;>(simp only[iK,gm];exact oo @P4 @rE @kV (ax @vy (ax @fU (ax @eS @and_self))))
 refine bW @P4 @rE @kV (ax @vy (ax @fU @eS)) ?_;exact⟨_,_,rfl,_,rfl,kG.out⟩
def WN(H)(s):mw H 1 (.v (.string (bs s)))=aa (aX s):=by unfold mw;simp[bs]
def Sf{H}{k}{n0}{es s}(hl:es.length+s.length<=8796093022208)(hk:dQ n0 H k)(ho:dj H=ai)(hn:n0<=H.tn):
 ∃t H',gd aj H #[28,9] (.list k 1 (aX es)) (.v (.string (bs s)))=aa (.list t 1 (aX (es++s)),H')/\Grown n0 H H' t:=by
 by_cases hs:s=[]
 ·subst hs;obtain⟨i,q1,q2,q3,q4⟩:=Cb;refine⟨k,H,?_,Grown.refl hk ho⟩;rw[Sh jb (.inr C0) q1 ah (by rw[q2];exact q4) (by rw[q2];exact WN H []) (.inl q2.symm),jv]
 ·exact⟨_,_,IC (.inr C0) (WN H s) hs hl (.inl rfl) hk,Grown.one hk ho hn⟩
def YX(s):dN aj 9 (.v (.string (bs s)))=aa (.v (.int .i64 (s.length:Nat))):=by rw[Wq C0,A1]
def aq2(s:List UInt8)(mO:s.length<=1099511620000)(es:List UInt8)(k:Tok)(sz n0:Nat)(H:ao)(ho:dj H=ai)(hk:dQ n0 H k)(h0:n0<=H.tn)(hs:sz=1∨(es=[]/\k=.nil))(hl:es.length<=1099511627000):
 ∃r' H',W1.call 211 [.list k sz (aX es),.agg (bf 2 0 s .nil 0 [])] H=aa (r',H')/\∃t,r'=.ret (.list t 1 (aX (es++dM (.text s))))/\Grown n0 H H' t:=by
 have g1:Grown n0 H (H.push (bf 2 0 s .nil 0 [])) k:=(Grown.refl hk ho).push _;have ap:=y8 (H:=H.push (bf 2 0 s .nil 0 [])) (k':=.tight) (c:=2) (ah:es.length<8796093022208) hs g1.can;have g2:=g1.app h0;obtain⟨r3,H3,c3,t3,rfl,g3⟩:=Pg s.length ah (es++[2]) _ 1 n0 _ g2.ok g2.can (fc h0 g2.tn) (.inl rfl) (by simp;omega);have g4:=g2.trans g3;have nl:=nP 9 s.length;obtain⟨t4,H4,ap4,g5⟩:=Sf (es:=es++[2]++fB 9 s.length) (s:=s) (by simp;omega) g3.can g3.ok (fc h0 (fc g2.tn g3.tn));have kG:=aq.mk (g4.trans g5);have ee:es++[2]++fB 9 s.length++s=es++dM (.text s):=by rw[dM];simp
 rw[ee] at ap4;have b0:(H.push (bf 2 0 s .nil 0 [])).boxes[H.boxes.length]?=aa (bf 2 0 s .nil 0 []):=bp _ _;have b1:((H.push (bf 2 0 s .nil 0 [])).app k).boxes[H.boxes.length]?=aa (bf 2 0 s .nil 0 []):=by rw[eS];exact b0
 have b3:H3.boxes[H.boxes.length]?=aa (bf 2 0 s .nil 0 []):=g3.box _ _ b1;have l1:=tJ b1;have l3:=tJ b3;have l0:=tJ b0;have sl:=YX s;have hw:=vP (n:=s.length) ah;clear g1 g2 g3 g4 g5 ho hk hs ee b0 b1 b3 nl;refine ec rfl Tryz.func211 rfl ?_;refine bW @P6 @rE @kV (ax @fU @qG) ?_;refine oG [(2,4),(2,9),(7,9)] uS aw (λp hp=>?_) ?_
 ·simp only[jm,AN,or_false] at hp;rcases hp with rfl|rfl|rfl
  all_goals
   refine vM (x:=.ptr (.box H.boxes.length) 2) (v:=.v (.string (bs s))) aw rfl rfl rfl aw (by simp[fC,me]) ?_ ?_<;>(simp only[iK,gm];exact oo @P6 @rE @kV (ax @fU (ax @qG @and_self)))
 refine bW @P6 @rE @kV (ax @fU @qG) ?_;exact⟨_,_,rfl,_,rfl,kG.out⟩
def Cd:Vl->Nat
 | .int _=>1
 | .text _=>2
 | .list _=>3
def OM{H}{x}{v}{r}(hv:dh v r)(hb:H.boxes[x]?=aa r):aF aj Gt H 3 (.ptr (.box x) 0)=aa (.v (.int .i64 (Cd v:Nat))):=by cases hv<;>exact r8 hb
def D1{b}{v}:dx aj 237 (.ptr (.box b) 0) (.v (.int .i64 (Cd v:Nat)))=aa (.ptr (.box b) (Cd v)):=by exact JL (by cases v<;>simp[Cd])
def Wi{H}{a b}{v}(hb:H.boxes[b]?=aa (vO a)):aF aj Gt H 207 (.ptr (.box b) (Cd v))=aa (.func (.func (HT v)) [] (HS a v)):=by rw[ma abH hb];cases v<;>rfl
def Tu{l:List Vl}{i}{v}(h:l[i]?=aa v):iC (l.take (i+1))=iC (l.take i)++dM v:=by rw[gx h,Ts];simp[iC]
def Tt(l)(i):(iC (l.take i)).length<=(iC l).length:=by have:=Ts (l.take i) (l.drop i);rw[xI] at this;rw[this,du];omega
mutual
def Yn(v:Vl):∀r,dh v r->rm r r=ai:=by
 intro r h;cases h with|int n hn=>simp[bf,rm,fC,me,im,sv,Ax,su]|text s hs=>simp[bf,rm,fC,me,im,sv,Ax,su]|list l k sz ae hl hs hm hr=>have:=Qq l ae hl hr;simp[bf,rm,fC,me,im,sv,this];cases k<;>simp[Ax]
def Qq(l:List Vl):∀ae:List (List AV),ae.length=l.length->(∀(i:Nat) v r,l[i]?=aa v->ae[i]?=aa r->dh v r)->su ae ae=ai:=by
 intro ae hl h
 match l,ae,hl,h with
 | [],[],_,_=>rfl
 |v::l,r::ae,hl,h=>rw[su,Yn v r (h 0 v r rfl rfl),Qq l ae (by simpa using hl) λi v r hv hr=>h (i+1) v r (by simpa using hv) (by simpa using hr)];rfl
end
def aq0{v:Vl}{r:List AV}(hv:dh v r):∀(a b:Nat) (es:List UInt8) (k:Tok) (sz n0:Nat) (H:ao),H.boxes[a]?=aa [.ptr (.box b) 0]->H.boxes[b]?=aa (vO a)->dj H=ai->dQ n0 H k->n0<=H.tn->(sz=1∨(es=[]/\k=.nil))->es.length+(dM v).length<=1099511627000->
 ∃r' H',W1.call (HT v) (.list k sz (aX es)::.agg r::HS a v) H=aa (r',H')/\∃t,r'=.ret (.list t 1 (aX (es++dM v)))/\Grown n0 H H' t:=by
 induction hv with
 |int n hn=>intro a b es k sz n0 H _ _ ho hk h0 hs hl;obtain⟨m,rfl⟩:∃m:Nat,n=m:=⟨n.toNat,by omega⟩;exact aq1 m ah es k sz n0 H ho hk h0 hs ah
 |text s mO=>intro a b es k sz n0 H _ _ ho hk h0 hs hl;exact aq2 s mO es k sz n0 H ho hk h0 hs ah|list l kl szl ae dy mO hm hr ih=>
  intro a b es k sz n0 H ha hb ho hk h0 hs hl;have sr:=Qq l ae dy hr;have kr:=aq.mk hr;have kih:=aq.mk ih;have ksl:=aq.mk mO;have kll:=aq.mk dy;have enc:dM (.list l)=3::(fB 9 l.length++iC l):=by rw[dM]
  rw[enc] at hl ⊢;have g1:Grown n0 H (H.push (bf 3 0 [] kl szl ae)) k:=(Grown.refl hk ho).push _;have ap:=y8 (H:=H.push (bf 3 0 [] kl szl ae)) (k':=.tight) (c:=3) (ah:es.length<8796093022208) hs g1.can;have g2:=g1.app h0;simp only[iJ,du] at hl;obtain⟨r3,H3,c3,t3,rfl,g3⟩:=Pg l.length ah (es++[3]) _ 1 n0 _ g2.ok g2.can (fc h0 g2.tn) (.inl rfl) (by simp;omega);have g4:=g2.trans g3;have b0:(H.push (bf 3 0 [] kl szl ae)).boxes[H.boxes.length]?=aa (bf 3 0 [] kl szl ae):=bp _ _;have b1:((H.push (bf 3 0 [] kl szl ae)).app k).boxes[H.boxes.length]?=aa (bf 3 0 [] kl szl ae):=by rw[eS];exact b0
  have b3:H3.boxes[H.boxes.length]?=aa (bf 3 0 [] kl szl ae):=g3.box _ _ b1;have l0:=oZ b0;have l1:=oZ b1;have l3:=oZ b3;have u94:=qD;have hw:=vP (n:=l.length) ah;have Gd:((ae.length:Nat):Int)=((l.length:Nat):Int):=by rw[dy]
  have kG:=aq.mk g4;have kha:=aq.mk ha;have khb:=aq.mk hb;have kl2:=aq.mk hl;have sv0:fC (.list kl szl ae) (.list kl szl ae)=ai:=by rw[fC,sr,EF];cases kl<;>simp[Ax]
  clear g1 g2 g3 g4 ho hk hs b0 b1 b3 hr ih mO dy sr ha hb hl;show ∃r' H',W1.call 212 [.list k sz (aX es),.agg (bf 3 0 [] kl szl ae),.ptr (.box a) 0] H=aa (r',H')/\_;refine ec rfl Tryz.func212 rfl ?_;refine bW @Ep @rE @kV (ax @fU @qG) ?_;refine oG [(2,4)] uS aw (λp hp=>?_) ?_
  ·simp only[ph] at hp;subst hp;refine vM (x:=.ptr (.box H.boxes.length) 3) (v:=.list kl szl ae) aw rfl rfl rfl aw (sv0) ?_ ?_<;>(simp only[iK,gm];exact oo @Ep @rE @kV (ax @fU (ax @qG @and_self)))
  refine bW @Ep @rE @kV (ax @fU @qG) ?_;refine de (λm e H1=>∃(i:Nat) (t:Tok),i<=l.length/\m=l.length - i/\e.get 0=.list t 1 (aX (es++[3]++fB 9 l.length++iC (l.take i)))/\e.get 2=.ptr (.box a) 0/\e.get 17=.list kl szl ae/\e.get 18=.v (.int .i64 (l.length:Nat))/\e.get 19=.v (.int .i64 i)/\e.defers=[]/\Grown n0 H H1 t) ?_ l.length _ _ ?_;rotate_left 1
  ·refine⟨0,t3,df _,rfl,?_,?_,?_,?_,?_,?_,kG.out⟩<;>(first|assumption|(simp only[gW,reduceIte,aY,aR,gm,iC,jv]<;>first|rfl|(rw[Gd])))
  clear c3 ap l0 l1 l3 kG hw;rintro m e H1 ⟨i,t,hi,rfl,g0,g2,g17,g18,g19,hd,hG⟩;have kG:=aq.mk hG;clear hG;by_cases az:i<l.length
  ·obtain⟨v,hv⟩:∃v,l[i]?=aa v:=⟨_,a9 az⟩;obtain⟨r,hr⟩:∃r,ae[i]?=aa r:=⟨_,a9 ah⟩;have dU:=kr.out i v r hv hr;have h4:szl=4:=ksl.out (by rintro rfl;simp at hr);subst h4;have gp:=kG.out.push r;have es1:=Tu hv;have el:=Tt l (i+1);rw[es1,du] at el;have hl:=kl2.out;have nl:=nP 9 l.length;obtain⟨r2,H2,c2,t2,rfl,g3⟩:=kih.out i v r hv hr a b (es++[3]++fB 9 l.length++iC (l.take i)) t 1 n0 (H1.push r) (gp.box _ _ kha.out) (gp.box _ _ khb.out) gp.ok gp.can (fc h0 gp.tn) (.inl rfl) (by simp;omega);rw[show es++[3]++fB 9 l.length++iC (l.take i)++dM v=es++[3]++fB 9 l.length++iC (l.take (i+1)) by rw[es1];simp] at c2;have kG2:=aq.mk (gp.trans g3);have ld:=GI (H:=H1) dU.len hr;have st:=QH (H:=H1) dU;have l2:aF aj Gt (H1.push r) 96 (.ptr (.box H1.boxes.length) 0)=aa (.agg r):=rZ dU.len (bp _ _);have l5:=OM dU (bp H1 r);have l6:=Wd (gp.box _ _ kha.out);have l7:=Wi (v:=v) (gp.box _ _ khb.out);have ik:=D1 (b:=b) (v:=v);have zz:=AG;have s96:=rp;have arP:(i:Int)<(ae.length:Int):=(by omega);generalize HT v=fv at *
   generalize HS a v=cv at *
   generalize Cd v=kv at *
   clear gp g3 es1 el hl nl hv hr dU kG;refine bW @Ep @ck @fU @A8 ?_;refine fQ uS aw ?_;refine bW @Ep @ck @fU (ax @A8 (ax @jZ.{0} @jO.{0})) ?_;exact⟨l.length - (i+1),by omega,i+1,t2,by omega,rfl,by trivial,by trivial,by trivial,by trivial,by simp,by trivial,kG2.out⟩
  ·have:i=l.length:=(by omega);subst this;rw[gM] at g0;have ee:es++[3]++fB 9 l.length++iC l=es++3::(fB 9 l.length++iC l):=(by simp);rw[ee] at g0;refine bR @Ep ?_;exact⟨_,_,rfl,_,rfl,kG.out⟩
def anl:Tryz.f183.results.toList=[.tmp 2]:=aw
def Kn:Tryz.f146.results.toList=[.tmp 2,.tmp 3]:=aw
def adS{v:Vl}{r:List AV}(hv:dh v r)(hd:gg v<=16)(h:ao):∃h',W1.call 183 [.agg r] h=aa (.ret (im 0),h')/\Ext h h':=by
 obtain⟨h1,c1,x1⟩:=afB hv ah (h.push r);have cs:=hv.cells;have ld:=rZ hv.len (bp h r);have kx:=aq.mk ((Ext.push h r).trans x1);have eC:¬((16:Int)<((gg v:Nat):Int)):=by omega
 clear hv x1 hd;unfold im;refine ij rfl Tryz.func183 rfl ?_;refine bR @anl ?_;exact⟨_,rfl,kx.out⟩
def aeX{v:Vl}{r:List AV}(hv:dh v r)(hd:gg v<=16)(hl:(dM v).length<=1099511627000)(h:ao)(ho:dj h=ai):
 ∃r' h',W1.call 146 [.agg r] h=aa (r',h')/\∃t,r'=.ret (.tuple [.list t 1 (aX (dM v)),.v (.int .i64 0)])/\Ext h h':=by
 obtain⟨h1,c1,x1⟩:=adS hv hd (h.push r);unfold im at c1;have x2:=(Ext.push h r).trans x1;have cs:=hv.cells;have b0:=bp h r;have b1:=x1.box _ _ b0;have c2:=aq3 h1;have b2:((h1.push (vO (h1.boxes.length+1))).push [.ptr (.box h1.boxes.length) 0]).boxes[h.boxes.length]?=aa r:=aZ (aZ b1);have bb:((h1.push (vO (h1.boxes.length+1))).push [.ptr (.box h1.boxes.length) 0]).boxes[h1.boxes.length]?=aa (vO (h1.boxes.length+1)):=aZ (bp _ _);have ba:((h1.push (vO (h1.boxes.length+1))).push [.ptr (.box h1.boxes.length) 0]).boxes[h1.boxes.length+1]?=aa [.ptr (.box h1.boxes.length) 0]:=ng (by rw[cH]);have x3:Ext h1 ((h1.push (vO (h1.boxes.length+1))).push [.ptr (.box h1.boxes.length) 0]):=(Ext.push _ _).trans (.push _ _);have ok3:=(x2.trans x3).ok ho;obtain⟨r4,h4,c4,t,rfl,g4⟩:=aq0 hv (h1.boxes.length+1) h1.boxes.length [] .nil 0 h.tn _ ba bb ok3 (.inl rfl) (x2.trans x3).tn (.inr ⟨rfl,rfl⟩) (by simpa using hl);rw[jZ] at c4;have kX:=aq.mk (g4.ext (x2.trans x3) (aJ _));have ld0:=rZ hv.len b0;have ld1:=rZ hv.len b1;have ld2:=rZ hv.len b2;have lk1:=OM hv b1;have lk2:=OM hv b2;have lf:=Wi (v:=v) bb;have ik:=D1 (b:=h1.boxes.length) (v:=v);have DS:=Yn v r hv;have c4:W1.call (HT v) (.list .nil 0 []::.agg r::HS (h1.boxes.length+1) v) ((h1.push (vO (h1.boxes.length+1))).push [.ptr (.box h1.boxes.length) 0])=aa (.ret (.list t 1 (aX (dM v))),h4):=c4;generalize HT v=fv at *
 generalize HS (h1.boxes.length+1) v=cv at *
 generalize hkv:Cd v=kv at *
 generalize pC:(h1.push (vO (h1.boxes.length+1))).push [.ptr (.box h1.boxes.length) 0]=H3 at *
 have sv0:fC (.agg r) (.agg r)=ai:=by rw[fC,DS]
 clear hv x1 hd x2 b0 b1 b2 bb ba x3 ok3 g4 ho hl DS pC;refine ec rfl Tryz.func146 rfl ?_;refine bW @Kn @fU @A8 (ax @jZ.{0} @jO.{0}) ?_;refine oG [(0,2),(0,7)] uS aw (λp hp=>?_) ?_
 ·simp only[jm,AN,or_false] at hp;rcases hp with rfl|rfl
  ·refine vM (x:=.ptr (.box h.boxes.length) 0) (v:=.v (.int .i64 (kv:Nat))) aw rfl rfl rfl aw (by simp[fC,me]) ?_ ?_<;>(simp only[iK,gm];exact oo @Kn @fU @A8 @and_self)
  ·refine vM (x:=.ptr (.box h.boxes.length) 0) (v:=.agg r) aw rfl rfl rfl aw (sv0) ?_ ?_<;>(simp only[iK,gm];exact oo @Kn @fU @A8 @and_self)
 refine bW @Kn @fU @A8 (ax @jZ.{0} @jO.{0}) ?_;exact⟨_,_,rfl,_,rfl,kX.out⟩
mutual
def dh.hold(v:Vl):∀r,dh v r->dh v (cA r)/\bg 0 0 0 (cA r)=ai:=by
 intro r h;cases h with|int n hn=>exact⟨.int n hn,rfl⟩|text s hs=>exact⟨.text s hs,rfl⟩|list l k sz ae hl hs hm hr=>obtain⟨h1,h2⟩:=dh.holds l ae hl hr;have e:cA (bf 3 0 [] k sz ae)=bf 3 0 [] (ct k) sz (fS ae):=rfl;rw[e];refine⟨.list l _ sz _ (by rw[Gp];exact hl) (λq=>hs λq2=>q (by rw[q2];rfl)) (by rw[Gp];exact hm) h1,?_⟩;unfold bf;simp[bg,aW,im,sv,fJ,h2]
def dh.holds(l:List Vl):∀ae:List (List AV),ae.length=l.length->(∀(i:Nat) v r,l[i]?=aa v->ae[i]?=aa r->dh v r)->(∀(i:Nat) v r,l[i]?=aa v->(fS ae)[i]?=aa r->dh v r)/\iU 0 0 0 (fS ae)=ai:=by
 intro ae hl h
 match l,ae,hl,h with
 | [],[],_,_=>exact⟨λi v r hv=>by simp at hv,rfl⟩
 |v::l,r::ae,hl,h=>
  obtain⟨h1,h2⟩:=dh.hold v r (h 0 v r rfl rfl);obtain⟨h3,h4⟩:=dh.holds l ae (by simpa using hl) λi v r hv hr=>h (i+1) v r (by simpa using hv) (by simpa using hr);refine⟨λi v' r' hv hr=>?_,by rw[fS,iU,h2,h4];rfl⟩;cases i with
  |zero=>injection hv with hv;injection hr with hr;subst hv;subst hr;exact h1
  |succ i=>exact h3 i v' r' hv hr
end
def Hm:Tryz.f186.results.toList=[.tmp 2]:=aw
def Hn:Tryz.f187.results.toList=[.tmp 2]:=aw
def ang:Tryz.f163.results.toList=[.tmp 2]:=aw
def alp{v:Vl}{r:List AV}(hv:dh v r):∀h,∃h',W1.call 186 [.agg r] h=aa (.ret (.v (.bool ai)),h')/\Ext h h':=by
 have u9:=C0;have u94:=qD;have s96:=rp
 induction hv with
 |int n hn=>
  intro h;refine ij rfl RQ rfl ?_
  repeat' (first|simp(maxSteps:=999999)(disch:=first|exact dZ|fail)only[gW,reduceIte,aY,aR,Hm,kV,r8,vy,tJ,oZ,fU,jP,tU,decide_true, *]|refine dX ?_ ?_<;>(intro _;try omega))
  all_goals exact⟨_,rfl,Ext.push _ _⟩
 |text s hs=>
  intro h;refine ij rfl RQ rfl ?_
  repeat' (first|simp(maxSteps:=999999)(disch:=first|exact dZ|fail)only[gW,reduceIte,aY,aR,Hm,kV,r8,vy,tJ,oZ,fU,jP,tU,decide_true, *]|refine dX ?_ ?_<;>(intro _;try omega))
  all_goals exact⟨_,rfl,Ext.push _ _⟩
 |list l k sz ae hl hs hm hr ih=>
  intro h;have kr:=aq.mk hr;have kih:=aq.mk ih;have kh:=aq.mk hs;have kl:=aq.mk hl;refine ij rfl RQ rfl ?_;clear hr ih hs hl;refine bW @Hm @kV @r8 (ax @vy (ax @tJ (ax @oZ (ax @fU (ax @tU @decide_true))))) ?_;refine de (λm e H=>∃i:Nat,i<=ae.length/\m=ae.length - i/\e.get 1=.ptr (.box h.boxes.length) 0/\e.get 3=.v (.int .i64 i)/\e.defers=[]/\H.boxes[h.boxes.length]?=aa (bf 3 0 [] k sz ae)/\Ext h H) ?_ ae.length _ _ ?_;rotate_left 1
  ·refine⟨0,df _,rfl,?_,?_,?_,bp _ _,Ext.push _ _⟩<;>(first|assumption|(exact gR))
  rintro m e H ⟨i,hi,rfl,g1,g3,hd,hb,hX⟩;have kX:=aq.mk hX;have kb:=aq.mk hb;have l0:=r8 hb;have l1:=vy hb;have l2:=tJ hb;have l3:=oZ hb;clear hX hb;by_cases az:i<ae.length
  ·obtain⟨r,hr⟩:∃r,ae[i]?=aa r:=⟨_,a9 az⟩;obtain⟨v,hv⟩:∃v,l[i]?=aa v:=⟨_,a9 (by have:=kl.out;omega)⟩;have dU:=kr.out i v r hv hr;have h4:sz=4:=kh.out (by rintro rfl;simp at az);subst h4;obtain⟨H2,c1,x1⟩:=kih.out i v r hv hr H;have ld:=GI (H:=H) dU.len hr;have kX2:=aq.mk (kX.out.trans x1);have kb2:=aq.mk (x1.box _ _ kb.out);have Gd:(i:Int)<(ae.length:Int):=(by omega);clear kX dU hv hr x1;refine eg @Hm @ck @fU ?_;exact⟨ae.length - (i+1),by omega,i+1,by omega,rfl,by trivial,by simp,by trivial,kb2.out,kX2.out⟩
  ·have:i=ae.length:=(by omega);subst this;refine eg @Hm @fU @decide_true ?_;exact⟨_,rfl,kX.out⟩
def ak1{v:Vl}{r:List AV}(hv:dh v r):gg v<=100->∀h,∃h',W1.call 187 [.agg r] h=aa (.ret (.v (.int .i64 (gg v:Nat))),h')/\Ext h h':=by
 have u9:=C0;have u94:=qD;have s96:=rp
 induction hv with
 |int n hn=>intro _ h;refine ij rfl RR rfl ?_;show bM _ _ _ _ (zu _ _ _ _ (.ret (.v (.int .i64 0))) _);refine bW @Hn @kV @r8 @fU ?_;exact⟨_,rfl,Ext.push _ _⟩|text s hs=>intro _ h;refine ij rfl RR rfl ?_;show bM _ _ _ _ (zu _ _ _ _ (.ret (.v (.int .i64 0))) _);refine bW @Hn @kV @r8 @fU ?_;exact⟨_,rfl,Ext.push _ _⟩|list l k sz ae hl hs hm hr ih=>
  intro hd h;have kd:=aq.mk hd;have kr:=aq.mk hr;have kih:=aq.mk ih;have kh:=aq.mk hs;have kl:=aq.mk hl;refine ij rfl RR rfl ?_;clear hr ih hs hl hd;refine bW @Hn @kV @r8 @fU ?_;refine de (λm e H=>∃i:Nat,i<=ae.length/\m=ae.length - i/\e.get 1=.ptr (.box h.boxes.length) 0/\e.get 3=.v (.int .i64 (gO (l.take i):Nat))/\e.get 4=.v (.int .i64 i)/\e.defers=[]/\H.boxes[h.boxes.length]?=aa (bf 3 0 [] k sz ae)/\Ext h H) ?_ ae.length _ _ ?_;rotate_left 1
  ·refine⟨0,df _,rfl,?_,?_,?_,?_,bp _ _,Ext.push _ _⟩<;>(first|assumption|(exact gR))
  rintro m e H ⟨i,hi,rfl,g1,g3,g4,hd,hb,hX⟩;have kX:=aq.mk hX;have kb:=aq.mk hb;have l3:=oZ hb;have wM:gg (.list l)=gO l+1:=rfl;have F5:=kd.out;rw[wM] at F5;clear hX hb;by_cases az:i<ae.length
  ·obtain⟨r,hr⟩:∃r,ae[i]?=aa r:=⟨_,a9 az⟩;obtain⟨v,hv⟩:∃v,l[i]?=aa v:=⟨_,a9 (by have:=kl.out;omega)⟩;have dU:=kr.out i v r hv hr;have h4:sz=4:=kh.out (by rintro rfl;simp at az);subst h4;have hdv:=Tm hv;have Bq:=ME l i;obtain⟨H2,c1,x1⟩:=kih.out i v r hv hr ah H;have ld:=GI (H:=H) dU.len hr;have kX2:=aq.mk (kX.out.trans x1);have kb2:=aq.mk (x1.box _ _ kb.out);have kst:=aq.mk (MD hv);have Gd:(i:Int)<(ae.length:Int):=(by omega);have qb:(if ((gO (l.take i):Nat):Int)<((gg v:Nat):Int) then ((gg v:Nat):Int) else ((gO (l.take i):Nat):Int))=((max (gO (l.take i)) (gg v):Nat):Int):=(by split<;>omega);clear kX dU hv hr x1 wM;refine bW @Hn @ck @fU @Ci ?_;exact⟨ae.length - (i+1),by omega,i+1,by omega,rfl,by trivial,by rw[kst.out],by simp,by trivial,kb2.out,kX2.out⟩
  ·have:i=ae.length:=(by omega);subst this;have e1:l.take ae.length=l:=(by rw[kl.out];exact gM);rw[e1] at g3;rw[wM];have e2:((gO l+1:Nat):Int)=((gO l:Nat):Int)+1:=(by omega);refine cq @Hn @fU ?_;exact⟨_,rfl,kX.out⟩
def ak0{v:Vl}{r:List AV}(hv:dh v r)(hd:gg v<=16)(h:ao):∃h',W1.call 163 [.agg r] h=aa (.ret (im 0),h')/\Ext h h':=by
 obtain⟨h1,c1,x1⟩:=alp hv (h.push r);obtain⟨h2,c2,x2⟩:=ak1 hv ah h1;have cs:=hv.cells;have ld:=rZ hv.len (bp h r);have ld2:=rZ hv.len (x1.box _ _ (bp h r));have kx:=aq.mk (((Ext.push h r).trans x1).trans x2);have eC:¬((16:Int)<((gg v:Nat):Int)):=by omega
 clear hv x1 x2 hd;unfold im;refine ij rfl Tryz.func163 rfl ?_;refine bR @ang ?_;exact⟨_,rfl,kx.out⟩
def XZ:Tryz.f188.results.toList=[.tmp 2]:=aw
def ann:Tryz.f189.results.toList=[.tmp 2]:=aw
def Cr:Tryz.f164.results.toList=[.tmp 2]:=aw
def am3:Tryz.f118.results.toList=[.tmp 2,.tmp 3]:=aw
def KT(c:Nat)(hc:c<256):bT (UInt8.ofNat c)=.v (.int .u8 (c:Nat)):=by have:(UInt8.ofNat c).toNat=c%256:=UInt8.toNat_ofNat';unfold bT;rw[this,nF hc]
def J0(k u):fB k u≠[]:=by
 cases k with|zero=>simp[fB]|succ k=>rw[fB];split<;>simp
def Fm{H}{k t}{n0}{es new}(bE:new≠[])(hl:es.length+new.length<=8796093022208)(hk:dQ n0 H k):
 gd aj H #[28,28] (.list k 1 (aX es)) (.list t 1 (aX new))=aa (.list (.free H.tn) 1 (aX (es++new)),H.app k):=
 IC (.inl ⟨_,jb⟩) Pc bE hl (.inl rfl) hk
def PQ:∀(k u:Nat),k<=9->u<2 * 128^k->∀h,dj h=ai->∃r h',W1.call 188 [.v (.int .u64 (u:Nat))] h=aa (r,h')/\∃t,r=.ret (.list t 1 (aX (fB k u)))/\Grown h.tn h h' t:=by
 have dH:∀(k u:Nat),u<128->∀h,dj h=ai->∃r h',W1.call 188 [.v (.int .u64 (u:Nat))] h=aa (r,h')/\∃t,r=.ret (.list t 1 (aX (fB k u)))/\Grown h.tn h h' t:=by
  intro k u hu h ho;rw[WO hu];have bl:=zd (UInt8.ofNat u);rw[KT u ah] at bl;have e:aX [UInt8.ofNat u]=[[.v (.int .u8 (u:Nat))]]:=by show[[bT (UInt8.ofNat u)]]=_;rw[KT u ah]
  rw[e];have az:((u:Nat):Int)<128:=by omega
  have kG:=aq.mk (Grown.refl (n0:=h.tn) (k:=.tight) (.inr (.inl rfl)) ho);clear ho hu e;refine ec rfl aba rfl ?_;refine cq @XZ @Dc ?_;exact⟨_,_,rfl,_,rfl,kG.out⟩
 intro k
 induction k with
 |zero=>intro u _ hu;exact dH 0 u (by simpa using Nat.lt_trans hu aO)|succ k ih=>
  intro u hk hu h ho;by_cases FM:u<128
  ·exact dH _ u FM h ho
  ·rw[WQ ah];obtain⟨r1,h1,c1,t,rfl,g1⟩:=ih (u/128) ah (by rw[AT] at hu;omega) h ho;have bl:=zd (UInt8.ofNat (u%128+128));have nl:=nP k (u/128);have ap:=Fm (H:=h1) (k:=.tight) (t:=t) (n0:=h.tn) (es:=[UInt8.ofNat (u%128+128)]) (J0 k (u/128)) (by simp;omega) (.inr (.inl rfl));have e:aX [UInt8.ofNat (u%128+128)]=[[.v (.int .u8 ((u%128+128:Nat):Int))]]:=(by show[[bT (UInt8.ofNat (u%128+128))]]=_;rw[KT _ ah]);rw[e] at ap;rw[KT (u%128+128) ah] at bl;have g2:Grown h.tn h h1 .tight:=⟨g1.box,g1.loop,.inr (.inl rfl),g1.ok,g1.tn,g1.dead⟩;have kG:=aq.mk (g2.app (aJ _));have az:¬((u:Nat):Int)<128:=(by omega);have m1:((u:Nat):Int).tmod 128=((u%128:Nat):Int):=o9 u 128;have m2:((u:Nat):Int).tdiv 128=((u/128:Nat):Int):=KQ u 128;have w1:IntKind.u64.wrap (((u%128:Nat):Int)+128)=((u%128+128:Nat):Int):=(by rw[show((u%128:Nat):Int)+128=((u%128+128:Nat):Int) by omega,vP ah]);have w2:IntKind.u64.wrap ((u/128:Nat):Int)=((u/128:Nat):Int):=(by have:2 * 128^(k+1)<=2 * 128^9:=Nat.mul_le_mul_left _ (aaY aO hk);exact vP ah);clear ho hu FM ih g1 g2 e nl;refine ec rfl aba rfl ?_;refine cq @XZ @Dc ?_;exact⟨_,_,rfl,_,rfl,kG.out⟩
def an9(n:Nat)(hn:n<=4611686018427387903)(h:ao):W1.call 189 [.v (.int .i64 (n:Nat))] h=aa (.ret (.v (.int .u64 (kU n:Nat))),h):=by
 have e:kU (n:Int)=2 * n:=by unfold kU;rw[aD ah,dS]
 rw[e];have e1:=vP (n:=n) ah;have e2:IntKind.u64.wrap (2 * ((n:Nat):Int))=((2 * n:Nat):Int):=by rw[show 2 * ((n:Nat):Int)=((2 * n:Nat):Int) by omega,vP ah]
 have e3:(0:Int)<=((n:Nat):Int):=by omega
 refine cN rfl Tryz.func189 rfl ?_;exact jq @ann @qG
def aeU(v):dM v≠[]:=by cases v<;>simp[dM]
def _root_.Go.AE.Grown.re{n0:Nat}{h h':ao}{t k:Tok}(g:Grown n0 h h' t)(hk:dQ n0 h' k):Grown n0 h h' k:=⟨g.box,g.loop,hk,g.ok,g.tn,g.dead⟩
def _root_.Go.AE.Grown.tO{n0 n1:Nat}{h h':ao}{t:Tok}(g:Grown n1 h h' t)(hn:n0<=n1):Grown n0 h h' t:=⟨g.box,g.loop,g.can.mono hn,g.ok,g.tn,λn hl hd=>g.dead n (mD hl hn) hd⟩
def _root_.Go.AE.Grown.beside{n0:Nat}{h h':ao}{t k:Tok}(g:Grown h.tn h h' t)(hk:dQ n0 h k):dQ n0 h' k:=by
 rcases hk with rfl|rfl|⟨m,rfl,hm,ha⟩
 ·exact .inl rfl
 ·exact .inr (.inl rfl)
 ·refine .inr (.inr ⟨m,rfl,hm,?_⟩);have az:=uP ha;unfold alive at ha ⊢;simp only[bA,decide_eq_true_eq,yP,List.contains_eq_mem,decide_eq_false_iff_not] at ha ⊢;exact⟨mD az g.tn,λhd=>ha.2 (g.dead m az hd)⟩
def alg{v:Vl}{r:List AV}(hv:dh v r):(dM v).length<=1099511627000->∀h,dj h=ai->∃r' h',W1.call 164 [.agg r] h=aa (r',h')/\∃t,r'=.ret (.list t 1 (aX (dM v)))/\Grown h.tn h h' t:=by
 induction hv with
 |int n hn=>
  intro _ h ho;obtain⟨m,rfl⟩:∃m:Nat,n=m:=⟨n.toNat,by omega⟩;have hu:kU ((m:Nat):Int)<2 * 128^9:=by unfold kU;rw[aD ah];omega
  have g0:Grown h.tn h (h.push (bf 1 (m:Nat) [] .nil 0 [])) .tight:=(Grown.refl (.inr (.inl rfl)) ho).push _;obtain⟨r1,h1,c1,t,rfl,g1⟩:=PQ 9 (kU ((m:Nat):Int)) (aJ _) hu _ g0.ok;have nl:=nP 9 (kU ((m:Nat):Int));have ap:=Fm (H:=h1) (k:=.tight) (t:=t) (n0:=h.tn) (es:=[1]) (J0 9 (kU ((m:Nat):Int))) (by simp;omega) (.inr (.inl rfl));have kG:=aq.mk ((g0.trans (g1.re (.inr (.inl rfl)))).app (aJ _));have cu:=an9 m ah;have ap:gd aj h1 #[28,28] (.list .tight 1 [[bT 1]]) (.list t 1 (aX (fB 9 (kU ((m:Nat):Int)))))=aa (.list (.free h1.tn) 1 (aX (dM (.int (m:Nat)))),h1.app .tight):=by rw[dM];exact ap
  clear g0 g1 hu hn ho nl;refine ec rfl RP rfl ?_;refine bW @Cr @rE @kV (ax @r8 (ax @vy @fU)) ?_;exact⟨_,_,rfl,_,rfl,kG.out⟩
 |text s hs=>
  intro hl h ho;have enc:dM (.text s)=2::(fB 9 s.length++s):=by rw[dM]
  rw[enc] at hl ⊢;simp only[iJ,du] at hl;have g0:Grown h.tn h (h.push (bf 2 0 s .nil 0 [])) .tight:=(Grown.refl (.inr (.inl rfl)) ho).push _;obtain⟨r1,h1,c1,t,rfl,g1⟩:=PQ 9 s.length (aJ _) ah _ g0.ok;have ap:=Fm (H:=h1) (k:=.tight) (t:=t) (n0:=h.tn) (es:=[2]) (J0 9 s.length) (by simp;omega) (.inr (.inl rfl));have g2:=(g0.trans (g1.re (.inr (.inl rfl)))).app (aJ _);obtain⟨t4,h4,ap4,g5⟩:=Sf (es:=[2]++fB 9 s.length) (s:=s) (by simp;omega) g2.can g2.ok g2.tn;have kG:=aq.mk (g2.trans g5);have ap:gd aj h1 #[28,28] (.list .tight 1 [[bT 2]]) (.list t 1 (aX (fB 9 s.length)))=aa (.list (.free h1.tn) 1 (aX ([2]++fB 9 s.length)),h1.app .tight):=ap;have e4:[2]++fB 9 s.length++s=2::(fB 9 s.length++s):=by simp
  rw[e4] at ap4;have b0:=bp h (bf 2 0 s .nil 0 []);have b1:=g1.box _ _ b0;have b2:(h1.app .tight).boxes[h.boxes.length]?=aa (bf 2 0 s .nil 0 []):=by rw[eS];exact b1
  have l0:=tJ b0;have l1:=tJ b1;have l2:=tJ b2;have sl:=YX s;have hw:=vP (n:=s.length) ah;clear g0 g1 g2 g5 ho enc e4 b0 b1 b2 hl;refine ec rfl RP rfl ?_;refine bW @Cr @rE @kV (ax @r8 (ax @fU @qG)) ?_;refine oG [(5,8),(6,8)] uS aw (λp hp=>?_) ?_
  ·simp only[jm,AN,or_false] at hp;rcases hp with rfl|rfl
   all_goals
    refine vM (x:=.ptr (.box h.boxes.length) 2) (v:=.v (.string (bs s))) aw rfl rfl rfl aw (by simp[fC,me]) ?_ ?_<;>(simp only[iK,gm];exact oo @Cr @rE @kV (ax @fU (ax @qG @and_self)))
  refine bW @Cr @rE @kV (ax @fU @qG) ?_;exact⟨_,_,rfl,_,rfl,kG.out⟩
 |list l kl sz ae hl hs hm hr ih=>
  intro bO h ho;have kr:=aq.mk hr;have kih:=aq.mk ih;have kh:=aq.mk hs;have kl2:=aq.mk hl;have enc:dM (.list l)=3::(fB 9 l.length++iC l):=by rw[dM]
  rw[enc] at bO ⊢;simp only[iJ,du] at bO;have g0:Grown h.tn h (h.push (bf 3 0 [] kl sz ae)) .tight:=(Grown.refl (.inr (.inl rfl)) ho).push _;obtain⟨r1,h1,c1,t,rfl,g1⟩:=PQ 9 l.length (aJ _) ah _ g0.ok;have nl:=nP 9 l.length;have ap:=Fm (H:=h1) (k:=.tight) (t:=t) (n0:=h.tn) (es:=[3]) (J0 9 l.length) (by simp;omega) (.inr (.inl rfl));have g2:=(g0.trans (g1.re (.inr (.inl rfl)))).app (aJ _);have ap:gd aj h1 #[28,28] (.list .tight 1 [[bT 3]]) (.list t 1 (aX (fB 9 l.length)))=aa (.list (.free h1.tn) 1 (aX ([3]++fB 9 l.length)),h1.app .tight):=ap;have b0:=bp h (bf 3 0 [] kl sz ae);have b1:=g1.box _ _ b0;have b2:(h1.app .tight).boxes[h.boxes.length]?=aa (bf 3 0 [] kl sz ae):=by rw[eS];exact b1
  have l0:=oZ b0;have u94:=qD;have hw:=vP (n:=ae.length) ah;have c1:W1.call 188 [.v (.int .u64 ((ae.length:Nat):Int))] (h.push (bf 3 0 [] kl sz ae))=aa (.ret (.list t 1 (aX (fB 9 l.length))),h1):=by rw[hl];exact c1
  have kG:=aq.mk g2;have kb:=aq.mk b2;have klen:=aq.mk bO;clear g0 g1 g2 ho enc hr ih hs hl bO b0 b1 b2;refine ec rfl RP rfl ?_;refine bW @Cr @rE @kV (ax @r8 (ax @fU @qG)) ?_;refine de (λm e H1=>∃(i:Nat) (t:Tok),i<=ae.length/\m=ae.length - i/\e.get 1=.ptr (.box h.boxes.length) 0/\e.get 3=.list t 1 (aX ([3]++fB 9 l.length++iC (l.take i)))/\e.get 4=.v (.int .i64 i)/\e.defers=[]/\H1.boxes[h.boxes.length]?=aa (bf 3 0 [] kl sz ae)/\Grown h.tn h H1 t) ?_ ae.length _ _ ?_;rotate_left 1
  ·refine⟨0,.free h1.tn,df _,rfl,?_,?_,?_,?_,kb.out,kG.out⟩<;>(first|assumption|(simp only[gW,reduceIte,aY,aR,gm,iC,jv]<;>rfl))
  clear c1 ap l0 kG kb hw;rintro m e H1 ⟨i,t,hi,rfl,g1,g3,g4,hd,hb,hG⟩;have kG:=aq.mk hG;have kb:=aq.mk hb;have l3:=oZ hb;clear hG hb;by_cases az:i<ae.length
  ·obtain⟨r,hr⟩:∃r,ae[i]?=aa r:=⟨_,a9 az⟩;obtain⟨v,hv⟩:∃v,l[i]?=aa v:=⟨_,a9 (by have:=kl2.out;omega)⟩;have dU:=kr.out i v r hv hr;have h4:sz=4:=kh.out (by rintro rfl;simp at az);subst h4;have es1:=Tu hv;have el:=Tt l (i+1);rw[es1,du] at el;have hl:=klen.out;obtain⟨r2,H2,c2,t2,rfl,g5⟩:=kih.out i v r hv hr ah H1 kG.out.ok;have can2:=g5.beside kG.out.can;have ap2:=Fm (H:=H2) (k:=t) (t:=t2) (n0:=h.tn) (es:=[3]++fB 9 l.length++iC (l.take i)) (aeU v) (by simp;omega) can2;rw[show[3]++fB 9 l.length++iC (l.take i)++dM v=[3]++fB 9 l.length++iC (l.take (i+1)) by rw[es1];simp] at ap2;have kG2:=aq.mk ((kG.out.trans ((g5.tO kG.out.tn).re can2)).app (aJ _));have kb2:aq ((H2.app t).boxes[h.boxes.length]?=aa (bf 3 0 [] kl 4 ae)):=⟨by rw[eS];exact g5.box _ _ kb.out⟩;have ld:=GI (H:=H1) dU.len hr;have s96:=rp;have Gd:(i:Int)<(ae.length:Int):=(by omega);clear kG dU hv hr g5 can2 es1 el hl nl;refine eg @Cr @ck @fU ?_;exact⟨ae.length - (i+1),by omega,i+1,.free H2.tn,by omega,rfl,by trivial,by trivial,by simp,by trivial,kb2.out,kG2.out⟩
  ·have:i=ae.length:=(by omega);subst this;rw[show l.take ae.length=l by rw[kl2.out];exact gM] at g3;have ee:[3]++fB 9 l.length++iC l=3::(fB 9 l.length++iC l):=(by simp);rw[ee] at g3;refine cq @Cr @fU ?_;exact⟨_,_,rfl,_,rfl,kG.out⟩
def akV{v:Vl}{r:List AV}(hv:dh v r)(hd:gg v<=16)(hl:(dM v).length<=1099511627000)(h:ao)(ho:dj h=ai):
 ∃r' h',W1.call 118 [.agg r] h=aa (r',h')/\∃t,r'=.ret (.tuple [.list t 1 (aX (dM v)),.v (.int .i64 0)])/\Ext h h':=by
 obtain⟨h1,c1,x1⟩:=ak0 hv hd (h.push r);unfold im at c1;have x2:=(Ext.push h r).trans x1;obtain⟨r2,h2,c2,t,rfl,g2⟩:=alg hv hl h1 (x2.ok ho);have cs:=hv.cells;have ld:=rZ hv.len (bp h r);have ld2:=rZ hv.len (x1.box _ _ (bp h r));have kX:=aq.mk (g2.ext x2 x2.tn);clear hv x1 x2 hd g2 ho hl;refine ec rfl Tryz.func118 rfl ?_;refine bR @am3 ?_;exact⟨_,_,rfl,_,rfl,kX.out⟩
def Aw:Tryz.f214.results.toList=[.cell 4 229]:=aw
def R9:fY aj 229=aa ai:=aw
def HM:dm aj 229=aa 8:=aw
def abL:fY aj 242=aa ai:=aw
def KN:dm aj 242=aa 64:=aw
def Zt:(gy aj 229).bind AV.bU=aa (bQ (bm 8 0#32)):=aw
def kW:List eF:=(bL 64).map yw
def ah2{t}(ht:t<64):cU kW t=yw t:=by unfold cU kW;rw[eQ,eR,yW ht];rfl
def JM:kW.length=64:=rfl
def Cy{l}:(AV.agg (bQ l)).bU=aa (bQ l):=by
 have:(bQ l).all AV.dW=ai:=by rw[eE];intro x hx;obtain⟨b,-,rfl⟩:=jE.1 hx;rfl
 unfold AV.bU;simp[this]
def OR{H}{b n}{t}{l}(ha:fY aj t=aa ai)(hs:dm aj t=aa n)(hb:H.boxes[b]?=aa (bQ l))(hl:l.length=n):aF aj Gt H t (.ptr (.box b) 0)=aa (.agg (bQ l)):=by rw[jj ha hs hb (by rw[bJ];omega),iB,fK (by rw[bJ];omega)]
def ajd(h:ao):W1.call 225 [] h=aa (.ret (.agg (bQ kW)),h.push (bQ kW)):=by have z:=KZ;have st:b8 aj (h.push (bm 64 (aN 0#32))) 242 (.ptr (.box h.boxes.length) 0) (.agg (bQ kW))=aa (h.push (bQ kW)):=jt Cy KN (by rw[bJ,JM]) bG;have ld:aF aj Gt (h.push (bQ kW)) 242 (.ptr (.box h.boxes.length) 0)=aa (.agg (bQ kW)):=OR abL KN (bp _ _) JM;refine cN rfl Tryz.func225 rfl ?_;refine bR @Yc ?_;generalize hb:mF aj 242 _=z;rw[show z=aa (.agg (bQ kW)) from hb.symm.trans aw];clear hb;exact mJ @Yc
def yu{b n}{k}(hn:n<8):dx aj 229 (.ptr (.box b) 0) (.v (.int k (n:Nat)))=aa (.ptr (.box b) n):=by have hu:=Tryz.underlying229;unfold dx;rw[hu];simp only[xq];rw[aD ⟨ah,by omega⟩];simp
def aqN{a b c d e f g h}:cU [a,b,c,d,e,f,g,h] 0=a/\cU [a,b,c,d,e,f,g,h] 1=b/\cU [a,b,c,d,e,f,g,h] 2=c/\cU [a,b,c,d,e,f,g,h] 3=d/\cU [a,b,c,d,e,f,g,h] 4=e/\cU [a,b,c,d,e,f,g,h] 5=f/\cU [a,b,c,d,e,f,g,h] 6=g/\cU [a,b,c,d,e,f,g,h] 7=h:=⟨rfl,rfl,rfl,rfl,rfl,rfl,rfl,rfl⟩
def acm(a b c d e f g h:eF):mF aj 229 [(0,aN a),(1,aN b),(2,aN c),(3,aN d),(4,aN e),(5,aN f),(6,aN g),(7,aN h)]=aa (.agg (bQ [a,b,c,d,e,f,g,h])):=aw
def aqC(s)(b):vF s b 0=s:=rfl
def amM(w)(t)(a b c d e f g i):He w [a,b,c,d,e,f,g,i] t=
 [i+(NT.dD e 6^^^NT.dD e 11^^^NT.dD e 25)+((e&&&f)^^^(~~~e&&&g))+yw t+cU w t+((NT.dD a 2^^^NT.dD a 13^^^NT.dD a 22)+((a&&&b)^^^(a&&&c)^^^(b&&&c))),
  a,b,c,d+(i+(NT.dD e 6^^^NT.dD e 11^^^NT.dD e 25)+((e&&&f)^^^(~~~e&&&g))+yw t+cU w t),e,f,g]:=rfl
def ai8{u}:Cx aj .xor (aN u)=aa (aN (~~~u)):=by
 have e:Cx aj .xor (aN u)=aa (.v (.int .u32 (IntKind.u32.wrap ((BitVec.ofInt 32 4294967295^^^BitVec.ofInt 32 (u.toNat:Int)).toNat:Int)))):=by rfl
 rw[e,ofInt32];have h1:BitVec.ofInt 32 4294967295^^^u= ~~~u:=by
  apply BitVec.eq_of_getLsbD_eq;intro i hi;rw[BitVec.getLsbD_xor,BitVec.getLsbD_not];have:(BitVec.ofInt 32 4294967295).getLsbD i=ai:=by have h:∀j:Fin 32,(BitVec.ofInt 32 4294967295).getLsbD j.val=ai:=(by decide);exact h ⟨i,hi⟩
  rw[this];simp[hi]
 rw[h1,KY];rfl
def Yx{k}{b}{lo hi}(h1:lo<=hi)(h2:hi<=b.length):∃k',ie aj 28 (.list k 1 (aX b)) (aa (.v (.int .i64 (lo:Nat)))) (aa (.v (.int .i64 (hi:Nat)))) au=aa (.list k' 1 (aX ((b.take hi).drop lo))):=by
 have jI:fX (aX b).length au (aX b).length=aa (aX b).length:=rfl;have fG:fX (aX b).length (aa (.v (.int .i64 (hi:Nat)))) (aX b).length=aa hi:=by show(if 0<=(hi:Int)/\(hi:Int)<=((aX b).length:Int) then aa (hi:Int).toNat else au)=_;rw[aD ⟨ah,by rw[bJ];omega⟩,dS]
 have ye:fX hi (aa (.v (.int .i64 (lo:Nat)))) 0=aa lo:=by show(if 0<=(lo:Int)/\(lo:Int)<=(hi:Int) then aa (lo:Int).toNat else au)=_;rw[aD ⟨ah,by omega⟩,dS]
 refine⟨wx k (decide (hi=(aX b).length)) ay (hi - lo),?_⟩;unfold ie;simp only[jb,sH,jI,fG,ye,Option.isSome_none,Bool.false_and,Bool.false_eq_true,if_false,true_or,if_true,Option.isNone_none,EF];simp only[List.map_drop,List.map_take]
def aqV{b}{i}(hi:4 * i+4<=b.length):pP ((b.take (4 * i+4)).drop (4 * i)) 0=pP b (4 * i):=by
 have key:∀k,k<4->dp ((b.take (4 * i+4)).drop (4 * i)) k=dp b (4 * i+k):=λk hk=>by unfold dp;rw[eQ,pR,nU,aD ah,eQ]
 unfold pP;rw[key 0 aO,key (0+1) aO,key (0+2) aO,key (0+3) aO,Nat.add_zero,nZ,nZ,nZ]
def akX(s:List eF)(b:List UInt8)(k:Tok)(h:ao)(hs:s.length=8)(hb:b.length=64):
 ∃h',W1.call 214 [.agg (bQ s),.list k 1 (aX b)] h=aa (.ret (.agg (bQ (wh s b))),h')/\Ext h h':=by
 have z1:=Zt;have z2:=KZ;have c8:(AV.agg (bQ s)).bU=aa (bQ s):=Cy;have kwz:=aq.mk (Zs b);refine ij rfl Tryz.func214 rfl ?_;refine bR @Aw ?_;generalize jr:mF aj 242 []=z;rw[show z=aa (.agg (bm 64 (aN 0#32))) from jr.symm.trans aw];clear jr;generalize fA:(h.push (bQ s)).push (bQ (bm 8 0#32))=H0;have kX0:aq (Ext h H0):=⟨by rw[<-fA];exact(Ext.push _ _).trans (.push _ _)⟩;have kS0:aq (H0.boxes[h.boxes.length]?=aa (bQ s)):=⟨by rw[<-fA];exact aZ (bp _ _)⟩;have kR0:aq (H0.boxes[h.boxes.length+1]?=aa (bQ (bm 8 0#32))):=⟨by rw[<-fA];exact ng (by rw[cH])⟩;have Nb:H0.boxes.length=h.boxes.length+2:=by rw[<-fA,cH,cH]
 have kl:=aq.mk Nb;clear Nb fA;have st0:b8 aj (H0.push (bm 64 (aN 0#32))) 242 (.ptr (.box H0.boxes.length) 0) (.agg (bm 64 (aN 0#32)))=aa (H0.push (bQ (wl b 0))):=by rw[kwz.out,<-QU];exact jt Cy KN bG bG
 refine bR @Aw ?_;refine de (λm e H=>∃i:Nat,i<=16/\m=16 - i/\e.get 1=.list k 1 (aX b)/\e.get 2=.ptr (.box h.boxes.length) 0/\e.get 4=.ptr (.box (h.boxes.length+1)) 0/\e.get 5=.ptr (.box H0.boxes.length) 0/\e.get 6=.v (.int .i64 i)/\e.defers=[]/\H=H0.push (bQ (wl b i))) ?_ 16 _ _ ?_;rotate_left 1
 ·refine⟨0,by decide,rfl,?_,?_,?_,?_,?_,?_,rfl⟩<;>(first|assumption|(simp only[gW,reduceIte,aY,aR,cH]<;>rfl))
 clear z1 z2 c8 kwz st0;rintro m e H ⟨i,hi,rfl,g1,g2,g4,g5,g6,hd,rfl⟩;by_cases hc:i<16
 ·refine qL λQ=>?_;have ix:=qV (b:=H0.boxes.length) (n:=i) (k:=.i64) ah;have e4:IntKind.i64.wrap (4 * ((i:Nat):Int))=((4 * i:Nat):Int):=by rw[fh ah ah];omega
  have e5:IntKind.i64.wrap (((4 * i:Nat):Int)+4)=((4 * i+4:Nat):Int):=by rw[fh ah ah];omega
  obtain⟨k',sl⟩:=Yx (k:=k) (b:=b) (lo:=4 * i) (hi:=4 * i+4) ah ah;have cw:=aoi ((b.take (4 * i+4)).drop (4 * i)) (by rw[gE,fb];omega) k';rw[aqV ah] at cw;have st:b8 aj (H0.push (bQ (wl b i))) 42 (.ptr (.box H0.boxes.length) i) (aN (pP b (4 * i)))=aa (H0.push (bQ (wl b (i+1)))):=by rw[HC (bp _ _) (by rw[uJ ah];omega),ss,KX ah (by rw[aD hc])]
  refine bR @Aw ?_;exact⟨16 - (i+1),by omega,i+1,by omega,rfl,by trivial,by trivial,by trivial,by trivial,rfl,by trivial,rfl⟩
 have:i=16:=by omega
 subst this;clear hc hi;refine bR @Aw ?_;refine de (λm e H=>∃i:Nat,16<=i/\i<=64/\m=64 - i/\e.get 2=.ptr (.box h.boxes.length) 0/\e.get 4=.ptr (.box (h.boxes.length+1)) 0/\e.get 5=.ptr (.box H0.boxes.length) 0/\e.get 7=.v (.int .i64 i)/\e.defers=[]/\H=H0.push (bQ (wl b i))) ?_ 48 _ _ ?_;rotate_left 1
 ·refine⟨16,by decide,by decide,rfl,?_,?_,?_,?_,?_,rfl⟩<;>(first|assumption|(exact gR))
 clear g1 g2 g4 g5 g6 hd;rintro m e H ⟨i,NK,hi,rfl,g2,g4,g5,g7,hd,rfl⟩;by_cases hc:i<64
 ·refine qL λQ=>?_;have hw:=bp H0 (bQ (wl b i));have l0:=qW hw (n:=i - 16) (by rw[uJ hi];omega);have l1:=qW hw (n:=i - 15) (by rw[uJ hi];omega);have l2:=qW hw (n:=i - 7) (by rw[uJ hi];omega);have l3:=qW hw (n:=i - 2) (by rw[uJ hi];omega);rw[Zr ah] at l0 l1 l2 l3;have i0:=qV (b:=H0.boxes.length) (n:=i - 16) (k:=.i64) ah;have i1:=qV (b:=H0.boxes.length) (n:=i - 15) (k:=.i64) ah;have i2:=qV (b:=H0.boxes.length) (n:=i - 7) (k:=.i64) ah;have i3:=qV (b:=H0.boxes.length) (n:=i - 2) (k:=.i64) ah;have i4:=qV (b:=H0.boxes.length) (n:=i) (k:=.i64) ah;have e0:IntKind.i64.wrap (((i:Nat):Int) - 16)=((i - 16:Nat):Int):=by rw[fh ah ah];omega
  have e1:IntKind.i64.wrap (((i:Nat):Int) - 15)=((i - 15:Nat):Int):=by rw[fh ah ah];omega
  have e2:IntKind.i64.wrap (((i:Nat):Int) - 7)=((i - 7:Nat):Int):=by rw[fh ah ah];omega
  have e3:IntKind.i64.wrap (((i:Nat):Int) - 2)=((i - 2:Nat):Int):=by rw[fh ah ah];omega
  have st:b8 aj (H0.push (bQ (wl b i))) 42 (.ptr (.box H0.boxes.length) i) (aN (D8 (gV b i) i))=aa (H0.push (bQ (wl b (i+1)))):=by rw[HC hw (by rw[uJ ah];omega),ss,KX ah (by rw[aG ah])]
  unfold D8 at st;have r7:=w8 (cU (gV b i) (i - 15)) 7 aO aO;have r18:=w8 (cU (gV b i) (i - 15)) 18 aO aO;have r17:=w8 (cU (gV b i) (i - 2)) 17 aO aO;have r19:=w8 (cU (gV b i) (i - 2)) 19 aO aO;have r7:∀h,W1.call 224 [aN (cU (gV b i) (i - 15)),.v (.int .i64 7)] h=aa (.ret (aN (NT.dD (cU (gV b i) (i - 15)) 7)),h):=r7;have r18:∀h,W1.call 224 [aN (cU (gV b i) (i - 15)),.v (.int .i64 18)] h=aa (.ret (aN (NT.dD (cU (gV b i) (i - 15)) 18)),h):=r18;have r17:∀h,W1.call 224 [aN (cU (gV b i) (i - 2)),.v (.int .i64 17)] h=aa (.ret (aN (NT.dD (cU (gV b i) (i - 2)) 17)),h):=r17;have r19:∀h,W1.call 224 [aN (cU (gV b i) (i - 2)),.v (.int .i64 19)] h=aa (.ret (aN (NT.dD (cU (gV b i) (i - 2)) 19)),h):=r19;clear hw
  repeat' (first|simp(maxSteps:=999999)(disch:=first|exact dZ|fail)only[gW,reduceIte,aY,aR,Aw,oH,oc,xl,xk, *]|(refine dX ?_ ?_<;>(intro _;try omega))|refine fQ uS aw ?_)
  exact⟨64 - (i+1),by omega,i+1,by omega,by omega,rfl,by trivial,by trivial,by trivial,rfl,by trivial,rfl⟩
 have:i=64:=by omega
 subst this;clear hc hi NK;have kwl:=aq.mk (QW b);have mO:=Ew b 64;rw[QW];generalize hW:gV b 64=w at *
 have nn:=ajd (H0.push (bQ w));have z2:=KZ;generalize gu:H0.push (bQ w)=H1 at *
 have kw1:aq (H1.boxes[H0.boxes.length]?=aa (bQ w)):=⟨by rw[<-gu];exact bp _ _⟩;have kl1:aq (H1.boxes.length=H0.boxes.length+1):=⟨by rw[<-gu,cH]⟩;have kX1:aq (Ext H0 H1):=⟨by rw[<-gu];exact Ext.push _ _⟩;clear gu;have st2:b8 aj ((H1.push (bQ kW)).push (bm 64 (aN 0#32))) 242 (.ptr (.box (H1.push (bQ kW)).boxes.length) 0) (.agg (bQ kW))=aa ((H1.push (bQ kW)).push (bQ kW)):=jt Cy KN (by rw[bJ,JM]) bG;have xH:Ext H1 ((H1.push (bQ kW)).push (bQ kW)):=(Ext.push _ _).trans (.push _ _);have kN:=bp (H1.push (bQ kW)) (bQ kW);have b1:=xH.box _ _ (kX1.out.box _ _ kS0.out);obtain⟨s0,s1,s2,s3,s4,s5,s6,s7,rfl⟩:=eight hs;have ld:=λn hn=>qW b1 (n:=n) hn;have l0:=ld 0 bG;have l1:=ld 1 bG;have l2:=ld 2 bG;have l3:=ld 3 bG;have l4:=ld 4 bG;have l5:=ld 5 bG;have l6:=ld 6 bG;have l7:=ld 7 bG;have j0:dx aj 229 (.ptr (.box h.boxes.length) 0) (.v (.int .i64 0))=aa (.ptr (.box h.boxes.length) 0):=yu (n:=0) aO;have j1:dx aj 229 (.ptr (.box h.boxes.length) 0) (.v (.int .i64 1))=aa (.ptr (.box h.boxes.length) 1):=yu (n:=1) aO;have j2:dx aj 229 (.ptr (.box h.boxes.length) 0) (.v (.int .i64 2))=aa (.ptr (.box h.boxes.length) 2):=yu (n:=2) aO;have j3:dx aj 229 (.ptr (.box h.boxes.length) 0) (.v (.int .i64 3))=aa (.ptr (.box h.boxes.length) 3):=yu (n:=3) aO;have j4:dx aj 229 (.ptr (.box h.boxes.length) 0) (.v (.int .i64 4))=aa (.ptr (.box h.boxes.length) 4):=yu (n:=4) aO;have j5:dx aj 229 (.ptr (.box h.boxes.length) 0) (.v (.int .i64 5))=aa (.ptr (.box h.boxes.length) 5):=yu (n:=5) aO;have j6:dx aj 229 (.ptr (.box h.boxes.length) 0) (.v (.int .i64 6))=aa (.ptr (.box h.boxes.length) 6):=yu (n:=6) aO;have j7:dx aj 229 (.ptr (.box h.boxes.length) 0) (.v (.int .i64 7))=aa (.ptr (.box h.boxes.length) 7):=yu (n:=7) aO;simp only[aqN] at l0 l1 l2 l3 l4 l5 l6 l7;have lw:=λn hn=>qW (xH.box _ _ kw1.out) (n:=n) hn;have lk:=λn hn=>qW kN (n:=n) hn;have b2:=xH.box _ _ (kX1.out.box _ _ kR0.out);have kX2:=aq.mk (kX0.out.trans (kX1.out.trans xH));have klw:=aq.mk lw;have klk:=aq.mk lk;have kb2:=aq.mk b2;clear ld lw lk b1 b2 xH kN
 repeat' (first|simp(maxSteps:=999999)(disch:=first|exact dZ|fail)only[gW,reduceIte,aY,aR,Aw, *]|(refine dX ?_ ?_<;>(intro _;try omega))|refine fQ uS aw ?_)
 generalize hN:(H1.push (bQ kW)).boxes.length=N at *
 generalize (H1.push (bQ kW)).push (bQ kW)=H2 at *
 clear hN;refine bM.gen λe2 q2 qd2 _ _=>?_;have f2:e2.get 2=.ptr (.box h.boxes.length) 0:=by rw[q2];simp only[gW,reduceIte,aY,aR,g2]
 have f4:e2.get 4=.ptr (.box (h.boxes.length+1)) 0:=by rw[q2];simp only[gW,reduceIte,aY,aR,g4]
 have f5:e2.get 5=.ptr (.box H0.boxes.length) 0:=by rw[q2];simp only[gW,reduceIte,aY,aR,g5]
 have f10:e2.get 10=.ptr (.box N) 0:=by rw[q2];exact gS
 have f11:e2.get 11=aN s0:=by rw[q2];exact gS
 have f12:e2.get 12=aN s1:=by rw[q2];exact gS
 have f13:e2.get 13=aN s2:=by rw[q2];exact gS
 have f14:e2.get 14=aN s3:=by rw[q2];exact gS
 have f15:e2.get 15=aN s4:=by rw[q2];exact gS
 have f16:e2.get 16=aN s5:=by rw[q2];exact gS
 have f17:e2.get 17=aN s6:=by rw[q2];exact gS
 have f18:e2.get 18=aN s7:=by rw[q2];exact gS
 have f19:e2.get 19=.v (.int .i64 (0:Nat)):=by rw[q2];simp only[gW,reduceIte,aY,aR];rfl
 have fd:e2.defers=[]:=by rw[qd2];simp only[gW,reduceIte,aY,aR,hd]
 clear q2 qd2;refine de (λm e H=>∃(i:Nat) (a b' c d e' f g j:eF),i<=64/\m=64 - i/\vF [s0,s1,s2,s3,s4,s5,s6,s7] b i=[a,b',c,d,e',f,g,j]/\e.get 2=.ptr (.box h.boxes.length) 0/\e.get 4=.ptr (.box (h.boxes.length+1)) 0/\e.get 5=.ptr (.box H0.boxes.length) 0/\e.get 10=.ptr (.box N) 0/\
  e.get 11=aN a/\e.get 12=aN b'/\e.get 13=aN c/\e.get 14=aN d/\e.get 15=aN e'/\e.get 16=aN f/\e.get 17=aN g/\e.get 18=aN j/\e.get 19=.v (.int .i64 i)/\e.defers=[]/\H=H2) ?_ 64 _ _ ?_
 rotate_left 1
 ·refine⟨0,s0,s1,s2,s3,s4,s5,s6,s7,by decide,rfl,aqC _ _,f2,f4,f5,f10,f11,f12,f13,f14,f15,f16,f17,f18,f19,fd,rfl⟩
 clear f2 f4 f5 f10 f11 f12 f13 f14 f15 f16 f17 f18 f19 fd g2 g4 g5 g7 hd nn z2 st2;rintro m e H ⟨i,a,b',c,d,e',f,g,j,hi,rfl,hv,g2,g4,g5,g10,g11,g12,g13,g14,g15,g16,g17,g18,g19,hd,rfl⟩;by_cases hc:i<64
 ·refine qL λQ=>?_;have lk:=klk.out i (by rw[JM];exact hc);have lw:=klw.out i (by rw[mO];exact hc);rw[ah2 hc] at lk;have V9:=qV (b:=H0.boxes.length) (n:=i) (k:=.i64) hc;have D1:=qV (b:=N) (n:=i) (k:=.i64) hc;have lD:=QT [s0,s1,s2,s3,s4,s5,s6,s7] b i;rw[hv,hW,amM] at lD;have kv:=aq.mk lD;have r6:∀h,W1.call 224 [aN e',.v (.int .i64 6)] h=aa (.ret (aN (NT.dD e' 6)),h):=w8 e' 6 aO aO;have r11:∀h,W1.call 224 [aN e',.v (.int .i64 11)] h=aa (.ret (aN (NT.dD e' 11)),h):=w8 e' 11 aO aO;have r25:∀h,W1.call 224 [aN e',.v (.int .i64 25)] h=aa (.ret (aN (NT.dD e' 25)),h):=w8 e' 25 aO aO;have r2:∀h,W1.call 224 [aN a,.v (.int .i64 2)] h=aa (.ret (aN (NT.dD a 2)),h):=w8 a 2 aO aO;have r13:∀h,W1.call 224 [aN a,.v (.int .i64 13)] h=aa (.ret (aN (NT.dD a 13)),h):=w8 a 13 aO aO;have r22:∀h,W1.call 224 [aN a,.v (.int .i64 22)] h=aa (.ret (aN (NT.dD a 22)),h):=w8 a 22 aO aO;clear lD hv l0 l1 l2 l3 l4 l5 l6 l7 j0 j1 j2 j3 j4 j5 j6 j7
  repeat' (first|simp(maxSteps:=999999)(disch:=first|exact dZ|fail)only[gW,reduceIte,aY,aR,Aw,oH,oc,C5,ai8, *]|(refine dX ?_ ?_<;>(intro _;try omega))|refine fQ uS aw ?_)
  refine⟨64 - (i+1),by omega,i+1,_,a,b',c,_,e',f,g,by omega,rfl,kv.out,?_⟩;refine⟨?_,?_,?_,?_,rfl,?_,?_,?_,rfl,?_,?_,?_,?_,?_,?_⟩<;>first|exact aT|exact rfl
 ·have:i=64:=by omega
  subst this;have hbF:wh [s0,s1,s2,s3,s4,s5,s6,s7] b=[s0+a,s1+b',s2+c,s3+d,s4+e',s5+f,s6+g,s7+j]:=by unfold wh;show List.zipWith (·+·) [s0,s1,s2,s3,s4,s5,s6,s7] (vF [s0,s1,s2,s3,s4,s5,s6,s7] b 64)=_;rw[hv];rfl
  rw[hbF];have Az:b8 aj H 229 (.ptr (.box (h.boxes.length+1)) 0) (.agg (bQ [s0+a,s1+b',s2+c,s3+d,s4+e',s5+f,s6+g,s7+j]))=aa (H.put (h.boxes.length+1) (bQ [s0+a,s1+b',s2+c,s3+d,s4+e',s5+f,s6+g,s7+j])):=by rw[fw Cy HM kb2.out rfl bG,xn bG]
  have lX:aF aj Gt (H.put (h.boxes.length+1) (bQ [s0+a,s1+b',s2+c,s3+d,s4+e',s5+f,s6+g,s7+j])) 229 (.ptr (.box (h.boxes.length+1)) 0)=aa (.agg (bQ [s0+a,s1+b',s2+c,s3+d,s4+e',s5+f,s6+g,s7+j])):=OR R9 HM (ey (aQ.1 kb2.out).1) rfl;clear hv;simp only[ev,uN] at Az lX
  repeat' (first|simp(maxSteps:=999999)(disch:=first|exact dZ|fail)only[gW,reduceIte,aY,aR,Aw,oH,oc,acm, *]|(refine dX ?_ ?_<;>(intro _;try omega))|refine fQ uS aw ?_)
  exact⟨_,rfl,kX2.out.fI ah _⟩
def Ht:Tryz.f213.results.toList=[.tmp 2]:=aw
def Mb{H}{k}{n0}{es new}{x}(hx:mw H 1 x=aa (aX new))(hl:es.length+new.length<=8796093022208)(hk:dQ n0 H k)(ho:dj H=ai)(hn:n0<=H.tn):
 ∃t H',gd aj H #[28,28] (.list k 1 (aX es)) x=aa (.list t 1 (aX (es++new)),H')/\Grown n0 H H' t:=by
 by_cases hs:new=[]
 ·subst hs;obtain⟨i,q1,q2,q3,q4⟩:=Cb;refine⟨k,H,?_,Grown.refl hk ho⟩;rw[Sh jb (.inl ⟨_,jb⟩) q1 ah (by rw[q2];exact q4) (by rw[q2];exact hx) (.inl q2.symm),jv]
 ·exact⟨_,_,IC (.inl ⟨_,jb⟩) hx hs hl (.inl rfl) hk,Grown.one hk ho hn⟩
def Mm:gN aj 28 0 []=aa (.list .tight 1 []):=aw
def ac0:gN aj 28 1 [(0,.v (.int .u8 128))]=aa (.list .tight 1 [[bT 128]]):=aw
def acS:gN aj 28 1 [(0,.v (.int .u8 0))]=aa (.list .tight 1 [[bT 0]]):=aw
def aoL{t}{x y}{n k}(hk:k<=7):cQ aj .shr t x y (.v (.int .u64 (n:Nat))) (.v (.int .i64 ((8 * k:Nat):Int)))=aa (.v (.int .u64 ((n/2^(8 * k):Nat):Int))):=by rw[A0 ah,dS,show IntKind.u64.bits=64 from rfl,Nat.min_eq_left ah];congr 3;rw[EK _ (by have:(0:Int)<2^(8 * k):=Int.pow_pos aO;omega)];simp
def aij{n c}(hc:c<8):(oE n).take (c+1)=(oE n).take c++[UInt8.ofNat (n * 8/2^(8 * (7 - c)))]:=by refine gx ?_;unfold oE;rw[eR,yW hc];rfl
def tK(b:List UInt8)(j:Nat):List UInt8:=b++0x80::bm j 0
def ajI(b)(j):tK b j++[0]=tK b (j+1):=by unfold tK;rw[List.replicate_succ'];simp
def Pq(b)(j):(tK b j).length=b.length+1+j:=by unfold tK;simp;omega
def amZ(b:List UInt8)(k:Tok)(h:ao)(ho:dj h=ai)(hb:b.length<=1099511620000):
 ∃r h',W1.call 213 [.list k 1 (aX b)] h=aa (r,h')/\∃t,r=.ret (.list t 1 (aX (qp b)))/\Grown h.tn h h' t:=by
 obtain⟨t1,h1,a1,g1⟩:=Mb (H:=h) (k:=.tight) (n0:=h.tn) (es:=[]) (new:=b) (x:=.list k 1 (aX b)) Pc (by simp;omega) (.inr (.inl rfl)) ho (aJ _);rw[jZ] at a1;replace a1:gd aj h #[28,28] (.list .tight 1 []) (.list k 1 (aX b))=aa (.list t1 1 (aX b),h1):=a1;have a2:=y8 (H:=h1) (k:=t1) (k':=.tight) (es:=b) (c:=128) ah (.inl rfl) g1.can;have g2:=g1.app (aJ _);have kG:=aq.mk g2;have e0:b++[128]=tK b 0:=rfl;rw[e0] at a2;have u28:=jb;have bl:=Mm;have bl1:=ac0;have nm:(aX b).length=b.length:=bJ _;clear g1 g2 ho e0;refine ec rfl Tryz.func213 rfl ?_;refine bR @Ht ?_;refine de (λm e H=>∃(j:Nat) (t:Tok),j<=oI b.length/\m=oI b.length - j/\e.get 0=.list k 1 (aX b)/\e.get 3=.list t 1 (aX (tK b j))/\e.defers=[]/\Grown h.tn h H t) ?_ (oI b.length) _ _ ?_;rotate_left 1
 ·refine⟨0,.free h1.tn,df _,rfl,?_,?_,?_,kG.out⟩<;>(first|assumption|(exact gR))
 clear kG a1 a2;rintro m e H ⟨j,t,hj,rfl,g0,g3,hd,hG⟩;have kG:=aq.mk hG;have hz:oI b.length=(119 - b.length%64)%64:=rfl;have dy:(aX (tK b j)).length=b.length+1+j:=by rw[bJ,Pq]
 have hm:((b.length+1+j:Nat):Int).tmod 64=(((b.length+1+j)%64:Nat):Int):=o9 _ 64;by_cases az:j<oI b.length
 ·have bE:¬((((b.length+1+j)%64:Nat):Int)=56):=by omega
  have ap:=y8 (H:=H) (k:=t) (k':=.tight) (es:=tK b j) (c:=0) (by rw[Pq];omega) (.inl rfl) hG.can;rw[ajI] at ap;have bl2:=acS;clear hG;refine bR @Ht ?_;exact⟨oI b.length - (j+1),by omega,j+1,.free H.tn,by omega,rfl,by trivial,by trivial,by trivial,kG.out.app (aJ _)⟩
 have:j=oI b.length:=by omega
 subst this;have lQ:(b.length+1+oI b.length)%64=56:=by omega
 rw[lQ] at hm;have w1:=vP (n:=b.length) ah;have w2:IntKind.u64.wrap (((b.length:Nat):Int) * 8)=((b.length * 8:Nat):Int):=by rw[show((b.length:Nat):Int) * 8=((b.length * 8:Nat):Int) by omega,vP ah]
 have kll:=aq.mk dy;have arT:((56:Nat):Int)=56:=rfl;clear hG hz;refine cq @Ht @qG ?_;refine de (λm e H=>∃(c:Nat) (t:Tok),c<=8/\m=8 - c/\e.get 3=.list t 1 (aX (tK b (oI b.length)++(oE b.length).take c))/\e.get 4=.v (.int .u64 ((b.length * 8:Nat):Int))/\e.get 5=.v (.int .i64 (7 - (c:Int)))/\e.defers=[]/\Grown h.tn h H t) ?_ 8 _ _ ?_;rotate_left 1
 ·refine⟨0,t,df _,rfl,?_,?_,?_,?_,kG.out⟩<;>(first|assumption|(simp only[gW,reduceIte,aY,aR,gm,jv]<;>first|assumption|rfl))
 clear kG g0 g3 hd;rintro m e H ⟨c,t,hc,rfl,g3,g4,g5,hd,hG⟩;have kG:=aq.mk hG;by_cases az:c<8
 ·have eo:(0:Int)<=7 - (c:Int):=by omega
  have e8:IntKind.i64.wrap (8 * (7 - (c:Int)))=((8 * (7 - c):Nat):Int):=by rw[fh ah ah];omega
  have e1:IntKind.i64.wrap (7 - (c:Int) - 1)=7 - ((c+1:Nat):Int):=by rw[fh ah ah];omega
  have sh:=λt x y=>aoL (t:=t) (x:=x) (y:=y) (n:=b.length * 8) (k:=7 - c) ah;have uv:=QO (b.length * 8/2^(8 * (7 - c)));have bl3:=zd (UInt8.ofNat (b.length * 8/2^(8 * (7 - c))));have Uv:(oE b.length).length=8:=by simp[oE]
  have ap:=y8 (H:=H) (k:=t) (k':=.tight) (es:=tK b (oI b.length)++(oE b.length).take c) (c:=UInt8.ofNat (b.length * 8/2^(8 * (7 - c)))) (by rw[du,Pq,fb];have:oI b.length<64:=mE _ aO;omega) (.inl rfl) hG.can;rw[tV,<-aij az] at ap;clear hG;refine cq @Ht @Dc ?_;exact⟨8 - (c+1),by omega,c+1,.free H.tn,by omega,rfl,by trivial,by trivial,by trivial,by trivial,kG.out.app (aJ _)⟩
 ·have:c=8:=by omega
  subst this;have Uv:(oE b.length).take 8=oE b.length:=fK (by simp[oE]);have hp:tK b (oI b.length)++oE b.length=qp b:=by unfold tK qp;simp
  rw[Uv,hp] at g3;have N3:¬((0:Int)<=7 - ((8:Nat):Int)):=by omega
  clear hG;refine bR @Ht ?_;exact⟨_,_,rfl,_,rfl,kG.out⟩
def anh:Tryz.f166.results.toList=[.cell 4 177]:=aw
def PV:Tryz.f123.results.toList=[.tmp 4]:=aw
def ajK(b):(qp b).length=64 * ((qp b).length/64):=by
 have:(qp b).length=b.length+1+oI b.length+8:=by unfold qp;simp[oE];omega
 have hz:oI b.length=(119 - b.length%64)%64:=rfl;omega
def WW:∀(s:List eF) (i:Nat),i<4 * s.length->(js s)[i]?=aa (UInt8.ofNat ((cU s (i/4)).toNat/256^(3 - i%4)))
 | [],i,h=>by simp at h
 |x::s,i,h=>by
  have e:js (x::s)=[UInt8.ofNat (x.toNat/16777216),UInt8.ofNat (x.toNat/65536),UInt8.ofNat (x.toNat/256),UInt8.ofNat x.toNat]++js s:=by unfold js;rw[List.flatMap_cons]
  rw[e];rcases dT i 4 with q|q
  ·have:i=0∨i=1∨i=2∨i=3:=(by omega);rcases this with rfl|rfl|rfl|rfl<;>simp[cU]
  ·rw[ET (by simpa using q)];have:=WW s (i - 4) (by simp at h;omega);simp only[iJ,jP];rw[(ah:i - (0+1+1+1+1)=i - 4),this];have h1:i/4=(i - 4)/4+1:=(by omega);have h2:i%4=(i - 4)%4:=(by omega);rw[h1,h2];rfl
def ack:mF aj 177 []=aa (.agg (bm 32 (bT 0))):=aw
def acu:mF aj 229 [(0,.v (.int .u32 1779033703)),(1,.v (.int .u32 3144134277)),(2,.v (.int .u32 1013904242)),(3,.v (.int .u32 2773480762)),(4,.v (.int .u32 1359893119)),(5,.v (.int .u32 2600822924)),(6,.v (.int .u32 528734635)),(7,.v (.int .u32 1541459225))]=aa (.agg (bQ NT.start)):=aw
def alh:(AV.agg (bm 32 (bT 0))).bU=aa (bm 32 (bT 0)):=aw
def aoM{t}{x y}{v:eF}{r}(hr:r<4):cQ aj .shr t x y (aN v) (.v (.int .i64 (24 - ((8 * r:Nat):Int))))=aa (.v (.int .u32 ((v.toNat/256^(3 - r):Nat):Int))):=by
 have e:(24 - ((8 * r:Nat):Int))=((24 - 8 * r:Nat):Int):=by omega
 rw[e,sw ah];unfold aN;rw[BitVec.toNat_ushiftRight,Nat.shiftRight_eq_div_pow];have:2^(24 - 8 * r)=256^(3 - r):=by rw[show(256:Nat)=2^8 from rfl,<-Nat.pow_mul];congr 1;omega
 rw[this]
def aeA(n)(h):mY aj h 42 5 (.v (.int .u32 n))=aa (.v (.int .u8 (IntKind.u8.wrap n)),h):=aw
def ahZ{b}{n}(hn:n<32):dx aj 177 (.ptr (.box b) 0) (.v (.int .i64 (n:Nat)))=aa (.ptr (.box b) n):=GG hn
def Yj(b:List UInt8)(k:Tok)(h:ao)(ho:dj h=ai)(hb:b.length<=1099511620000):∃h',W1.call 190 [.list k 1 (aX b)] h=aa (.ret (.agg (bP (eJ b))),h')/\Ext h h':=by
 have z1:=ED;have z2:=Zt;have bst:=acu;have x0:Ext h ((h.push (bm 32 (bT 0))).push (bQ NT.start)):=(Ext.push _ _).trans (.push _ _);have st0:b8 aj ((h.push (bm 32 (bT 0))).push (bQ (bm 8 0#32))) 229 (.ptr (.box (h.push (bm 32 (bT 0))).boxes.length) 0) (.agg (bQ NT.start))=aa ((h.push (bm 32 (bT 0))).push (bQ NT.start)):=jt Cy HM rfl rfl;obtain⟨r1,h1,c1,t,rfl,g1⟩:=amZ b k _ (x0.ok ho) hb;have Oe:(qp b).length=b.length+1+oI b.length+8:=by unfold qp;simp[oE];omega
 have oC:oI b.length<64:=mE _ aO;have hpm:=ajK b;have kSh:aq (eJ b=js (gf ((qp b).length/64) NT.start (qp b))):=⟨rfl⟩;generalize qp b=p at *
 generalize hn:p.length/64=n at *
 have kX:=aq.mk (g1.ext x0 x0.tn);have kd:=aq.mk (g1.box _ _ (aZ (bp h (bm 32 (bT 0)))));have ks:aq (h1.boxes[h.boxes.length+1]?=aa (bQ NT.start)):=⟨g1.box _ _ (ng (by rw[cH]))⟩;have ar2:(aX p).length=p.length:=bJ _;have u28:=jb;clear x0 g1 ho;refine ij rfl Tryz.func190 rfl ?_;refine bR @Ho ?_;refine de (λm e H=>∃i:Nat,i<=n/\m=n - i/\e.get 2=.ptr (.box h.boxes.length) 0/\e.get 3=.ptr (.box (h.boxes.length+1)) 0/\e.get 4=.list t 1 (aX p)/\e.get 5=.v (.int .i64 ((64 * i:Nat):Int))/\e.defers=[]/\H.boxes[h.boxes.length]?=aa (bm 32 (bT 0))/\H.boxes[h.boxes.length+1]?=aa (bQ (gf i NT.start p))/\Ext h H) ?_ n _ _ ?_;rotate_left 1
 ·refine⟨0,df _,rfl,?_,?_,?_,?_,?_,kd.out,ks.out,kX.out⟩<;>(first|assumption|(simp only[gW,reduceIte,aY,aR,cH]<;>rfl))
 clear kd ks kX st0 z2 bst c1;rintro m e H ⟨i,hi,rfl,g2,g3,g4,g5,hd,ni,nj,hX⟩;have h8:=uR i NT.start p rfl;by_cases az:i<n
 ·refine qL λQ=>?_;have e1:IntKind.i64.wrap (((64 * i:Nat):Int)+64)=((64 * i+64:Nat):Int):=by rw[fh ah ah];omega
  obtain⟨k',sl⟩:=Yx (k:=t) (b:=p) (lo:=64 * i) (hi:=64 * i+64) ah ah;have ep:(p.take (64 * i+64)).drop (64 * i)=(p.drop (64 * i)).take 64:=by rw[List.drop_take];congr 1;omega
  rw[ep] at sl;obtain⟨H2,c2,x2⟩:=akX (gf i NT.start p) ((p.drop (64 * i)).take 64) k' H h8 (by rw[fb,gE];omega);rw[<-Fy] at c2;have l0:aF aj Gt H 229 (.ptr (.box (h.boxes.length+1)) 0)=aa (.agg (bQ (gf i NT.start p))):=OR R9 HM nj h8;have Nm:=x2.box _ _ nj;have st:b8 aj H2 229 (.ptr (.box (h.boxes.length+1)) 0) (.agg (bQ (gf (i+1) NT.start p)))=aa (H2.put (h.boxes.length+1) (bQ (gf (i+1) NT.start p))):=by rw[fw Cy HM Nm (by rw[bJ,uR _ _ _ rfl]) (by rw[bJ,h8];decide),xn (by rw[bJ,bJ,uR _ _ _ rfl,h8])]
  have kd:aq ((H2.put (h.boxes.length+1) (bQ (gf (i+1) NT.start p))).boxes[h.boxes.length]?=aa (bm 32 (bT 0))):=⟨by rw[cP ah];exact x2.box _ _ ni⟩;have ks:aq ((H2.put (h.boxes.length+1) (bQ (gf (i+1) NT.start p))).boxes[h.boxes.length+1]?=aa (bQ (gf (i+1) NT.start p))):=⟨ey (aQ.1 Nm).1⟩;have kX:=aq.mk ((hX.trans x2).fI (ah:h.boxes.length<=h.boxes.length+1) (bQ (gf (i+1) NT.start p)));have UR:((64 * i:Nat):Int)<(p.length:Int):=by omega
  clear ni nj Nm hX x2 ep
  repeat' (first|simp(maxSteps:=999999)(disch:=first|exact dZ|fail)only[gW,reduceIte,aY,aR,Ho, *]|(refine dX ?_ ?_<;>(intro _;try omega))|refine fQ uS aw ?_)
  exact⟨n - (i+1),by omega,i+1,by omega,rfl,by trivial,by trivial,by trivial,by simp;omega,by trivial,kd.out,ks.out,kX.out⟩
 have:i=n:=by omega
 subst this;have UR:¬((64 * i:Nat):Int)<(p.length:Int):=by omega
 generalize gf i NT.start p=s at *
 have c32:=alh;have bd:=ack;have st1:b8 aj (H.push (bm 32 (bT 0))) 177 (.ptr (.box H.boxes.length) 0) (.agg (bm 32 (bT 0)))=aa (H.push (bm 32 (bT 0))):=jt c32 qu rfl rfl;have kX:=aq.mk (hX.trans (Ext.push H (bm 32 (bT 0))));have kd:aq ((H.push (bm 32 (bT 0))).boxes[h.boxes.length]?=aa (bm 32 (bT 0))):=⟨aZ ni⟩;have ks:aq ((H.push (bm 32 (bT 0))).boxes[h.boxes.length+1]?=aa (bQ s)):=⟨aZ nj⟩;have nm:=(aQ.1 nj).1;have agX:(js s).length=32:=by rw[Cn,h8]
 clear hX ni nj;refine bR @Ho ?_;refine de (λm e H1=>∃j:Nat,j<=32/\m=32 - j/\e.get 2=.ptr (.box h.boxes.length) 0/\e.get 3=.ptr (.box (h.boxes.length+1)) 0/\e.get 6=.ptr (.box H.boxes.length) 0/\e.get 7=.v (.int .i64 j)/\e.defers=[]/\H1=H.push (bP ((js s).take j)++bm (32 - j) (bT 0))) ?_ 32 _ _ ?_;rotate_left 1
 ·refine⟨0,df _,rfl,?_,?_,?_,?_,?_,rfl⟩<;>(first|assumption|(exact gR))
 clear g2 g3 g4 g5 hd st1 bd c32 UR;rintro m e H1 ⟨j,hj,rfl,g2,g3,g6,g7,hd,rfl⟩;by_cases az:j<32
 ·refine qL λQ=>?_;have m1:((j:Nat):Int).tdiv 4=((j/4:Nat):Int):=KQ j 4;have m2:((j:Nat):Int).tmod 4=((j%4:Nat):Int):=o9 j 4;have w1:IntKind.i64.wrap ((j/4:Nat):Int)=((j/4:Nat):Int):=fh ah ah;have w2:IntKind.i64.wrap (8 * ((j%4:Nat):Int))=((8 * (j%4):Nat):Int):=by rw[fh ah ah];omega
  have w3:IntKind.i64.wrap (24 - ((8 * (j%4):Nat):Int))=24 - ((8 * (j%4):Nat):Int):=fh ah ah;have ixs:=yu (b:=h.boxes.length+1) (n:=j/4) (k:=.i64) ah;have l1:aF aj Gt (H.push (bP ((js s).take j)++bm (32 - j) (bT 0))) 42 (.ptr (.box (h.boxes.length+1)) (j/4))=aa (aN (cU s (j/4))):=by refine qW ?_ ah;have:=ks.out;rw[Je ah] at this ⊢;exact this
  have sh:=λt x y=>aoM (t:=t) (x:=x) (y:=y) (v:=cU s (j/4)) (r:=j%4) ah;have uv:=QO ((cU s (j/4)).toNat/256^(3 - j%4));have ixd:=ahZ (b:=H.boxes.length) az;have ho:=WW s j ah;have YW:b8 aj (H.push (bP ((js s).take j)++bm (32 - j) (bT 0))) 5 (.ptr (.box H.boxes.length) j) (bT (UInt8.ofNat ((cU s (j/4)).toNat/256^(3 - j%4))))=aa (H.push (bP ((js s).take (j+1))++bm (32 - (j+1)) (bT 0))):=by have bO:(bP ((js s).take j)).length=j:=(by rw[lM,fb];omega);rw[KJ (bp _ _) (by rw[du,bO,qC];omega),ss];congr 2;obtain⟨q,hq⟩:∃q,32 - j=q+1:=⟨31 - j,by omega⟩;rw[hq,CP,List.set_append_right _ _ (by rw[bO];exact aJ _),bO,yX,List.set_cons_zero,gx ho,(ah:32 - (j+1)=q)];unfold bP;rw[List.map_append,tV];rfl
  clear ho;refine cq @Ho @aeA ?_;exact⟨32 - (j+1),by omega,j+1,by omega,rfl,by trivial,by trivial,by trivial,rfl,by trivial,rfl⟩
 ·have:j=32:=by omega
  subst this;have et:bP ((js s).take 32)++bm (32 - 32) (bT 0)=bP (eJ b):=by rw[fK ah,yX,aaC,jv,kSh.out]
  have hL:(bP (eJ b)).length=32:=by rw[lM,kSh.out];exact agX
  have wM:=(aQ.1 kd.out).1;have kd2:(H.push (bP (eJ b))).boxes[h.boxes.length]?=aa (bm 32 (bT 0)):=by have:=kd.out;rw[Je ah] at this ⊢;exact this
  have l1:aF aj Gt (H.push (bP (eJ b))) 177 (.ptr (.box H.boxes.length) 0)=aa (.agg (bP (eJ b))):=by rw[jj C4 qu (bp _ _) (by rw[hL];exact aJ _),iB,fK (by rw[hL];exact aJ _)]
  have st:b8 aj (H.push (bP (eJ b))) 177 (.ptr (.box h.boxes.length) 0) (.agg (bP (eJ b)))=aa ((H.push (bP (eJ b))).put h.boxes.length (bP (eJ b))):=by rw[fw (yI _) qu kd2 hL bG,xn (by rw[hL];rfl)]
  have l2:aF aj Gt ((H.push (bP (eJ b))).put h.boxes.length (bP (eJ b))) 177 (.ptr (.box h.boxes.length) 0)=aa (.agg (bP (eJ b))):=by rw[jj C4 qu (ey (aQ.1 kd2).1) (by rw[hL];exact aJ _),iB,fK (by rw[hL];exact aJ _)]
  have xh:Ext h (H.push (bP (eJ b))):=by have fG:∀(c:Nat) cs,h.boxes[c]?=aa cs->(H.push (bP (eJ b))).boxes[c]?=aa cs:=λc cs hc=>(by have:=kX.out.box c cs hc;rw[Je (by have:=(aQ.1 hc).1;omega)] at this ⊢;exact this);exact⟨fG,kX.out.loop,kX.out.tn,kX.out.dead,kX.out.ok⟩
  have kX2:=aq.mk (xh.fI (aJ _) (bP (eJ b)));rw[et];clear kd2 xh et;refine bR @Ho ?_;exact⟨_,rfl,kX2.out⟩
def anJ(bh b)(k)(h)(ho:dj h=ai)(hb:b.length<=1099511610000)(ht:bh.length<=1099511610000):
 ∃h',W1.call 166 [.v (.string (bs bh)),.list k 1 (aX b)] h=aa (.ret (.agg (bP (fZ bh b))),h')/\Ext h h':=by
 have z177:=ED;have x0:Ext h ((h.push (bm 32 (bT 0))).app .nil):=(Ext.push _ _).trans (Ext.app (Ext.refl _) (.inl rfl));have e0:((h.push (bm 32 (bT 0))).app .nil).boxes=(h.push (bm 32 (bT 0))).boxes:=eS _ _;obtain⟨H2,c2,x2⟩:=Yj bh (.free (h.push (bm 32 (bT 0))).tn) ((h.push (bm 32 (bT 0))).app .nil) (x0.ok ho) ah;have d0:H2.boxes[h.boxes.length]?=aa (bm 32 (bT 0)):=x2.box _ _ (by rw[e0];exact bp _ _);have tl:(bP (eJ bh)).length=32:=by rw[lM,tM]
 have st1:b8 aj (H2.push (bm 32 (bT 0))) 177 (.ptr (.box H2.boxes.length) 0) (.agg (bP (eJ bh)))=aa (H2.push (bP (eJ bh))):=jt (yI _) qu tl rfl;have x3:Ext h (H2.push (bP (eJ bh))):=(x0.trans x2).trans (Ext.push _ _);have nr:mw (H2.push (bP (eJ bh))) 1 (.arr H2.boxes.length 0 32 32)=aa (aX (eJ bh)):=
  dO.news (dO.box (ze _) (by rw[bJ,tM]) (by rw[HR];exact bp _ _))
 obtain⟨t4,H4,a4,g4⟩:=Mb (H:=H2.push (bP (eJ bh))) (k:=.tight) (n0:=h.tn) (es:=[]) nr (by rw[tM];simp) (.inr (.inl rfl)) (x3.ok ho) x3.tn;rw[jZ] at a4;replace a4:gd aj (H2.push (bP (eJ bh))) #[28,28] (.list .tight 1 []) (.arr H2.boxes.length 0 32 32)=aa (.list t4 1 (aX (eJ bh)),H4):=a4;have x4:=g4.ext x3 (aJ _);obtain⟨t5,H5,a5,g5⟩:=Mb (H:=H4) (k:=t4) (n0:=h.tn) (es:=eJ bh) (new:=b) (x:=.list k 1 (aX b)) Pc (by rw[tM];omega) g4.can g4.ok x4.tn;have x5:=g5.ext x4 (aJ _);obtain⟨H6,c6,x6⟩:=Yj (eJ bh++b) t5 H5 g5.ok (by rw[du,tM];omega);have d6:H6.boxes[h.boxes.length]?=aa (bm 32 (bT 0)):=x6.box _ _ (g5.box _ _ (g4.box _ _ (aZ d0)));have tl2:(bP (fZ bh b)).length=32:=by rw[lM];exact tM _
 have st2:b8 aj H6 177 (.ptr (.box h.boxes.length) 0) (.agg (bP (fZ bh b)))=aa (H6.put h.boxes.length (bP (fZ bh b))):=by rw[fw (yI _) qu d6 tl2 bG,xn (by rw[tl2];simp)]
 have ld2:aF aj Gt (H6.put h.boxes.length (bP (fZ bh b))) 177 (.ptr (.box h.boxes.length) 0)=aa (.agg (bP (fZ bh b))):=by rw[jj C4 qu (ey (aQ.1 d6).1) (by rw[tl2];exact aJ _),iB,fK (by rw[tl2];exact aJ _)]
 replace c6:W1.call 190 [.list t5 1 (aX (eJ bh++b))] H5=aa (.ret (.agg (bP (fZ bh b))),H6):=c6;have kX:=aq.mk ((x5.trans x6).fI (aJ _) (bP (fZ bh b)));have bl:=Mm;clear e0 x0 x2 x3 x4 x5 x6 g4 g5 d0 d6 tl tl2 nr;refine ij rfl Tryz.func166 rfl ?_;refine eg @anh @Tj @Yw ?_;exact⟨_,rfl,kX.out⟩
def akW{b}:jc (mask b) 1=(dp b 0).toNat%128∨b=[]:=by
 by_cases hb:b=[]
 ·exact .inr hb
 ·refine .inl ?_;have:0<b.length:=List.length_pos_iff.2 hb;show 0 * 256+(dp (mask b) 0).toNat=_;rw[JV this,aD rfl,L0];omega
def alJ(bh b:List UInt8)(k:Tok)(h:ao)(ho:dj h=ai)(hb:b.length<=1099511610000)(ht:bh.length<=1099511610000):
 ∃h',W1.call 123 [.v (.string (bs bh)),.list k 1 (aX b)] h=aa (.ret (im (nh (fZ bh b):Nat)),h')/\Ext h h':=by
 obtain⟨H1,c1,x1⟩:=anJ bh b k h ho hb ht;have hl:(fZ bh b).length=32:=tM _;have cV:(bP (fZ bh b)).length=32:=by rw[lM,hl]
 have he:=hash_eq (b:=fZ bh b) ah;generalize fZ bh b=d at *
 have cY:0<d.length:=by omega
 have z177:=ED;have st1:b8 aj (H1.push (bm 32 (bT 0))) 177 (.ptr (.box H1.boxes.length) 0) (.agg (bP d))=aa (H1.push (bP d)):=jt (yI _) qu cV rfl;have ix0:dx aj 177 (.ptr (.box H1.boxes.length) 0) (.v (.int .i64 0))=aa (.ptr (.box H1.boxes.length) 0):=GG (n:=0) aO;have l0:aF aj Gt (H1.push (bP d)) 5 (.ptr (.box H1.boxes.length) 0)=aa (.v (.int .u8 ((dp d 0).toNat:Nat))):=JO (bp _ _) cY;have m0:(((dp d 0).toNat:Nat):Int).tmod 128=((jc (mask d) 1:Nat):Int):=by refine(o9 (dp d 0).toNat 128).trans ?_;rw[show jc (mask d) 1=(dp d 0).toNat%128 from akW.resolve_right (by rintro rfl;simp at cY)]
 have ew0:IntKind.i64.wrap (((dp d 0).toNat:Nat):Int)=(((dp d 0).toNat:Nat):Int):=by have:=uI (dp d 0);exact fh ah ah
 have hX:=aq.mk (x1.trans (Ext.push H1 (bP d)));have az:=λi hi=>Wz cY (i:=i) hi;have mL:∀i,i≠0->dp (mask d) i=dp d i:=λi hi=>by rw[JV cY,aG hi]
 have kB:=aq.mk (bp H1 (bP d));have klt:=aq.mk az;have ke:=aq.mk he;have kl:=aq.mk hl;have kml:=aq.mk mL;clear cV hl az he mL x1 cY ho;unfold im;refine ij rfl Tryz.func123 rfl ?_;refine cq @PV @FH ?_;refine de (λm e H=>∃i:Nat,1<=i/\i<=8/\m=8 - i/\e.get 5=.ptr (.box H1.boxes.length) 0/\e.get 7=.v (.int .i64 i)/\e.get 6=.v (.int .i64 (jc (mask d) i:Nat))/\e.defers=[]/\H=H1.push (bP d)) ?_ 7 _ _ ?_;rotate_left 1
 ·refine⟨1,by decide,by decide,rfl,?_,?_,?_,?_,rfl⟩<;>(first|assumption|(exact gR))
 clear z177 st1 ix0 l0 c1 m0 ew0;rintro m e H ⟨i,NJ,hi,rfl,g5,g7,g6,hd,rfl⟩;by_cases h8:i=8
 ·subst h8;have e1:(((jc (mask d) 8:Nat):Int)).tmod 1073741789=((nh d:Nat):Int):=by rw[<-ke.out];exact o9 _ _
  generalize jc (mask d) 8=A at *
  refine bR @PV ?_;exact⟨_,rfl,hX.out⟩
 ·have az:i<8:=by omega
  have a1:=klt.out i az;have u1:=uI (dp d i);have ix:=GG (b:=H1.boxes.length) (n:=i) (k:=.i64) ah;have ld:aF aj Gt (H1.push (bP d)) 5 (.ptr (.box H1.boxes.length) i)=aa (.v (.int .u8 ((dp d i).toNat:Nat))):=JO kB.out (by have:=kl.out;omega);have ew:IntKind.i64.wrap (((dp d i).toNat:Nat):Int)=(((dp d i).toNat:Nat):Int):=fh ah ah;have kstep:=aq.mk (show jc (mask d) (i+1)=jc (mask d) i * 256+(dp d i).toNat by rw[<-kml.out i ah];rfl);generalize jc (mask d) i=A at *
  generalize (dp d i).toNat=r at *
  have e2:IntKind.i64.wrap (((A:Nat):Int) * 256)=((A * 256:Nat):Int):=by rw[fh ah ah];omega
  have e3:IntKind.i64.wrap (((A * 256:Nat):Int)+((r:Nat):Int))=((A * 256+r:Nat):Int):=by rw[fh ah ah];omega
  refine cq @PV @FH ?_;exact⟨8 - (i+1),by omega,i+1,by omega,by omega,rfl,by trivial,rfl,by rw[kstep.out],by trivial,by trivial⟩
def am4:Tryz.f119.results.toList=[.cell 2 96]:=aw
def am5:Tryz.f120.results.toList=[.cell 2 96]:=aw
def am6:Tryz.f121.results.toList=[.cell 2 96]:=aw
def Mf(n):mF aj 96 [(0,.v (.int .i64 1)),(1,.v (.int .i64 n))]=aa (.agg (bf 1 n [] .nil 0 [])):=aw
def Mg(s):mF aj 96 [(0,.v (.int .i64 2)),(2,.v (.string (bs s)))]=aa (.agg (bf 2 0 s .nil 0 [])):=aw
def bdl(k)(sz)(ae):mF aj 96 [(0,.v (.int .i64 3)),(3,.list k sz ae)]=aa (.agg (bf 3 0 [] k sz ae)):=aw
def KK{H:ao}{k n}{s}{t}{sz}{ae}:b8 aj (H.push (bf 0 0 [] .nil 0 [])) 96 (.ptr (.box H.boxes.length) 0) (.agg (bf k n s t sz ae))=aa (H.push (bf k n s t sz ae)):=jt rfl rp rfl rfl
def OQ{H:ao}{k n}{s}{t}{sz}{ae}:aF aj Gt (H.push (bf k n s t sz ae)) 96 (.ptr (.box H.boxes.length) 0)=aa (.agg (bf k n s t sz ae)):=rZ rfl (bp _ _)
def alR(n:Int)(h:ao):W1.call 120 [.v (.int .i64 n)] h=aa (.ret (.agg (bf 1 n [] .nil 0 [])),h.push (bf 1 n [] .nil 0 [])):=by have z:=AG;refine cN rfl Tryz.func120 rfl ?_;exact oo @am5 @Mf @KK @OQ
def anP(s:List UInt8)(h:ao):W1.call 121 [.v (.string (bs s))] h=aa (.ret (.agg (bf 2 0 s .nil 0 [])),h.push (bf 2 0 s .nil 0 [])):=by have z:=AG;refine cN rfl Tryz.func121 rfl ?_;exact oo @am6 @Mg @KK @OQ
def amv(k:Tok)(sz:Nat)(ae:List (List AV))(h:ao):W1.call 119 [.list k sz ae] h=aa (.ret (.agg (bf 3 0 [] k sz ae)),h.push (bf 3 0 [] k sz ae)):=by have z:=AG;refine cN rfl Tryz.func119 rfl ?_;exact oo @am4 @bdl @KK @OQ
def L2:List bq:=[28,29,30,46,65,66,69,78,82,94,118,119,120,121,123,132,138,140,146,194,201]
noncomputable def PD:bq->Option (List AV->ao->Option (AV × ao)):=tX W1 L2
noncomputable abbrev W2:=whole aj Gt PD
def zh:tQ PD L2:=FC
section
variable (a b n x:Int)
def R5:∀h,W2.call 28 [im a,im b] h=aa (.ret (im (cS a b)),h):=cC (L:=L2) rfl rfl rfl (abr a b _) rfl rfl
def O7:∀h,W2.call 29 [im a,im b] h=aa (.ret (im (db a b)),h):=cC (L:=L2) rfl rfl rfl (aiZ a b _) rfl rfl
def ahU:∀h,W2.call 201 [im n] h=aa (.ret (.tuple [im (if fmod n=0 then 0 else fL n),im (if fmod n=0 then 90 else 0)]),h):=cC (L:=L2) rfl rfl rfl (ahT n _) rfl rfl
def aqI:∀h,W2.call 46 [im x] h=aa (.ret (.v (.bool (b9 x))),h):=cC (L:=L2) rfl rfl rfl (aqF x _) rfl rfl
def afT:∀h,W2.call 69 [im a,im b] h=aa (.ret (.tuple [im (jy a b),im (nf a b)]),h):=cC (L:=L2) rfl rfl rfl (afS a b _) rfl rfl
def afY:∀h,W2.call 30 [im a,im n] h=aa (.ret (.tuple [im (eU a n),im (mo a)]),h):=cC (L:=L2) rfl rfl rfl (afX a n _) rfl rfl
def aob:∀h,W2.call 94 [im x] h=aa (.ret (.v (.bool (b9 x))),h):=cC (L:=L2) rfl rfl rfl (aoa x _) rfl rfl
def alr:∀h,W2.call 140 [im a,im b] h=aa (.ret (.tuple [im (jy a b),im (nf a b)]),h):=cC (L:=L2) rfl rfl rfl (alq a b _) rfl rfl
def alz:∀h,W2.call 132 [im a,im n] h=aa (.ret (.tuple [im (eU a n),im (mo a)]),h):=cC (L:=L2) rfl rfl rfl (aly a n _) rfl rfl
def alN:∀h,W2.call 120 [im n] h=aa (.ret (.agg (bf 1 n [] .nil 0 [])),h):=cC (L:=L2) rfl rfl rfl (alR n _) rfl rfl
end
def anK(s):∀h,W2.call 121 [sv s] h=aa (.ret (.agg (bf 2 0 s .nil 0 [])),h):=cC (L:=L2) rfl rfl rfl (anP s _) rfl rfl
def ux:dj ⟨[],[],0,[]⟩=ai:=rfl
def afO(bh b)(k)(hb:b.length<=1099511620000)(ht:bh.length<=1099511620000):∀h,W2.call 78 [.v (.string (bs bh)),.list k 1 (aX b)] h=aa (.ret (im (nh (fZ bh b):Nat)),h):=
 cC (L:=L2) (dL:=[.v (.string (bs bh)),.list (ct k) 1 (aX b)]) rfl (by rw[cA,cA,aI.eq_1,qP];rfl) (by simp[bg,aW,fJ,kC]) (afN bh b _ hb ht _) rfl rfl
def alE(bh b)(k)(hb:b.length<=1099511610000)(ht:bh.length<=1099511610000):∀h,W2.call 123 [.v (.string (bs bh)),.list k 1 (aX b)] h=aa (.ret (im (nh (fZ bh b):Nat)),h):=by obtain⟨h',hc,-⟩:=alJ bh b (ct k) ⟨[],[],0,[]⟩ ux hb ht;exact cC (L:=L2) (dL:=[.v (.string (bs bh)),.list (ct k) 1 (aX b)]) rfl (by rw[cA,cA,aI.eq_1,qP];rfl) (by simp[bg,aW,fJ,kC]) hc rfl rfl
def aeV{v}{r}(hv:dh v r)(hd:gg v<=16)(hl:(dM v).length<=1099511600000):∃t,∀h,W2.call 146 [.agg r] h=aa (.ret (.tuple [.list t 1 (aX (dM v)),.v (.int .i64 0)]),h):=by obtain⟨h1,h2⟩:=dh.hold v r hv;obtain⟨r',h',hc,t,rfl,-⟩:=aeX h1 hd ah ⟨[],[],0,[]⟩ ux;exact⟨ct t,cC (L:=L2) (dL:=[.agg (cA r)]) rfl rfl (by simpa [bg,aW] using h2) hc rfl (by simp[aW,bg,fJ,kC])⟩
def alb{v}{r}(hv:dh v r)(hd:gg v<=16)(hl:(dM v).length<=1099511600000):∃t,∀h,W2.call 118 [.agg r] h=aa (.ret (.tuple [.list t 1 (aX (dM v)),.v (.int .i64 0)]),h):=by obtain⟨h1,h2⟩:=dh.hold v r hv;obtain⟨r',h',hc,t,rfl,-⟩:=akV h1 hd ah ⟨[],[],0,[]⟩ ux;exact⟨ct t,cC (L:=L2) (dL:=[.agg (cA r)]) rfl rfl (by simpa [bg,aW] using h2) hc rfl (by simp[aW,bg,fJ,kC])⟩
def pq(l:List Vl)(ae:List (List AV)):Prop:=ae.length=l.length/\∀(i:Nat) v r,l[i]?=aa v->ae[i]?=aa r->dh v r
def anp:Tryz.f202.results.toList=[.tmp 4]:=aw
def P7:Tryz.f219.results.toList=[]:=aw
def mW:fY aj 23=aa ay:=aw
def abG:fY aj 203=aa ay:=aw
def uu{H}{b}{x}(hb:H.boxes[b]?=aa [x]):aF aj Gt H 23 (.ptr (.box b) 0)=aa x:=by rw[ma mW hb];rfl
def wW{H}{b}{x}(hb:H.boxes[b]?=aa [x]):aF aj Gt H 203 (.ptr (.box b) 0)=aa x:=by rw[ma abG hb];rfl
def yy{H}{b k}{cs}{x}(hb:H.boxes[b]?=aa cs)(hk:cs[k]?=aa x):aF aj Gt H 3 (.ptr (.box b) k)=aa x:=by rw[ma eM hb,Il,hk]
def vu{H}{b k}{cs}{x}(hb:H.boxes[b]?=aa cs)(hk:cs[k]?=aa x):aF aj Gt H 23 (.ptr (.box b) k)=aa x:=by rw[ma mW hb,Il,hk]
def ur{b len aA n}{k}(hn:n<len):dx aj 23 (.arr b 0 len aA) (.v (.int k (n:Nat)))=aa (.ptr (.box b) n):=by rw[GF eY iQ ah ah,dS,nY,nZ]
def D0{b len aA n}{k}(hn:n<len):dx aj 203 (.arr b 0 len aA) (.v (.int k (n:Nat)))=aa (.ptr (.box b) n):=by rw[GF Tryz.underlying203 jN ah ah,dS,nY,nZ]
def R7(xb w c:Nat)(h:ao):W2.call 202 [.arr xb 0 w w,im (c:Nat)] h=aa (.ret (.func (.func 219) [] [.ptr (.box (h.boxes.length+1)) 0,.ptr (.box h.boxes.length) 0]),(h.push [.arr xb 0 w w]).push [im (c:Nat)]):=by have b1:(AV.arr xb 0 w w).bU=aa [.arr xb 0 w w]:=rfl;have b2:(AV.v (.int .i64 (c:Nat))).bU=aa [.v (.int .i64 (c:Nat))]:=rfl;unfold im;refine cN rfl Tryz.func202 rfl ?_;exact qM @anp @bK @cH
def R8(l cb rb xb w c:Nat)(row:List Int)(Inv:Nat->ao->Prop)
 (h1:∀k H,Inv k H->H.boxes[cb]?=aa [im (c:Nat)]/\H.boxes[rb]?=aa [.arr xb 0 w w]/\(k<w->∃cs,H.boxes[xb]?=aa cs/\cs[k]?=aa (im (al row k))))
 (hR:∀k H,c<=k->k<w->Inv k H->∃H',W2.round l [im (k:Nat),im (al row k)] H=aa (.ret (.v (.bool ai)),H')/\Inv (k+1) H')
 (hc:c<=w) (ji:w<=1000000) (H0:ao) (h0:Inv c H0):∃H',W2.call 219 [.yield l,.ptr (.box cb) 0,.ptr (.box rb) 0] H0=aa (.ret (.tuple []),H')/\Inv w H':=by
 have k1:=aq.mk h1;have kR:=aq.mk hR;have k0:=aq.mk h0;obtain⟨b1,b2,-⟩:=h1 c H0 h0;have l1:=lX b1;unfold im at l1;have u23:=eY;clear h1 hR h0 b1 b2;refine ij rfl Tryz.func219 rfl ?_;refine bR @P7 ?_;refine de (λm e H=>∃k:Nat,c<=k/\k<=w/\m=w - k/\e.get 0=.yield l/\e.get 1=.ptr (.box cb) 0/\e.get 2=.ptr (.box rb) 0/\e.get 4=.v (.int .i64 k)/\e.defers=[]/\Inv k H) ?_ (w - c) _ _ ?_;rotate_left 1
 ·refine⟨c,aJ _,hc,rfl,?_,?_,?_,?_,?_,k0.out⟩<;>(first|assumption|(exact gR))
 clear l1 k0;rintro m e H ⟨k,zR,zS,rfl,g0,g1,g2,g4,hd,hI⟩;obtain⟨b1,b2,b3⟩:=k1.out k H hI;have l2:=uu b2;have kI:=aq.mk hI;clear b1 hI;by_cases az:k<w
 ·obtain⟨cs,b4,b5⟩:=b3 az;obtain⟨H',r1,r2⟩:=kR.out k H zR az kI.out;have ix:=ur (b:=xb) (len:=w) (aA:=w) (k:=.i64) az;have l3:=yy b4 b5;have kI2:=aq.mk r2;have ir:((k:Nat):Int)<((w:Nat):Int):=by omega
  unfold im at *
  clear b2 b3 b4 b5 r2 kI;refine cq @P7 @zf ?_;exact⟨w - (k+1),by omega,k+1,by omega,by omega,rfl,by trivial,by trivial,by trivial,by simp,by trivial,kI2.out⟩
 ·have:k=w:=by omega
  subst this;clear b2 b3;refine bR @P7 ?_;exact⟨_,rfl,kI.out⟩
end Go.Proofs.YtnfciiiohoafaaaGreatDoor
end
