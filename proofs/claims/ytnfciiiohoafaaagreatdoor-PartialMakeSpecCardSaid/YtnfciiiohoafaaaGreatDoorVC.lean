/-
  The engine, part 39: a call that makes memory that nobody sees again may be taken as one that makes none.
-/
import Derived.Test.YtnfciiiohoafaaaGreatDoorVB
import Derived.KernelRfl
import Derived.Test.YtnfciiiohoafaaaGreatDoorChecked
open True renaming intro->aX
open Bool renaming true->ai,and_assoc->abq,and_eq_true->bL,false_and->xG,false_eq_true->jW,false->az,eq_iff_iff->Fk,not_eq_true'->zj,true_and->oc
open List renaming cons_append->lN,flatten_cons->oL,getElem?_eq_some_iff->aV,getElem?_take->oh,map_cons->eK,map_nil->uK,getElem?_toArray->jt,getElem?_cons_zero->jO,getElem?_cons_succ->pj,append_nil->jX,nil_append->mC,length_cons->jn,length_append->dE,drop_zero->iX,take_length->fI,drop_take->Ss,take_take->Sz,drop_drop->xO,mem_of_mem_take->oO,length_drop->hD,length_take->fj,take_zero->fm,ext_getElem->IV,getElem_map->qN,getElem_range->AX,getElem?_eq_getElem->aT,replicate->bg,mem_cons->iq,mem_cons_self->gj,mem_cons_of_mem->fN,all_cons->FD,all_eq_true->ej,nodup_cons->FM,mem_map->ju,map_map->AZ,map_append->mT,map_congr_left->IY,zipWith->FO,range->bR,getD_eq_getElem?_getD->dS,getElem_mem->iG,getElem?_eq_none->tS,length_zipWith->ab8,getElem_zipWith->ab5,getElem?_append_left->rK,getElem?_append_right->zC,getElem?_drop->oN,length_map->bE,getElem_drop->Sv,mem_range->gB,getElem_set_self->Mr,getElem_set_ne->Mq,getElem_set->FJ,mem_or_eq_of_mem_set->vY,mem_iff_getElem->A0,length_singleton->ab7,getElem?_set_ne->IW,getElem?_map->ev,range_succ->nH,foldl_append->oM,foldl_cons->uJ,foldl_nil->FG,getElem?_replicate->Mo,length_set->mS,getElem?_set->mA,take_append_drop->xR,drop_eq_getElem_cons->xP,getElem_zipIdx->ab4,append_assoc->sR,take_succ_eq_append_getElem->aco,set_append_right->Mx,set_eq_of_length_le->acj,ext_getElem?->qL,set_set->Db,take->My,head?_drop->IX,set_eq_take_append_cons_drop->A2,length_replicate->mB,replicate_succ->A1,set_cons_zero->Sy,map_replicate->xQ,take_of_length_le->gO,drop_of_length_le->pZ,map_drop->aca,take_succ_cons->gl,drop_succ_cons->zA,head?_cons->AY,mem_singleton->lu,drop_append_of_le_length->abU,drop_replicate->Sr,drop_append->Da,take_left'->I4
open Option renaming some->aa,map_some->eW,bind_some->pq,none->ar,isSome_none->Ba,some.injEq->dM,getD_some->I6
open Go renaming Value->aR,Program->bK,FuncId->bm,TypeId->aK,IntKind->tQ,Operand->bT
open And renaming intro->av
open Nat renaming sub_zero->SH,zero_mul->FZ,add_zero->A4,le_refl->aM,mul_le_mul_right->om,add_mul->gI,min_eq_left->De,shiftLeft_eq->A9,add_comm->acq,Coprime->oj,Coprime.symm->MC,dvd_of_mod_eq_zero->FR,le_of_dvd->Dd,mod_lt->mV,eq_zero_or_pos->FT,mul_add->SC,add_mod->I5,mul_assoc->MG,mul_mod_mod->acz,mul_le_mul_left->acy,mod_eq_of_lt->nI,one_mul->Df,mod_mul_mod->SB,div_add_mod->SA,mul_mod->sS,mul_one->oo,mul_comm->MH,mod_two_eq_zero_or_one->A7,pow_pos->MK,mul_add_mod->acw,Coprime.coprime_mul_left->acp,pow_succ->A8,lt_or_ge->dV,mul_le_mul->p7,pow_mod->FX,pow_mul->FY,pow_two->SD,pow_succ'->acG,eq_of_beq_eq_true->jP,one_pow->acC,pow_add->acE,zero_le->cG,lt_trans->pk,reduceEqDiff->aZ,le_of_lt->nk,lt_of_lt_of_le->mU,sub_self->tU,zero_add->po,le_trans->fJ,mul_zero->acA
open Int renaming toNat_natCast->dK,fdiv_eq_ediv_of_nonneg->Fz,pow_pos->abN,natCast_mul->xM,mul_left_comm->C6,pow_succ->xN,mul_assoc->xL,mul_comm->zw,pow_add->Sk,sub_mul->Ml,mul_sub->zx,dvd_add->xK,dvd_mul_of_dvd_right->Fy,natAbs_dvd_natAbs->abI,natAbs_natCast->Sg,natCast_add->abJ,mul_add->Mi,mul_one->IP,pow_zero->Mk,one_mul->FA,pow_mul->FB,natCast_dvd_natCast->Sh,emod_nonneg->Sd,emod_lt_of_pos->Sc,emod_eq_of_lt->Mg,add_emod->abD,mul_emod->AU,mul_zero->Mj,zero_mul->IT,sub_emod->abO,emod_emod_of_dvd->C5,dvd_refl->C4,neg_zero->abL,neg_mul->abK,zero_add->FC,ofNat_lt->abM,natCast_emod->Si,sub_self->Sl,emod_add_mul_ediv->abF,dvd_sub->Sb,dvd_zero->abE,tmod_eq_emod_of_nonneg->IQ,mul_nonneg->Sf,mul_le_mul->Se,tdiv_eq_ediv_of_nonneg->abP,natCast_zero->sQ,natCast_one->Sj
open Decidable renaming not_not->IM
open Go.Proofs.Tryz renaming prog->aq,underlying23->dN,func201->acV,func46->S1,func194->acU,func94->S4,func69->S3,func30->acZ,underlying28->jv,func221->xT,func222->acY,underlying242->ac3,underlying230->ac2
set_option maxHeartbeats 64000000
set_option maxRecDepth 100000
set_option linter.unusedSimpArgs false
set_option linter.unusedVariables false
set_option linter.constructorNameAsVariable false
set_option linter.defProp false
section
namespace Go.AE
mutual
def nB(n:Nat):AV->Bool
 | .list _ _ es=>Hw n es
 | .arr b _ _ _=>decide (b<n)
 | .agg cs=>o6 n cs
 | .tuple cs=>o6 n cs
 | .ptr (.box b) _=>decide (b<n)
 | .elem _ es _ _=>Hw n es
 | .func _ a b=>o6 n a&&o6 n b
 | .iface _ x=>nB n x
 |_=>ai
def o6(n:Nat):List AV->Bool
 | []=>ai
 |x::r=>nB n x&&o6 n r
def Hw(n:Nat):List (List AV)->Bool
 | []=>ai
 |r::rs=>o6 n r&&Hw n rs
end
def Ya(n):∀(a b:List AV),o6 n (a++b)=(o6 n a&&o6 n b)
 | [],b=>by simp[o6]
 |x::a,b=>by rw[lN,o6,o6,Ya n a b,abq]
def Hy(n):∀es:List (List AV),o6 n es.flatten=Hw n es
 | []=>rfl
 |r::es=>by rw[oL,Ya,Hw,Hy n es]
def aY.low(K:aY)(n:Nat):aY:={K with β:=K.β.take n}
section
variable {K:aY}
def LY{b g:Nat}(h:K.β[b]?=aa g):b<K.β.length:=(aV.1 h).1
mutual
def a8.low:∀{x:AV} {c:aR},a8 K x c->nB K.β.length x=ai
 |_,_,.bad _=>rfl
 |_,_,.v _ _=>rfl
 |_,_,.nil _=>rfl
 |_,_,.js _ _=>rfl
 |_,_,.list _ _ es _ _ _ _ _ _ _ hv _ _ _=>by rw[nB,<-Hy];exact aS.low hv
 |_,_,.arr _ _ _ _ _ _ _ hb _ _ _ _=>by rw[nB];exact cz (LY hb)
 |_,_,.agg _ _ hv=>by rw[nB];exact aS.low hv
 |_,_,.tuple _ _ hv=>by rw[nB];exact aS.low hv
 |_,_,.box _ _ _ hb=>by rw[nB];exact cz (LY hb)
 |_,_,.eR _ _=>rfl
 |_,_,.elem _ es _ _ _ _ _ _ _ hv _ _ _ _=>by rw[nB,<-Hy];exact aS.low hv
 |_,_,.func _ _ _ _ _ h1 h2=>by rw[nB,aS.low h1,aS.low h2];rfl
 |_,_,.yield _ _ _=>rfl
 |_,_,.iface _ _ _ hx=>by rw[nB];exact a8.low hx
def aS.low:∀{xs:List AV} {cs:List aR},aS K xs cs->o6 K.β.length xs=ai
 |_,_,.nil=>rfl
 |_,_,.cons _ _ _ _ hx hs=>by rw[o6,a8.low hx,aS.low hs];rfl
end
def Yb{n b g:Nat}(hb:K.β[b]?=aa g)(hn:b<n):(K.low n).β[b]?=aa g:=by show(K.β.take n)[b]?=aa g;rw[oh,aG hn,hb]
def we.low{n:Nat}{k:Tok}{g off sz m aC:Nat}(h:we K k g off sz m aC):we (K.low n) k g off sz m aC:=h
mutual
def a8.cut{n:Nat}:∀{x:AV} {c:aR},a8 K x c->nB n x=ai->a8 (K.low n) x c
 |_,_,.bad c,_=>.bad c
 |_,_,.v x hx,_=>.v x hx
 |_,_,.nil sz,_=>.nil sz
 |_,_,.js sz a,_=>.js sz a
 |_,_,.list k sz es g off m aC cells hn hr hv hc ht ha,h=>.list k sz es g off m aC cells hn hr (aS.cut hv (by rw[Hy];rw[nB] at h;exact h)) hc ht.low ha
 |_,_,.arr b g off len aC fC iH hb hl hc ho hr,h=>.arr b g off len aC fC iH (Yb hb (by rw[nB] at h;exact of_decide_eq_true h)) hl hc ho hr
 |_,_,.agg cs vs hv,h=>.agg cs vs (aS.cut hv (by rw[nB] at h;exact h))
 |_,_,.tuple cs vs hv,h=>.tuple cs vs (aS.cut hv (by rw[nB] at h;exact h))
 |_,_,.box b g off hb,h=>.box b g off (Yb hb (by rw[nB] at h;exact of_decide_eq_true h))
 |_,_,.eR g off,_=>.eR g off
 |_,_,.elem sz es i off g o p cells hr hv hc hi hp ha,h=>.elem sz es i off g o p cells hr (aS.cut hv (by rw[Hy];rw[nB] at h;exact h)) hc hi hp ha
 |_,_,.func fn first aC fs cs h1 h2,h=>.func fn first aC fs cs (aS.cut h1 (by rw[nB,bL] at h;exact h.1)) (aS.cut h2 (by rw[nB,bL] at h;exact h.2))
 |_,_,.yield l g hl,_=>.yield l g hl
 |_,_,.iface t x c hx,h=>.iface t x c (a8.cut hx (by rw[nB] at h;exact h))
def aS.cut{n:Nat}:∀{xs:List AV} {cs:List aR},aS K xs cs->o6 n xs=ai->aS (K.low n) xs cs
 |_,_,.nil,_=>.nil
 |_,_,.cons x c xs cs hx hs,h=>.cons x c xs cs (a8.cut hx (by rw[o6,bL] at h;exact h.1)) (aS.cut hs (by rw[o6,bL] at h;exact h.2))
end
end
section
variable {P:bK} {G:Nat->Option (List AV)} {w0 w w':World} {K K':aY} {h h':ao} {ok:bm->Nat->Code->Bool}
end
end Go.AE
end
section
namespace Go.AE
section
universe u
set_option linter.defProp false in
def goT:=av @eW.{0,0} (av @Option.map_none.{0,0} (av @pq.{0,0} (av @eK.{0,0} (av @uK.{0,0} (av @List.getD_cons_zero.{0} (av @List.getD_cons_succ.{0} (av @jt.{0} (av @jO.{0} @pj.{0}))))))))
set_option linter.defProp false in
def goU:=av @jX.{0} @mC.{0}
set_option linter.defProp false in
def XU:=av @cX (av @mP @XV)
set_option linter.defProp false in
def akL:=av @jn.{0} (av @List.length_nil.{0} (av @dE.{0} (av @cX (av @mP @XV))))
set_option linter.defProp false in
def ah3:=av @ah5 (av @nb (av @JL (av @ah6 (av @ah7 @ah4))))
set_option linter.defProp false in
def afk:=av @Dy @Dz
set_option linter.defProp false in
def apy:=av @aaA (av @UI @YX)
end
set_option linter.defProp false in
def G_d:=@aix
set_option linter.defProp false in
def G_n:=@aiB
set_option linter.defProp false in
def B_d:=@aeW
set_option linter.defProp false in
def B_n:=@aeZ
set_option linter.defProp false in
def G_m:=@aiA
set_option linter.defProp false in
def B_m:=@aeY
set_option linter.defProp false in
def G_b:=@aiw
set_option linter.defProp false in
def B_b:=@aeV
def dZ{p:Prop}(h:p:=by first|assumption|(exact Nat.le_refl _)|omega|(simp only[akL]<;>omega)|(simp(disch:=(first|assumption|omega|(exact(cX _ _).symm)|(simp only[XU];omega)|(refine Nat.le_antisymm ?_ ?_<;>simp only[XU]<;>omega)|fail)) only[ah3]<;>first|assumption|rfl)|(simp only[afk];assumption)|(exact Rx _ _)|(simp only[apy];first|assumption|exact Rx _ _)):p:=h
def dX{a b p:Prop}(x:a)(y:b)(f:a->b->p:=by first|exact G_d|exact G_n|exact B_d|exact B_n|exact G_m|exact B_m|exact G_b|exact B_b):p:=f x y
end Go.AE
end
section
namespace Go.AE
section
variable {P:bK} {t0 t1 t elem:aK} {i:TypeInfo} {h:ao} {k k':Tok} {sz:Nat} {es new:List (List AV)}
def LL(h0:P.underlying t0=aa (.slice elem))(h1:P.underlying t1=aa (.slice elem))(hi:P.info? elem=aa i)(dm:0<i.size)(hz:(i.zero.map λz=>z.cells.size)=aa i.size)(lT:new≠[])
 (hb:(es.length+new.length) * i.bytes<=140737488355328) (hl:es.length+new.length<=9223372036854775807) (hs:sz=i.size∨es=[]) (hk:k=.nil∨k=.tight) {x:AV} (hx:mM h i.size x=aa new):
 rF P h #[t0,t1] (.list k sz es) x=aa (.arr h.boxes.length 0 (es.length+new.length) (es.length+new.length),h.push (es++new).flatten):=by
 unfold rF;simp only[jt,jO,pj,pq,h0,h1,hi,hx];rw[aG ⟨dm,hz⟩,aG hs,aH lT,aG ⟨hb,hl⟩];rcases hk with rfl|rfl<;>rfl
def RK{b len:Nat}{cs:List AV}(h0:P.underlying t0=aa (.slice elem))(h1:P.underlying t1=aa (.slice elem))(hi:P.info? elem=aa i)(dm:0<i.size)(hz:(i.zero.map λz=>z.cells.size)=aa i.size)(lT:new≠[])
 (hb:(len+new.length) * i.bytes<=140737488355328) (hl:len+new.length<=9223372036854775807) (Gy:h.boxes[b]?=aa cs) (h2:0<len) (h3:len * i.size=cs.length) {x:AV} (hx:mM h i.size x=aa new):
 rF P h #[t0,t1] (.arr b 0 len len) x=aa (.arr h.boxes.length 0 (len+new.length) (len+new.length),(h.put b []).push (cs++new.flatten)):=by
 have hn:0<new.length:=by cases new with|nil=>exact absurd rfl lT|cons _ _=>simp
 unfold rF;simp only[jt,jO,pj,pq,h0,h1,hi,hx,Gy];rw[aG ⟨dm,hz⟩,aH ah,aG ⟨aX,h2,aX,h3,hb,hl⟩];rfl
def Qc:mM h sz (.list k sz es)=aa es:=by unfold mM rowsOf;simp
def aaq{b off len aC n:Nat}{m:Int}{kk:tQ}(h0:P.underlying t=aa (.slice elem))(hs:dC P elem=aa n)(hn:n≠0)(h1:0<=m)(h2:m<=aC)(h3:0<aC):gY P t (.arr b off len aC) ar (aa (.v (.int kk m))) ar=aa (.arr b off m.toNat aC):=by
 have e1:gE aC ar aC=aa aC:=rfl;have e2:gE aC (aa (.v (.int kk m))) len=aa m.toNat:=by show(if 0<=m/\m<=(aC:Int) then aa m.toNat else ar)=_;rw[aG ⟨h1,h2⟩]
 have e3:gE m.toNat ar 0=aa 0:=rfl;unfold gY;simp only[h0,hs,e1,e2,e3,Ba,xG,jW,false_and,if_false,hn,SH,FZ,A4,ite_self]
end
end Go.AE
end
section
namespace Go.AE
def dQ(sz:Nat)(h:ao)(x:AV)(ae:List (List AV)):Prop:=
 (∀r∈ae,r.length=sz)/\
 ((∃k s,x=.list k s ae/\(ae≠[]->s=sz))∨
  (∃b off aC cs,x=.arr b off ae.length aC/\ae.length<=aC/\h.boxes[b]?=aa cs/\(cs.drop off).take (ae.length * sz)=ae.flatten/\off+ae.length * sz<=cs.length))
section
variable {P:bK} {G:Nat->Option (List AV)} {h h':ao} {t e:aK} {sz:Nat} {x:AV} {ae:List (List AV)}
def dQ.list{k:Tok}{s:Nat}(hr:∀r∈ae,r.length=sz)(hs:ae≠[]->s=sz):dQ sz h (.list k s ae) ae:=⟨hr,.inl ⟨k,s,rfl,hs⟩⟩
def dQ.box{b n:Nat}(hr:∀r∈ae,r.length=sz)(hn:n=ae.length)(hb:h.boxes[b]?=aa ae.flatten):dQ sz h (.arr b 0 n n) ae:=by
 subst hn;refine⟨hr,.inr ⟨b,0,ae.length,ae.flatten,rfl,aM _,hb,?_,?_⟩⟩
 ·rw[iX,<-nq hr,fI]
 ·rw[nq hr];omega
def dQ.mono(s:dQ sz h x ae)(m:∀(b:Nat) (cs:List AV),h.boxes[b]?=aa cs->h'.boxes[b]?=aa cs):dQ sz h' x ae:=by
 obtain⟨hr,s⟩:=s;refine⟨hr,?_⟩;rcases s with s|⟨b,off,aC,cs,h1,h2,h3,h4⟩
 ·exact .inl s
 ·exact .inr ⟨b,off,aC,cs,h1,h2,m _ _ h3,h4⟩
def dQ.ext(s:dQ sz h x ae)(m:Ext h h'):dQ sz h' x ae:=s.mono m.box
def dQ.len(s:dQ sz h x ae)(hu:P.underlying t=aa (.slice e)):dW P t x=aa (.v (.int .i64 ae.length)):=by
 rcases s.2 with⟨k,s,rfl,-⟩|⟨b,off,aC,cs,rfl,-⟩
 ·exact PW hu
 ·exact PV hu
def dQ.index(s:dQ sz h x ae)(hp:0<sz)(hu:P.underlying t=aa (.slice e))(hs:dC P e=aa sz){i:Nat}{row:List AV}(hi:ae[i]?=aa row):
 ∃p,(∀kk,dG P t x (.v (.int kk (i:Int)))=aa p)/\(gU P e=aa az->aI P G h e p=row.head?)/\(gU P e=aa ai->aI P G h e p=aa (.agg row)):=by
 have aB:=(aV.1 hi).1;have cS:=s.1 row (List.mem_of_getElem? hi);rcases s.2 with⟨k,s',rfl,hk⟩|⟨b,off,aC,cs,rfl,h2,h3,h4,h5⟩
 ·have:s'=sz:=hk (by rintro rfl;simp at aB);subst this;refine⟨.elem s' ae i 0,λkk=>?_,λha=>?_,λha=>?_⟩
  ·rw[a9 hu hs ah ah,dK]
  ·rw[rm ha hi,iX]
  ·rw[Kw ha hs hi ah,iX,<-cS,fI]
 ·have dJ:(cs.drop (off+i * sz)).take sz=row:=by have:=NP s.1 hi;rw[<-h4,Ss,Sz,xO] at this;rw[<-this];congr 1;have:(i+1) * sz<=ae.length * sz:=om _ aB;rw[gI] at this;omega
  have qn:off+i * sz+sz<=cs.length:=by have:(i+1) * sz<=ae.length * sz:=om _ aB;rw[gI] at this;omega
  refine⟨.ptr (.box b) (off+i * sz),λkk=>?_,λha=>?_,λha=>?_⟩
  ·rw[Ep hu hs ah ah,dK]
  ·rw[mw ha h3,<-dJ];obtain⟨n,rfl⟩:∃n,sz=n+1:=⟨sz - 1,by omega⟩;cases cs.drop (off+i * (n+1)) with|nil=>rfl|cons a l=>rfl
  ·rw[iC ha hs h3 qn,dJ]
def dQ.slice(s:dQ sz h x ae)(hp:0<sz)(hu:P.underlying t=aa (.slice e))(hs:dC P e=aa sz){lo hi:Option AV}{l m:Nat}
 (tv:(hi=ar/\m=ae.length)∨∃kk,hi=aa (.v (.int kk (m:Int)))/\m<=ae.length) (qo:(lo=ar/\l=0)∨∃kk,lo=aa (.v (.int kk (l:Int)))) (BW:l<=m):
 ∃y,gY P t x lo hi ar=aa y/\dQ sz h y ((ae.take m).drop l):=by
 have hm:m<=ae.length:=by rcases tv with⟨-,q⟩|⟨_,-,q⟩<;>omega
 have bound:∀top,ae.length<=top->gE top hi ae.length=aa m:=λtop Xc=>by
  rcases tv with⟨rfl,rfl⟩|⟨kk,rfl,q⟩
  ·rfl
  ·show(if 0<=(m:Int)/\(m:Int)<=(top:Int) then aa (m:Int).toNat else ar)=_;rw[aG ⟨ah,by omega⟩,dK]
 have bound0:gE m lo 0=aa l:=by
  rcases qo with⟨rfl,rfl⟩|⟨kk,rfl⟩
  ·rfl
  ·show(if 0<=(l:Int)/\(l:Int)<=(m:Int) then aa (l:Int).toNat else ar)=_;rw[aG ⟨ah,by omega⟩,dK]
 have jj:∀r∈(ae.take m).drop l,r.length=sz:=λr hr=>s.1 r (oO (List.mem_of_mem_drop hr));rcases s.2 with⟨k,s',rfl,hk⟩|⟨b,off,aC,cs,rfl,h2,h3,h4,h5⟩
 ·have kj:gE ae.length ar ae.length=aa ae.length:=rfl;have bJ:sz=s'∨ae=[]:=by
   by_cases q:ae=[]
   ·exact .inr q
   ·exact .inl (hk q).symm
  refine⟨.list (qg k (decide (m=ae.length)) az (m - l)) s' ((ae.take m).drop l),?_,jj,.inl ⟨_,_,rfl,λq=>hk (by rintro rfl;simp at q)⟩⟩;unfold gY;simp only[hu,hs,kj,bound ae.length (aM _),bound0,Ba,xG,jW,if_false,aG bJ,Option.isNone_none,Bool.and_true]
 ·have kj:gE aC ar aC=aa aC:=rfl;have bZ:((ae.take m).drop l).length=m - l:=by rw[hD,fj];omega
  refine⟨.arr b (if aC=l then off else off+l * sz) (m - l) (aC - l),?_,jj,.inr ⟨b,_,aC - l,cs,by rw[bZ],by omega,h3,?_,?_⟩⟩
  ·unfold gY;simp only[hu,hs,kj,bound aC h2,bound0,Ba,xG,jW,if_false,false_and];rw[aH ah]
  ·rw[bZ];by_cases q:aC=l
   ·have:m - l=0:=(by omega);rw[aG q,this,FZ,fm];have:(ae.take m).drop l=[]:=(by apply List.eq_nil_of_length_eq_zero;rw[bZ];omega);rw[this];rfl
   ·rw[aH q,Va (λr hr=>s.1 r (oO hr)),NQ s.1,<-h4,Sz,<-xO];have e1:min (m * sz) (ae.length * sz)=m * sz:=De (om _ hm);rw[e1,Ss,<-Nat.sub_mul]
  ·rw[bZ];have e1:m * sz<=ae.length * sz:=om _ hm;have e2:(m - l) * sz+l * sz=m * sz:=(by rw[<-gI,Nat.sub_add_cancel BW]);split<;>omega
def dQ.got(s:dQ sz h x ae):rowsOf h sz x=aa ae:=by
 rcases s.2 with⟨k,s',rfl,hk⟩|⟨b,off,aC,cs,rfl,h2,h3,h4,h5⟩
 ·unfold rowsOf;by_cases q:ae=[]
  ·simp[q]
  ·simp[hk q]
 ·unfold rowsOf;simp only[h3,aG h5,dM];apply IV
  ·simp
  ·intro i h1 h6;rw[qN,AX];have:=NP s.1 (aT h6);rw[<-h4,Ss,Sz,xO] at this;rw[<-this];congr 1;have:(i+1) * sz<=ae.length * sz:=om _ h6;rw[gI] at this;omega
def dQ.news(s:dQ sz h x ae):mM h sz x=aa ae:=by have:=s.got;rcases s.2 with⟨k,s',rfl,-⟩|⟨b,off,aC,cs,rfl,-⟩<;>exact this
end
end Go.AE
end
section
namespace Go.AE
section
variable {P:bK} {G:Nat->Option (List AV)} {t:aK} {x y:bT} {k k':tQ} {a b:Int}
def sX:cZ P .and t x y (.v (.int k a)) (.v (.int k b))=aa (.v (.int k (k.wrap (BitVec.ofInt k.bits a&&&BitVec.ofInt k.bits b).toNat))):=rP (v:=.int k (k.wrap (BitVec.ofInt k.bits a&&&BitVec.ofInt k.bits b).toNat)) (by simp[binOp,Op.intBits];rfl)
def Nc:cZ P .or t x y (.v (.int k a)) (.v (.int k b))=aa (.v (.int k (k.wrap (BitVec.ofInt k.bits a|||BitVec.ofInt k.bits b).toNat))):=rP (v:=.int k (k.wrap (BitVec.ofInt k.bits a|||BitVec.ofInt k.bits b).toNat)) (by simp[binOp,Op.intBits];rfl)
def Tz:cZ P .xor t x y (.v (.int k a)) (.v (.int k b))=aa (.v (.int k (k.wrap (BitVec.ofInt k.bits a^^^BitVec.ofInt k.bits b).toNat))):=rP (v:=.int k (k.wrap (BitVec.ofInt k.bits a^^^BitVec.ofInt k.bits b).toNat)) (by simp[binOp,Op.intBits];rfl)
def Nd(h:0<=b):cZ P .shl t x y (.v (.int k a)) (.v (.int k' b))=aa (.v (.int k (k.wrap (a * 2^min b.toNat k.bits)))):=by
 have hn:¬b<0:=by omega
 show(fZ P (do eqGuard .shl t x y (.int k a) (.int k' b);binOp .shl t (.int k a) (.int k' b))).bind oG=_;rw[xe];have hg:fZ P (eqGuard .shl t x y (.int k a) (.int k' b))=aa ():=rfl;rw[hg];simp[binOp,Op.shift,hn];rfl
def Bg(h:0<=b):cZ P .shr t x y (.v (.int k a)) (.v (.int k' b))=aa (.v (.int k (a.fdiv (2^min b.toNat k.bits)))):=by
 have hn:¬b<0:=by omega
 show(fZ P (do eqGuard .shr t x y (.int k a) (.int k' b);binOp .shr t (.int k a) (.int k' b))).bind oG=_;rw[xe];have hg:fZ P (eqGuard .shr t x y (.int k a) (.int k' b))=aa ():=rfl;rw[hg];simp[binOp,Op.shift,hn];rfl
end
def aU(v:BitVec 32):AV:=.v (.int .u32 (v.toNat:Int))
section
variable {P:bK} {t:aK} {x y:bT} {k':tQ} {u v:BitVec 32}
def wrap32(n):IntKind.u32.wrap n=n%4294967296:=by unfold IntKind.wrap;simp[IntKind.signed,IntKind.bits]
def ofInt32(v):BitVec.ofInt 32 (v.toNat:Int)=v:=by apply BitVec.eq_of_toNat_eq;rw[BitVec.toNat_ofInt];have:=v.isLt;simp;omega
def LU(v:BitVec 32):IntKind.u32.wrap (v.toNat:Int)=(v.toNat:Int):=by rw[wrap32];have:=v.isLt;omega
def Dp:cZ P .and t x y (aU u) (aU v)=aa (aU (u&&&v)):=by unfold aU;rw[sX,show IntKind.u32.bits=32 from rfl,ofInt32,ofInt32,LU]
def o8:cZ P .or t x y (aU u) (aU v)=aa (aU (u|||v)):=by unfold aU;rw[Nc,show IntKind.u32.bits=32 from rfl,ofInt32,ofInt32,LU]
def oI:cZ P .xor t x y (aU u) (aU v)=aa (aU (u^^^v)):=by unfold aU;rw[Tz,show IntKind.u32.bits=32 from rfl,ofInt32,ofInt32,LU]
def ot:cZ P .add t x y (aU u) (aU v)=aa (aU (u+v)):=by unfold aU;rw[Ty,wrap32,BitVec.toNat_add];congr 3
def sN{n:Nat}(hn:n<32):cZ P .shr t x y (aU u) (.v (.int k' (n:Int)))=aa (aU (u>>>n)):=by unfold aU;rw[Bg ah,dK,show IntKind.u32.bits=32 from rfl,De ah,BitVec.toNat_ushiftRight,Nat.shiftRight_eq_div_pow];congr 3;rw[Fz _ (by have:(0:Int)<2^n:=abN aO;omega)];simp
def rz{n:Nat}(hn:n<32):cZ P .shl t x y (aU u) (.v (.int k' (n:Int)))=aa (aU (u<<<n)):=by unfold aU;rw[Nd ah,dK,show IntKind.u32.bits=32 from rfl,De ah,wrap32,BitVec.toNat_shiftLeft,A9];congr 3
end
end Go.AE
end
section
namespace Go.AE
section
variable {P:bK} {h:ao} {t0 t1 elem:aK} {kn k:tQ} {i:TypeInfo} {zero:List AV} {sz n:Nat}
def Tp(h0:P.underlying t0=aa (.slice elem))(h1:P.underlying t1=aa (.int kn))(hi:P.info? elem=aa i)(hz:(jf P elem).bind AV.cD=aa zero)(hn:0<n)(hb:n * i.bytes<=140737488355328)(hm:n<=9223372036854775807)(hs:0<i.size)(hl:zero.length=i.size):
 gP P h #[t0,t1] (.list .nil sz []) (.v (.int k (n:Nat)))=aa (.arr h.boxes.length 0 n n,h.push (bg n zero).flatten):=by
 unfold gP LX;have fP:((n:Nat):Int) * i.bytes<=140737488355328:=by
  have:((n * i.bytes:Nat):Int)<=140737488355328:=Int.ofNat_le.2 hb
  rwa [xM] at this
 simp only[jt,jO,pj,pq,h0,h1,hi,hz];rw[aG ⟨rfl,by omega,fP,by omega,hs,hl⟩,dK];rfl
def Tn{b off len aC:Nat}{cs:List AV}{new:List (List AV)}{x:AV}(h0:P.underlying t0=aa (.slice elem))(h1:P.underlying t1=aa (.slice elem))(hi:P.info? elem=aa i)(hs:0<i.size)(hz:(i.zero.map λz=>z.cells.size)=aa i.size)
 (hx:mM h i.size x=aa new) (hb:h.boxes[b]?=aa cs) (h2:len+new.length<=aC) (h3:off+aC * i.size<=cs.length):
 gP P h #[t0,t1] (.arr b off len aC) x=aa (.arr b off (len+new.length) aC,h.put b (eT cs (off+len * i.size) new.flatten)):=by
 unfold gP;simp only[jt,jO,pj,pq,h0,h1,hi,hx,hb];rw[aG ⟨hs,hz⟩,aG ⟨h2,h3⟩];rfl
end
end Go.AE
end
section
namespace Go.AE
def rG(t:Nat):Tok->Bool
 | .free i=>decide (i<t)
 |_=>ai
mutual
def aL(n l t:Nat):AV->Bool
 | .list k _ es=>rG t k&&gL n l t es
 | .arr b _ _ _=>decide (b<n)
 | .agg cs=>aW n l t cs
 | .tuple cs=>aW n l t cs
 | .ptr (.box b) _=>decide (b<n)
 | .elem _ es _ _=>gL n l t es
 | .func _ a b=>aW n l t a&&aW n l t b
 | .yield i=>decide (i<l)
 | .iface _ x=>aL n l t x
 |_=>ai
def aW(n l t:Nat):List AV->Bool
 | []=>ai
 |x::r=>aL n l t x&&aW n l t r
def gL(n l t:Nat):List (List AV)->Bool
 | []=>ai
 |r::rs=>aW n l t r&&gL n l t rs
end
def U0(n l t):∀(a b:List AV),aW n l t (a++b)=(aW n l t a&&aW n l t b)
 | [],b=>by simp[aW]
 |x::a,b=>by rw[lN,aW,aW,U0 n l t a b,abq]
def s8(n l t):∀es:List (List AV),aW n l t es.flatten=gL n l t es
 | []=>rfl
 |r::es=>by rw[oL,U0,gL,s8 n l t es]
def cd:Tok->Tok
 | .free _=>.held
 |k=>k
mutual
def aD:AV->AV
 | .list k sz es=>.list (cd k) sz (eU es)
 | .tuple cs=>.tuple (cr cs)
 | .agg cs=>.agg (cr cs)
 | .iface t x=>.iface t (aD x)
 |x=>x
def cr:List AV->List AV
 | []=>[]
 |x::r=>aD x::cr r
def eU:List (List AV)->List (List AV)
 | []=>[]
 |r::rs=>cr r::eU rs
end
def WE:∀a b:List AV,cr (a++b)=cr a++cr b
 | [],b=>rfl
 |x::a,b=>by rw[lN,cr,WE a b,cr,lN]
def Ea:∀es:List (List AV),(eU es).flatten=cr es.flatten
 | []=>rfl
 |r::es=>by rw[eU,oL,oL,WE,Ea es]
def WG:∀a:List AV,(cr a).length=a.length
 | []=>rfl
 |x::a=>by rw[cr,jn,WG a,jn]
def GY:∀a:List (List AV),(eU a).length=a.length
 | []=>rfl
 |x::a=>by rw[eU,jn,GY a,jn]
def Kd{sz}:∀{es:List (List AV)},(∀r∈es,r.length=sz)->∀r∈eU es,r.length=sz
 | [],_,r,h=>by cases h
 |a::es,h,r,hr=>by
  rw[eU] at hr;rcases iq.1 hr with rfl|hr
  ·rw[WG];exact h a gj
  ·exact Kd (λr hr=>h r (fN _ hr)) r hr
def ajL(x):(aD x).ek=x.ek:=by cases x<;>rfl
def OW:∀a:List AV,(cr a).all AV.ek=a.all AV.ek
 | []=>rfl
 |x::a=>by rw[cr,FD,ajL,OW a,FD]
section
variable {K:aY}
def auS{b g:Nat}(h:K.γ[b]?=aa g):b<K.γ.length:=(aV.1 h).1
mutual
def a8.fit:∀{x:AV} {c:aR},a8 K x c->aL K.β.length K.γ.length K.tn x=ai
 |_,_,.bad _=>rfl
 |_,_,.v _ _=>rfl
 |_,_,.nil _=>rfl
 |_,_,.js _ _=>rfl
 |_,_,.list k _ es _ _ _ _ _ _ _ hv _ ht _=>by
  rw[aL,bL,<-s8];refine⟨?_,aS.fit hv⟩;cases k with|free i=>exact cz ht.2.1|_=>rfl
 |_,_,.arr _ _ _ _ _ _ _ hb _ _ _ _=>by rw[aL];exact cz (LY hb)
 |_,_,.agg _ _ hv=>by rw[aL];exact aS.fit hv
 |_,_,.tuple _ _ hv=>by rw[aL];exact aS.fit hv
 |_,_,.box _ _ _ hb=>by rw[aL];exact cz (LY hb)
 |_,_,.eR _ _=>rfl
 |_,_,.elem _ es _ _ _ _ _ _ _ hv _ _ _ _=>by rw[aL,<-s8];exact aS.fit hv
 |_,_,.func _ _ _ _ _ h1 h2=>by rw[aL,aS.fit h1,aS.fit h2];rfl
 |_,_,.yield _ _ hl=>by rw[aL];exact cz (auS hl)
 |_,_,.iface _ _ _ hx=>by rw[aL];exact a8.fit hx
def aS.fit:∀{xs:List AV} {cs:List aR},aS K xs cs->aW K.β.length K.γ.length K.tn xs=ai
 |_,_,.nil=>rfl
 |_,_,.cons _ _ _ _ hx hs=>by rw[aW,a8.fit hx,aS.fit hs];rfl
end
mutual
def a8.wY{K2:aY}{n l t:Nat}(hβ:∀b g:Nat,b<n->K.β[b]?=aa g->K2.β[b]?=aa g)(hγ:∀b g:Nat,b<l->K.γ[b]?=aa g->K2.γ[b]?=aa g)(iQ:∀g j c,K.ic g j=aa c->K2.ic g j=aa c)(vu:K2.tk=K.tk)(tC:K2.tn=t)(nx:∀b,b<n->K2.lb b=K.lb b):
 ∀{x:AV} {c:aR},a8 K x c->aL n l t x=ai->a8 K2 x c
 |_,_,.bad c,_=>.bad c
 |_,_,.v x hx,_=>.v x hx
 |_,_,.nil sz,_=>.nil sz
 |_,_,.js sz a,_=>.js sz a
 |_,_,.list k sz es g off m aC cells hn hr hv hc ht ha,h=>by
  rw[aL,bL] at h;refine .list k sz es g off m aC cells hn hr (aS.wY hβ hγ iQ vu tC nx hv (by rw[s8];exact h.2)) (λj c hj=>iQ _ _ _ (hc j c hj)) ⟨ht.1,?_⟩ ha;have h1:=h.1;have h2:=ht.2;cases k with|free i=>simp only at h2 ⊢;rw[vu,tC];exact⟨of_decide_eq_true h1,h2.2⟩|_=>exact h2
 |_,_,.arr b g off len aC fC iH hb hl hc ho hr,h=>by rw[aL] at h;have aB:=of_decide_eq_true h;exact .arr b g off len aC fC iH (hβ _ _ aB hb) hl hc ho (by rw[nx b aB];exact hr)
 |_,_,.agg cs vs hv,h=>.agg cs vs (aS.wY hβ hγ iQ vu tC nx hv (by rw[aL] at h;exact h))
 |_,_,.tuple cs vs hv,h=>.tuple cs vs (aS.wY hβ hγ iQ vu tC nx hv (by rw[aL] at h;exact h))
 |_,_,.box b g off hb,h=>.box b g off (hβ _ _ (by rw[aL] at h;exact of_decide_eq_true h) hb)
 |_,_,.eR g off,_=>.eR g off
 |_,_,.elem sz es i off g o p cells hr hv hc hi hp ha,h=>.elem sz es i off g o p cells hr (aS.wY hβ hγ iQ vu tC nx hv (by rw[s8];rw[aL] at h;exact h)) (λj c hj=>iQ _ _ _ (hc j c hj)) hi hp ha
 |_,_,.func fn first aC fs cs h1 h2,h=>.func fn first aC fs cs (aS.wY hβ hγ iQ vu tC nx h1 (by rw[aL,bL] at h;exact h.1)) (aS.wY hβ hγ iQ vu tC nx h2 (by rw[aL,bL] at h;exact h.2))
 |_,_,.yield i g hl,h=>.yield i g (hγ _ _ (by rw[aL] at h;exact of_decide_eq_true h) hl)
 |_,_,.iface t x c hx,h=>.iface t x c (a8.wY hβ hγ iQ vu tC nx hx (by rw[aL] at h;exact h))
def aS.wY{K2:aY}{n l t:Nat}(hβ:∀b g:Nat,b<n->K.β[b]?=aa g->K2.β[b]?=aa g)(hγ:∀b g:Nat,b<l->K.γ[b]?=aa g->K2.γ[b]?=aa g)(iQ:∀g j c,K.ic g j=aa c->K2.ic g j=aa c)(vu:K2.tk=K.tk)(tC:K2.tn=t)(nx:∀b,b<n->K2.lb b=K.lb b):
 ∀{xs:List AV} {cs:List aR},aS K xs cs->aW n l t xs=ai->aS K2 xs cs
 |_,_,.nil,_=>.nil
 |_,_,.cons x c xs cs hx hs,h=>.cons x c xs cs (a8.wY hβ hγ iQ vu tC nx hx (by rw[aW,bL] at h;exact h.1)) (aS.wY hβ hγ iQ vu tC nx hs (by rw[aW,bL] at h;exact h.2))
end
mutual
def a8.hold:∀{x:AV} {c:aR},a8 K x c->a8 K (aD x) c
 |_,_,.bad c=>.bad c
 |_,_,.v x hx=>.v x hx
 |_,_,.nil sz=>.nil sz
 |_,_,.js sz a=>.js sz a
 |_,_,.list k sz es g off m aC cells hn hr hv hc ht ha=>by
  have qx:aS K (eU es).flatten cells:=by rw[Ea];exact aS.hold hv
  have nf:(eU es).flatten.all AV.ek=ai:=by rw[Ea,OW];exact ha
  have D8:m=(eU es).length:=by rw[GY];exact hn
  cases k with|free i=>exact .list .held sz _ g off m aC cells D8 (Kd hr) qx hc ⟨ht.1,aX⟩ nf|_=>exact .list _ sz _ g off m aC cells D8 (Kd hr) qx hc ht nf
 |_,_,.arr b g off len aC fC iH hb hl hc ho hr=>.arr b g off len aC fC iH hb hl hc ho hr
 |_,_,.agg cs vs hv=>.agg _ vs (aS.hold hv)
 |_,_,.tuple cs vs hv=>.tuple _ vs (aS.hold hv)
 |_,_,.box b g off hb=>.box b g off hb
 |_,_,.eR g off=>.eR g off
 |_,_,.elem sz es i off g o p cells hr hv hc hi hp ha=>.elem sz es i off g o p cells hr hv hc hi hp ha
 |_,_,.func fn first aC fs cs h1 h2=>.func fn first aC fs cs h1 h2
 |_,_,.yield l g hl=>.yield l g hl
 |_,_,.iface t x c hx=>.iface t _ c (a8.hold hx)
def aS.hold:∀{xs:List AV} {cs:List aR},aS K xs cs->aS K (cr xs) cs
 |_,_,.nil=>.nil
 |_,_,.cons x c xs cs hx hs=>.cons _ c _ cs (a8.hold hx) (aS.hold hs)
end
end
section
variable {P:bK} {G:Nat->Option (List AV)} {w0 w w':World} {K K':aY} {h h':ao} {ok:bm->Nat->Code->Bool}
end
end Go.AE
end
section
namespace Go.AE
section
variable {P:bK} {G:Nat->Option (List AV)} {w0:World} {aN:bm->Option (List AV->ao->Option (AV × ao))}
def tW{L:List bm}(h:(L.all λg=>match P.funcs[g]? with|some fn=>fn.body.isSome|none=>az)=ai):∀g∈L,∃fn,P.funcs[g]?=aa fn/\fn.body.isSome=ai:=by
 intro g hg;have:=ej.1 h g hg;split at this
 ·rename_i fn hY;exact⟨fn,hY,this⟩
 ·cases this
variable {L:List bm} {R:Rec} {g:bm} {args:List AV} {h h2:ao} {x y:AV}
end
end Go.AE
end
section
namespace Go.NT
def eJ:List Nat->Nat
 | []=>0
 |x::l=>x+eJ l
def mO:List Int->Int
 | []=>1
 |x::l=>x * mO l
def aaV{l m}(h:l.Perm m):eJ l=eJ m:=by
 induction h with
 |nil=>rfl|cons x _ ih=>simp only[eJ,ih]|swap x y l=>simp only[eJ];omega|trans _ _ h1 h2=>exact h1.trans h2
def ano{l m}(h:l.Perm m):mO l=mO m:=by
 induction h with
 |nil=>rfl|cons x _ ih=>simp only[mO,ih]|swap x y l=>simp only[mO];rw[C6]|trans _ _ h1 h2=>exact h1.trans h2
def aaU(l m):eJ (l++m)=eJ l+eJ m:=by
 induction l with
 |nil=>simp[eJ]|cons x l ih=>simp only[lN,eJ,ih];omega
def fD(h:Nat):List Nat:=List.range' 1 h
def vz{k h}:k∈fD h↔1<=k/\k<=h:=by
 unfold fD;rw[List.mem_range'];constructor
 ·rintro⟨i,hi,rfl⟩;omega
 ·rintro⟨h1,h2⟩;exact⟨k - 1,by omega,by omega⟩
def Zz(h):fD (h+1)=fD h++[h+1]:=by unfold fD;rw[List.range'_1_concat,acq 1 h]
def QO(h):(fD h).length=h:=by simp[fD]
def apz(h):(fD h).Nodup:=List.nodup_range' 1
def amK:∀{l m:List Nat},l.Nodup->(∀x∈l,x∈m)->m.length<=l.length->l.Perm m:=by
 intro l
 induction l with
 |nil=>
  intro m _ _ bZ;have:m=[]:=by cases m with|nil=>rfl|cons _ _=>simp at bZ
  subst this;exact .nil
 |cons x l ih=>
  intro m hl hs bZ;have hx:=hs x gj;have hp:=List.perm_cons_erase hx;rw[FM] at hl;refine List.Perm.trans (.cons x (ih hl.2 (λy hy=>?_) ?_)) hp.symm
  ·have bO:y≠x:=(by rintro rfl;exact hl.1 hy);exact(List.mem_erase_of_ne bO).2 (hs y (fN _ hy))
  ·rw[List.length_erase_of_mem hx];simp at bZ;omega
def alM{f:Nat->Nat}:∀{l:List Nat},l.Nodup->(∀x∈l,∀y∈l,f x=f y->x=y)->(l.map f).Nodup:=by
 intro l
 induction l with
 |nil=>intro _ _;exact List.nodup_nil|cons x l ih=>intro h hf;rw[FM] at h;rw[eK,FM];refine⟨λhm=>?_,ih h.2 λa ha b hb=>hf a (fN _ ha) b (fN _ hb)⟩;obtain⟨y,hy,he⟩:=ju.1 hm;have:=hf y (fN _ hy) x gj he;subst this;exact h.1 hy
def fl(a n k:Nat):Nat:=if n<2 * (a * k%n) then 1 else 0
def ab(a n k:Nat):Nat:=if n<2 * (a * k%n) then n - a * k%n else a * k%n
def mu(a n:Nat):Nat:=eJ ((fD (n/2)).map (fl a n))
section
variable {a b n h:Nat}
def Zr(hc:oj a n){k:Nat}(h0:0<k)(h1:k<n):a * k%n≠0:=λq=>by have:n∣k:=(MC hc).dvd_of_dvd_mul_left (FR q);have:=Dd h0 this;omega
def S5(hn:n=2 * h+1)(hc:oj a n){k:Nat}(hk:1<=k/\k<=h):1<=ab a n k/\ab a n k<=h:=by have h1:=Zr hc (k:=k) ah ah;have h2:=mV (a * k) (ah:0<n);unfold ab;split<;>omega
def ac6(hn:n=2 * h+1)(hc:oj a n){k l:Nat}(hk:1<=k/\k<=h)(hl:1<=l/\l<=h)(he:ab a n k=ab a n l):k=l:=by
 have Ak:=mV (a * k) (ah:0<n);have pH:=mV (a * l) (ah:0<n);have key:∀{x y:Nat},x<=y->y<n->a * x%n=a * y%n->x=y:=by
  intro x y Xq hy q;have hd:n∣a * y - a * x:=FR (Nat.sub_mod_eq_zero_of_mod_eq q.symm);rw[<-Nat.mul_sub] at hd;have:=(MC hc).dvd_of_dvd_mul_left hd;rcases FT (y - x) with q|q
  ·omega
  ·have:=Dd q this;omega
 have key2:a * k%n+a * l%n≠n:=λq=>by
  have hd:n∣a * (k+l):=by rw[SC];apply FR;rw[I5,q,Nat.mod_self]
  have:=(MC hc).dvd_of_dvd_mul_left hd;have:=Dd ah this;omega
 have same:a * k%n=a * l%n->k=l:=λq=>by
  rcases Nat.le_total k l with p|p
  ·exact key p ah q
  ·exact(key p ah q.symm).symm
 unfold ab at he;split at he<;>split at he
 ·exact same ah
 ·exact absurd ah key2
 ·exact absurd ah key2
 ·exact same he
def Qt(hn:n=2 * h+1)(hc:oj a n):((fD h).map (ab a n)).Perm (fD h):=by refine amK (alM (apz h) λx hx y hy he=>ac6 hn hc (vz.1 hx) (vz.1 hy) he) (λx hx=>?_) bH;obtain⟨y,hy,rfl⟩:=ju.1 hx;exact vz.2 (S5 hn hc (vz.1 hy))
def aaY{f g q}:∀{l:List Nat},(∀k∈l,f k%2=(g k+q k)%2)->eJ (l.map f)%2=(eJ (l.map g)+eJ (l.map q))%2:=by
 intro l
 induction l with
 |nil=>intro _;rfl|cons x l ih=>intro hf;have h1:=hf x gj;have h2:=ih λk hk=>hf k (fN _ hk);simp only[eK,eJ];omega
def ahN(hn:n=2 * h+1)(ha:oj a n)(hb:oj b n){k:Nat}(hk:1<=k/\k<=h):fl (a * b) n k%2=(fl b n k+fl a n (ab b n k))%2:=by
 have hbr:=S5 hn hb hk;have hx0:=Zr ha (k:=ab b n k) ah ah;have dB:=mV (a * ab b n k) (ah:0<n);have cS:=mV (b * k) (ah:0<n);have e1:a * b * k%n=a * (b * k%n)%n:=by rw[MG,acz]
 unfold fl;rw[e1];by_cases hr:n<2 * (b * k%n)
 ·have DS:ab b n k=n - b * k%n:=by unfold ab;rw[aG hr]
  rw[aG hr];have yI:=mV (a * (b * k%n)) (ah:0<n);have hs:(a * (b * k%n)%n+a * ab b n k%n)%n=0:=by rw[<-I5,<-SC,DS,(ah:b * k%n+(n - b * k%n)=n),Nat.mul_mod_left]
  have As:a * (b * k%n)%n+a * ab b n k%n=n:=by
   have hd:=FR hs;obtain⟨c,hc⟩:=hd;rcases c with _|_|c
   ·omega
   ·omega
   ·exfalso;have:n * 2<=n * (c+1+1):=acy n ah;omega
  split<;>split<;>omega
 ·have DS:ab b n k=b * k%n:=by unfold ab;rw[aH hr]
  rw[aH hr,DS];simp
def aly(hn:n=2 * h+1)(ha:oj a n)(hb:oj b n):mu (a * b) n%2=(mu a n+mu b n)%2:=by
 have hh:n/2=h:=by omega
 unfold mu;rw[hh,aaY (g:=fl b n) (q:=λk=>fl a n (ab b n k)) λk hk=>ahN hn ha hb (vz.1 hk)];have e:(fD h).map (λk=>fl a n (ab b n k))=((fD h).map (ab b n)).map (fl a n):=by rw[AZ];rfl
 rw[e,aaV ((Qt hn hb).map (fl a n))];omega
def aaW(c):∀m:Nat,eJ ((fD m).map λk=>if c<k then 1 else 0)=m - c:=by
 intro m
 induction m with
 |zero=>simp[fD,eJ]|succ m ih=>rw[Zz,mT,aaU,ih];simp only[eK,uK,eJ];split<;>omega
def atf(c):∀m:Nat,eJ ((fD m).map λk=>if k<=c then 1 else 0)=min c m:=by
 intro m
 induction m with
 |zero=>simp[fD,eJ]|succ m ih=>rw[Zz,mT,aaU,ih];simp only[eK,uK,eJ];split<;>omega
def LJ{f g}:∀{l:List Nat},(∀k∈l,f k=g k)->eJ (l.map f)=eJ (l.map g):=by
 intro l
 induction l with
 |nil=>intro _;rfl|cons x l ih=>intro hf;simp only[eK,eJ];rw[hf x gj,ih λk hk=>hf k (fN _ hk)]
def alA(hn:n=2 * h+1):mu 2 n=h - h/2:=by
 have hh:n/2=h:=by omega
 unfold mu;rw[hh,<-aaW (h/2) h];refine LJ λk hk=>?_;have:=vz.1 hk;unfold fl;rw[nI ah];split<;>split<;>omega
def alz(hn:n=2 * h+1):mu 1 n=0:=by
 have hh:n/2=h:=by omega
 unfold mu;rw[hh];have:(fD h).map (fl 1 n)=(fD h).map λk=>if h<k then 1 else 0:=by apply IY;intro k hk;have:=vz.1 hk;unfold fl;rw[Df,nI ah];split<;>split<;>omega
 rw[this,aaW];omega
def alx:mu (a%n) n=mu a n:=by unfold mu;refine LJ λk _=>?_;unfold fl;rw[SB]
def Yk(hn:n=2 * h+1)(hc:oj a n)(ha:a%2=1):mu a n%2=eJ ((fD h).map λk=>a * k/n)%2:=by
 have hh:n/2=h:=by omega
 have step:∀k∈fD h,fl a n k%2=((a * k/n)+(ab a n k+k))%2:=by
  intro k _;have hd:=SA (a * k) n;have hr:=mV (a * k) (ah:0<n);have p1:a * k%2=k%2:=by rw[sS,ha];simp
  have p2:n * (a * k/n)%2=(a * k/n)%2:=by rw[sS,(ah:n%2=1)];simp
  generalize n * (a * k/n)=u at *
  generalize a * k/n=v at *
  unfold fl ab;generalize a * k%n=r at *
  split<;>omega
 unfold mu;rw[hh,aaY step];have e:eJ ((fD h).map λk=>ab a n k+k)=eJ ((fD h).map (ab a n))+eJ ((fD h).map λk=>k):=by
  generalize fD h=l
  induction l with
  |nil=>rfl|cons x l ih=>simp only[eK,eJ];rw[ih];omega
 rw[e,aaV (Qt hn hc),List.map_id'];omega
end
def ah0(f:Nat->Nat->Nat):∀(l m:List Nat),eJ (l.map λk=>eJ (m.map λj=>f k j))=eJ (m.map λj=>eJ (l.map λk=>f k j)):=by
 intro l m
 induction l with
 |nil=>
  simp only[uK,eJ]
  induction m with
  |nil=>rfl|cons x m ih=>simp only[eK,eJ];rw[<-ih]
 |cons x l ih=>
  simp only[eK,eJ];rw[ih];clear ih
  induction m with
  |nil=>rfl|cons y m ih=>simp only[eK,eJ];rw[<-ih];omega
def Vc{m n g h k}(hn:n=2 * h+1)(hm:m=2 * g+1)(hk:k<=h):m * k/n=eJ ((fD g).map λl=>if n * l<=m * k then 1 else 0):=by
 have eI:m * k/n<=g:=by
  have:m * k/n<g+1:=by rw[Nat.div_lt_iff_lt_mul ah];have h1:m * k<=m * h:=acy m hk;have h2:(g+1) * n=m * h+(g+1+h):=(by subst hn hm;simp only[gI,SC,oo,Df];have:g * (2 * h)=2 * g * h:=(by rw[MH 2 g,MG]);omega);omega
  omega
 have:(fD g).map (λl=>if n * l<=m * k then 1 else 0)=(fD g).map λl=>if l<=m * k/n then 1 else 0:=by
  apply IY;intro l _;have:(n * l<=m * k)↔l<=m * k/n:=by rw[Nat.le_div_iff_mul_le ah,MH]
  simp only[this]
 rw[this,atf];omega
def akx{m n g h}(hn:n=2 * h+1)(hm:m=2 * g+1)(hc:oj m n):
 eJ ((fD h).map λk=>m * k/n)+eJ ((fD g).map λl=>n * l/m)=h * g:=by
 have e1:eJ ((fD h).map λk=>m * k/n)=eJ ((fD h).map λk=>eJ ((fD g).map λl=>if n * l<=m * k then 1 else 0)):=
  LJ λk hk=>Vc hn hm (vz.1 hk).2
 have e2:eJ ((fD g).map λl=>n * l/m)=eJ ((fD g).map λl=>eJ ((fD h).map λk=>if m * k<=n * l then 1 else 0)):=
  LJ λl hl=>Vc hm hn (vz.1 hl).2
 rw[e1,e2,ah0 (λl k=>if m * k<=n * l then 1 else 0)];have one:∀k∈fD h,∀l∈fD g,(if n * l<=m * k then 1 else 0)+(if m * k<=n * l then 1 else 0)=1:=by
  intro k hk l hl;have hk:=vz.1 hk;have bO:m * k≠n * l:=λq=>by have hd:n∣m * k:=⟨l,q⟩;have:=(MC hc).dvd_of_dvd_mul_left hd;have:=Dd ah this;omega
  split<;>split<;>omega
 have inner:∀(k:Nat) (ls:List Nat),k∈fD h->(∀l∈ls,l∈fD g)->eJ (ls.map λl=>if n * l<=m * k then 1 else 0)+eJ (ls.map λl=>if m * k<=n * l then 1 else 0)=ls.length:=by
  intro k ls hk
  induction ls with
  |nil=>intro _;rfl|cons x ls ih=>intro hs;have h1:=one k hk x (hs x gj);have h2:=ih λl hl=>hs l (fN _ hl);simp only[eK,eJ,jn];omega
 have outer:∀(ks:List Nat),(∀k∈ks,k∈fD h)->eJ (ks.map λk=>eJ ((fD g).map λl=>if n * l<=m * k then 1 else 0))+eJ (ks.map λk=>eJ ((fD g).map λl=>if m * k<=n * l then 1 else 0))=ks.length * g:=by
  intro ks
  induction ks with
  |nil=>intro _;simp[eJ]|cons x ks ih=>intro hs;have h1:=inner x (fD g) (hs x gj) (λ_ h=>h);rw[QO] at h1;have h2:=ih λl hl=>hs l (fN _ hl);simp only[eK,eJ,jn,gI,Df];omega
 have:=outer (fD h) (λ_ h=>h);rw[QO] at this;exact this
def anY{m n g h}(hn:n=2 * h+1)(hm:m=2 * g+1)(hc:oj m n):(mu m n+mu n m)%2=h * g%2:=by have e1:=Yk hn hc ah;have e2:=Yk hm hc.symm ah;have:=akx hn hm hc;rw[I5,e1,e2,<-I5,this]
end Go.NT
end
section
namespace Go.NT
def Qj:∀c:Nat,(1:Int)^c=1:=by
 intro c
 induction c with
 |zero=>rfl|succ c ih=>rw[xN,ih];rfl
def yM(p:Nat):Prop:=2<=p/\∀d,d∣p->d=1∨d=p
def yM.coprime{p k}(hp:yM p)(h0:0<k)(h1:k<p):Nat.Coprime k p:=by
 have hd:Nat.gcd k p∣p:=Nat.gcd_dvd_right k p;rcases hp.2 _ hd with q|q
 ·exact q
 ·have:=Dd h0 (Nat.gcd_dvd_left k p);omega
def anq(a):∀l:List Nat,mO (l.map λ(k:Nat)=>a * (k:Int))=a^l.length * mO (l.map λ(k:Nat)=>(k:Int)):=by
 intro l
 induction l with
 |nil=>simp[mO]|cons x l ih=>simp only[eK,mO,ih,jn,xN];rw[xL,xL,C6 (x:Int),<-xL a,zw a,xL]
def anr(f)(g):∀l:List Nat,mO (l.map λk=>(-1)^f k * g k)=(-1)^eJ (l.map f) * mO (l.map g):=by
 intro l
 induction l with
 |nil=>simp[mO,eJ]|cons x l ih=>simp only[eK,mO,eJ,ih,Sk];rw[xL,xL,C6 (g x)]
def anp{p}{f g}:∀{l:List Nat},(∀k∈l,p∣f k - g k)->p∣mO (l.map f) - mO (l.map g):=by
 intro l
 induction l with
 |nil=>intro _;simp[mO]|cons x l ih=>
  intro h;have h1:=h x gj;have h2:=ih λk hk=>h k (fN _ hk);simp only[eK,mO];generalize mO (l.map f)=F at *
  generalize mO (l.map g)=G at *
  have e:f x * F - g x * G=(f x - g x) * F+g x * (F - G):=by rw[Ml,zx];omega
  rw[e];exact xK (Int.dvd_mul_of_dvd_left h1) (Fy h2)
def cancel{p}(hp:yM p):∀(l:List Nat) (x:Int),(∀k∈l,0<k/\k<p)->(p:Int)∣x * mO (l.map λ(k:Nat)=>(k:Int))->(p:Int)∣x:=by
 intro l
 induction l with
 |nil=>intro x _ h;simpa [mO] using h|cons k l ih=>
  intro x hk h;obtain⟨h0,h1⟩:=hk k gj;refine ih x (λj hj=>hk j (fN _ hj)) ?_;simp only[eK,mO] at h;rw[C6] at h;generalize x * mO (l.map λ(k:Nat)=>(k:Int))=y at *
  have hn:=abI.2 h;rw[Int.natAbs_mul,Sg,Sg] at hn;have:=(hp.coprime h0 h1).symm.dvd_of_dvd_mul_left hn;exact abI.1 (by rw[Sg];exact this)
def Vp{p h a}(hp:yM p)(hn:p=2 * h+1)(hc:Nat.Coprime a p):(p:Int)∣(a:Int)^h - (-1)^mu a p:=by
 have hh:p/2=h:=by omega
 have step:∀k∈fD h,(p:Int)∣(a:Int) * (k:Int) - (-1)^fl a p k * (ab a p k:Int):=by
  intro k _;have hd:=SA (a * k) p;have hr:=mV (a * k) (ah:0<p);have gu:(a:Int) * (k:Int)=(p:Int) * ((a * k/p:Nat):Int)+((a * k%p:Nat):Int):=by rw[<-xM,<-xM,<-abJ,hd]
  unfold fl ab;by_cases q:p<2 * (a * k%p)
  ·rw[aG q,aG q,gu];have e:((p - a * k%p:Nat):Int)=(p:Int) - ((a * k%p:Nat):Int):=(by omega);rw[e];refine⟨((a * k/p:Nat):Int)+1,?_⟩;rw[Mi];simp only[IP,Int.pow_one];omega
  ·rw[aH q,aH q,gu];refine⟨((a * k/p:Nat):Int),?_⟩;simp only[Mk,FA];omega
 have h1:=anp step;rw[anq,anr,QO] at h1;have e1:(fD h).map (λk=>(ab a p k:Int))=((fD h).map (ab a p)).map λ(k:Nat)=>(k:Int):=by rw[AZ];rfl
 rw[e1,ano ((Qt hn hc).map λ(k:Nat)=>(k:Int)),<-Ml] at h1;have:=cancel hp (fD h) _ (λk hk=>by have:=vz.1 hk;omega) h1;unfold mu;rw[hh];exact this
def ahp{p h a}(hp:yM p)(hn:p=2 * h+1)(h0:0<a)(h1:a<p):(a^h%p=1)↔mu a p%2=0:=by
 have hg:=Vp hp hn (hp.coprime h0 h1);have ni:=hp.1;have O8:((a^h:Nat):Int)=(a:Int)^h:=by simp
 rw[<-O8] at hg;constructor
 ·intro q;rcases A7 (mu a p) with r|r
  ·exact r
  ·exfalso;have:((-1:Int))^mu a p= -1:=(by obtain⟨c,hc⟩:∃c,mu a p=2 * c+1:=⟨mu a p/2,by omega⟩;rw[hc,xN,FB];simp[Qj]);rw[this] at hg;have hd:p∣a^h+1:=(by have e:((a^h:Nat):Int) - -1=((a^h+1:Nat):Int):=(by omega);rw[e] at hg;exact Sh.1 hg);have:=Nat.mod_eq_zero_of_dvd hd;rw[I5,q] at this;have h3:1%p=1:=nI ah;rw[h3] at this;have:p∣2:=FR this;have:=Dd ah this;omega
 ·intro r;have:((-1:Int))^mu a p=1:=by obtain⟨c,hc⟩:∃c,mu a p=2 * c:=⟨mu a p/2,by omega⟩;rw[hc,FB];simp[Qj]
  rw[this] at hg;have lG:0<a^h:=MK h0;have hd:p∣a^h - 1:=by have e:((a^h:Nat):Int) - 1=((a^h - 1:Nat):Int):=(by omega);rw[e] at hg;exact Sh.1 hg
  obtain⟨c,hc⟩:=hd;have:a^h=p * c+1:=by omega
  rw[this,acw,nI ah]
def asO{x n}(ho:n%2=1)(hc:oj (2 * x) n):mu (2 * x) n%2=(mu x n+(if n%8=3∨n%8=5 then 1 else 0))%2:=by
 have hn:n=2 * (n/2)+1:=by omega
 have h2:oj 2 n:=Nat.Coprime.coprime_mul_right hc;have hx:oj x n:=acp hc;rw[aly hn h2 hx,alA hn];split<;>omega
def asQ{x n}(ho:n%2=1)(hx:x%2=1)(hc:oj x n):mu x n%2=(mu (n%x) x+(if x%4=3/\n%4=3 then 1 else 0))%2:=by
 have hn:n=2 * (n/2)+1:=by omega
 have hm:x=2 * (x/2)+1:=by omega
 have h:=anY hn hm hc;rw[alx];have e:(n/2) * (x/2)%2=(if x%4=3/\n%4=3 then 1 else 0):=by rw[sS];rcases A7 (n/2) with p|p<;>rcases A7 (x/2) with q|q<;>rw[p,q]<;>split<;>omega
 rw[e] at h;split at h<;>split<;>omega
def agl{x n}(hc:oj x n):oj (n%x) x:=by
 unfold oj at *
 rw[<-Nat.gcd_rec,hc]
def ED(p:Nat):Nat->Nat->Bool
 |0,lo=>Nat.blt 0 (p%lo)
 |k+1,lo=>ED p k lo&&ED p k (lo+2^k)
def alL{p}:∀{k lo:Nat},ED p k lo=ai->∀d,lo<=d->d<lo+2^k->p%d≠0:=by
 intro k
 induction k with
 |zero=>
  intro lo h d h1 h2;have:d=lo:=by simp at h2;omega
  subst this;unfold ED at h;have:1<=p%d:=by simpa [Nat.blt] using h
  omega
 |succ k ih=>
  intro lo h d h1 h2;unfold ED at h;rw[bL] at h;rw[A8] at h2;rcases dV d (lo+2^k) with q|q
  ·exact ih h.1 d h1 q
  ·exact ih h.2 d q ah
def XA{p k}(h2:2<=p)(h:ED p k 2=true)(hk:p<(2^k+2) * (2^k+2)):yM p:=by
 refine⟨h2,λd hd=>?_⟩;obtain⟨e,he⟩:=hd;have bD:d≠0:=by rintro rfl;simp at he;omega
 have aF:e≠0:=by rintro rfl;simp at he;omega
 by_cases dU:d=1
 ·exact .inl dU
 by_cases iI:e=1
 ·right;rw[he,iI,oo]
 exfalso;have key:∀{x y:Nat},p=x * y->2<=x->x<2+2^k->False:=by intro x y Xq hx aB;exact alL h x hx aB (by rw[Xq,Nat.mul_mod_right])
 rcases dV d (2+2^k) with q|q
 ·exact key he ah q
 ·rcases dV e (2+2^k) with r|r
  ·exact key (by rw[he,MH]) ah r
  ·have:=p7 q r;rw[<-he] at this;rw[acq (2^k) 2] at hk;omega
def P:Nat:=2147483579
def Q:Nat:=1073741789
def SK:yM P:=XA (k:=16) aO (by decide+kernel) aO
def acL:yM Q:=XA (k:=15) aO (by decide+kernel) aO
end Go.NT
end
section
namespace Go.NT
def DL:Nat->Nat->Nat->Nat->Nat->Nat
 |0,_,_,_,c=>c
 |k+1,m,a,n,c=>if n=0 then c else DL k m (a * a%m) (n/2) (if n%2=1 then c * a%m else c)
def JA{m}(hm:0<m):∀{k a n c:Nat},n<2^k->c<m->DL k m a n c=c * a^n%m:=by
 intro k
 induction k with
 |zero=>
  intro a n c hn hc;have:n=0:=by simp at hn;exact hn
  subst this;simp[DL,nI hc]
 |succ k ih=>
  intro a n c hn hc;unfold DL;by_cases h0:n=0
  ·subst h0;simp[nI hc]
  ·rw[aH h0];have tx:n/2<2^k:=(by rw[A8] at hn;omega);have WZ:∀e,(a * a%m)^e%m=a^(2 * e)%m:=λe=>(by rw[<-FX,FY,SD]);split
   ·rename_i ho;rw[ih tx (mV _ hm),sS,WZ,Nat.mod_mod,<-sS,MG,<-acG,show(2 * (n/2)).succ=n by omega]
   ·rename_i ho;rw[ih tx hc,sS,WZ,<-sS,(ah:2 * (n/2)=n)]
def sL(a n:Nat):Nat:=DL 31 P a n 1
def Qv{a n}(hn:n<2^31):sL a n=a^n%P:=by unfold sL;rw[JA aO hn aO,Df]
def elem(x:Nat):Bool:=decide (1<=x)&&decide (x<P)&&Nat.beq (sL x Q) 1
def elem_iff{x}:elem x=ai↔1<=x/\x<P/\x^Q%P=1:=by unfold elem;rw[Qv aO];simp only[bL,decide_eq_true_eq];exact⟨λh=>⟨h.1.1,h.1.2,jP h.2⟩,λh=>⟨⟨h.1,h.2.1⟩,by rw[h.2.2];rfl⟩⟩
def ag2{x}(h0:1<=x)(h1:x<P):elem x=decide (mu x P%2=0):=by have:=ahp SK (h:=Q) (a:=x) aO ah h1;rw[Fk,elem_iff,decide_eq_true_eq,<-this];exact⟨λh=>h.2.2,λh=>⟨h0,h1,h⟩⟩
def zR:elem 1=ai:=by rw[elem_iff];exact⟨aO,by decide,by rw[acC];rfl⟩
def Gg{x y}(hx:elem x=ai)(hy:elem y=ai):elem (x * y%P)=ai:=by
 rw[elem_iff] at *
 obtain⟨x1,x2,x3⟩:=hx;obtain⟨y1,y2,y3⟩:=hy;have hp:(x * y%P)^Q%P=1:=by rw[<-FX,Nat.mul_pow,sS,x3,y3];rfl
 refine⟨?_,mV _ aO,hp⟩;rcases FT (x * y%P) with q|q
 ·rw[q] at hp;have:(0:Nat)^Q=0:=Nat.zero_pow aO;rw[this] at hp;cases hp
 ·exact q
def ag6{x}(hx:elem x=ai)(n):elem (x^n%P)=ai:=by
 induction n with
 |zero=>exact zR|succ n ih=>
  have:=Gg ih hx
  rwa [SB,<-A8] at this
def ani{x}(hx:elem x=ai)(n):x^(n%Q)%P=x^n%P:=by obtain⟨-,-,h⟩:=elem_iff.1 hx;have e:n=Q * (n/Q)+n%Q:=(SA n Q).symm;rw[show x^n=x^(Q * (n/Q)+n%Q) by rw[<-e],acE,FY,sS,FX (x^Q),h,acC];simp
end Go.NT
end
section
namespace Go.NT
def Qi:Int:=1073741789
def fmod(n:Int):Int:=n%Qi
def cQ(a b:Int):Int:=(fmod a+fmod b)%Qi
def bX(a b:Int):Int:=fmod a * fmod b%Qi
def eE(n:Int):Int:=((DL 31 Q (fmod n).toNat (Q - 2) 1:Nat):Int)
def okF(x:Int):Prop:=0<=x/\x<Qi
def MP:(0:Int)<Qi:=by decide
def Bb:Qi=(Q:Int):=rfl
def DN(n):okF (fmod n):=⟨Sd _ aO,Sc _ MP⟩
def By{x}(h:okF x):fmod x=x:=Mg h.1 h.2
def yd(a b):cQ a b=(a+b)%Qi:=by unfold cQ fmod;rw[<-abD]
def sd(a b):bX a b=a * b%Qi:=by unfold bX fmod;rw[<-AU]
def Gh(a b):okF (cQ a b):=⟨Sd _ aO,Sc _ MP⟩
def Gi(a b):okF (bX a b):=⟨Sd _ aO,Sc _ MP⟩
def AD:okF 0:=by unfold okF;decide
def UT{x}(h:okF x):cQ x 0=x:=by rw[yd,Int.add_zero,<-fmod];exact By h
def ahT(n):bX n 0=0:=by rw[sd,Mj];rfl
def auK(n):bX 0 n=0:=by rw[sd,IT];rfl
def jT(n x y:Int):Int:=cQ x (-(bX n y))
def JE(n x y):jT n x y=(x - n * y)%Qi:=by unfold jT;rw[yd,sd,<-Int.sub_eq_add_neg,abO,C5 _ (C4 _),<-abO]
def ahP(n x y):okF (jT n x y):=Gh _ _
def NR{n x}(h:okF x):jT n x 0=x:=by unfold jT;rw[ahT,abL];exact UT h
def ahR{x y}(h:okF x):jT 0 x y=x:=by unfold jT;rw[auK,abL];exact UT h
def ahQ(n y):jT (-n) 0 y=bX y n:=by rw[JE,sd,abK,Int.sub_neg,FC,zw]
def ahu{p h a}(hp:yM p)(hn:p=2 * h+1)(h0:0<a)(h1:a<p):a^(p - 1)%p=1:=by
 have hg:=Vp hp hn (hp.coprime h0 h1);have ni:=hp.1;have h2:(p:Int)∣(a:Int)^(2 * h) - 1:=by
  obtain⟨c,hc⟩:=hg;have e:((-1:Int)^mu a p) * ((-1:Int)^mu a p)=1:=by rw[<-Sk,(ah:mu a p+mu a p=2 * mu a p),FB];simp[Qj]
  have e2:(a:Int)^(2 * h)=(a:Int)^h * (a:Int)^h:=by rw[<-Sk,(ah:2 * h=h+h)]
  refine⟨c * ((a:Int)^h+(-1)^mu a p),?_⟩;rw[<-xL,<-hc,Ml,Mi,Mi,e2,zw ((-1)^mu a p) ((a:Int)^h),e];omega
 rw[(ah:p - 1=2 * h)];have lG:0<a^(2 * h):=MK h0;have O8:((a^(2 * h):Nat):Int)=(a:Int)^(2 * h):=by simp
 rw[<-O8] at h2;have hd:p∣a^(2 * h) - 1:=by
  have e:((a^(2 * h):Nat):Int) - 1=((a^(2 * h) - 1:Nat):Int):=by omega
  rw[e] at h2;exact Sh.1 h2
 obtain⟨c,hc⟩:=hd;have:a^(2 * h)=p * c+1:=by omega
 rw[this,acw,nI ah]
def NH(n):okF (eE n):=by unfold eE okF;rw[JA aO aO aO];exact⟨ah,by rw[Bb];exact abM.2 (mV _ aO)⟩
def NV{x}(h:okF x)(h0:x≠0):bX x (eE x)=1:=by
 obtain⟨n,rfl⟩:∃n:Nat,x=n:=⟨x.toNat,by have:=h.1;omega⟩;have hn:n<Q:=by have:=h.2;rw[Bb] at this;exact abM.1 this
 have hf:=ahu (h:=536870894) acL aO (ah:0<n) hn;unfold eE;rw[By h,dK,JA aO aO aO,Df,sd,Bb,<-xM,<-Si,acz,MH,<-A8,
  (aO:(Q - 2).succ=Q - 1),hf]
 rfl
def ak(l:List Int)(i:Nat):Int:=l.getD i 0
def jb(n:Int)(a b:List Int):List Int:=FO (jT n) a b
def uV(c:Nat)(a own:List Int):List Int:=if ak a c=0 then a else a.take c++jb (ak a c) (a.drop c) (own.drop c)
def iD(c:Nat)(a:List Int)(n:Int):List Int:=a.take c++(a.drop c).map (bX · n)
def scaleB(a:List Int)(n:Int):List Int:=jb (-n) (bg a.length 0) a
def ov(t:List (List Int))(r c:Nat):Option Nat:=(bR t.length).find? λk=>decide (r<=k)&& !(decide (ak (t.getD k []) c=0))
def xA(st:List (List Int) × List Nat)(c:Nat):List (List Int) × List Nat:=
 match ov st.1 st.2.length c with
 |none=>st
 |some k=>
  let own:=iD c (st.1.getD k []) (eE (ak (st.1.getD k []) c))
  let t1:=(st.1.set k (st.1.getD st.2.length [])).set st.2.length own
  (t1.mapIdx λi a=>if i=st.2.length then own else uV c a own,st.2++[c])
def nE(st:List (List Int) × List Nat)(c:Nat):List (List Int) × List Nat:=
 match ov st.1 st.2.length c with
 |none=>st
 |some k=>
  let own:=scaleB (st.1.getD k []) (eE (ak (st.1.getD k []) c))
  let t1:=st.1.set k (st.1.getD st.2.length [])
  ((t1.map λa=>jb (ak a c) a own).set st.2.length own,st.2++[c])
def EP(t:List (List Int))(many:Nat):List (List Int) × List Nat:=(bR many).foldl xA (t,[])
def jd(t:List (List Int))(many:Nat):List (List Int) × List Nat:=(bR many).foldl nE (t,[])
structure v9(w c:Nat)(st:List (List Int) × List Nat):Prop where
 len:∀a∈st.1,a.length=w
 ok:∀a∈st.1,∀x∈a,okF x
 zero:∀i a,st.2.length<=i->st.1[i]?=aa a->∀j,j<c->ak a j=0
def ga{l}{i}(h):ak l i=l[i]:=by unfold ak;rw[dS,aT h];rfl
def p9{l}(h:∀x∈l,okF x)(i):okF (ak l i):=by
 unfold ak;rw[dS];rcases dV i l.length with q|q
 ·rw[aT q];exact h _ (iG q)
 ·rw[tS q];exact AD
def xl{a b}(hl:a.length=b.length)(h:∀i,i<a.length->ak a i=ak b i):a=b:=by apply IV hl;intro i h1 h2;rw[<-ga h1,<-ga h2];exact h i h1
def wj{n}{a b}(hl:a.length=b.length){i}(hi:i<a.length):ak (jb n a b) i=jT n (ak a i) (ak b i):=by
 unfold jb;have h1:i<(FO (jT n) a b).length:=by rw[ab8];omega
 rw[ga h1,ab5,ga hi,ga ah]
def vy{n}{a b}(hl:a.length=b.length):(jb n a b).length=a.length:=by unfold jb;rw[ab8];omega
def Ds{a x}{c}(hc:c<=a.length)(i):ak (a.take c++x) i=if i<c then ak a i else ak x (i - c):=by
 unfold ak;simp only[dS];split
 ·rename_i h;rw[rK (by rw[fj];omega),oh,aG h]
 ·rename_i h;rw[zC (by rw[fj];omega),fj,De hc]
def Jf(a)(c i):ak (a.drop c) i=ak a (c+i):=by unfold ak;simp only[dS,oN]
def afQ{c}{a own}(hl:a.length=own.length)(hc:c<a.length)(ha:∀x∈a,okF x)(hz:∀j,j<c->ak own j=0):uV c a own=jb (ak a c) a own:=by
 unfold uV;split
 ·rename_i h;rw[h];refine(xl (vy hl) λi hi=>?_).symm;rw[vy hl] at hi;rw[wj hl hi,ahR (p9 ha i)]
 ·have hd:(a.drop c).length=(own.drop c).length:=by simp[hl]
  refine xl ?_ λi hi=>?_
  ·rw[dE,vy hd,vy hl,fj,hD];omega
  ·have oW:i<a.length:=(by rw[dE,vy hd,fj,hD] at hi;omega);rw[Ds ah,wj hl oW];split
   ·rename_i q;rw[hz i q,NR (p9 ha i)]
   ·rename_i q;rw[wj hd (by rw[hD];omega),Jf,Jf,(ah:c+(i - c)=i)]
def Lv{c}{a}{n}(hc:c<=a.length)(hz:∀j,j<c->ak a j=0):iD c a n=scaleB a n:=by
 unfold iD scaleB;have hr:(bg a.length (0:Int)).length=a.length:=by simp
 refine xl ?_ λi hi=>?_
 ·rw[vy hr,dE,bE,fj,hD,hr];omega
 ·have oW:i<a.length:=by rw[dE,bE,fj,hD] at hi;omega
  have h0:ak (bg a.length (0:Int)) i=0:=by rw[ga (by simpa using oW)];simp
  rw[Ds hc,wj hr (by rw[hr];exact oW),h0,ahQ];split
  ·rename_i q;rw[hz i q,sd,IT];rfl
  ·rename_i q;have hm:i - c<((a.drop c).map (bX · n)).length:=(by rw[bE,hD];omega);rw[ga hm,qN,Sv,<-ga (ah:c+(i - c)<a.length),(ah:c+(i - c)=i)]
end Go.NT
end
section
namespace Go.NT
def Bu{t}{r c k}(h:ov t r c=aa k):k<t.length/\r<=k/\ak (t.getD k []) c≠0:=by unfold ov at h;have h1:=List.find?_some h;have h2:=List.mem_of_find?_eq_some h;rw[gB] at h2;simp only[bL,decide_eq_true_eq,zj,decide_eq_false_iff_not] at h1;exact⟨h2,h1⟩
def UY{t}{r c}(h:ov t r c=ar){k}(hk:k<t.length)(hr:r<=k):ak (t.getD k []) c=0:=by unfold ov at h;rw[List.find?_eq_none] at h;have:=h k (gB.2 hk);simp only[bL,decide_eq_true_eq,zj,decide_eq_false_iff_not,not_and,IM] at this;exact this hr
def ki{t:List (List Int)}{k}(hk):t.getD k []=t[k]:=by rw[dS,aT hk];rfl
section
variable {w c:Nat} {st:List (List Int) × List Nat}
structure Own(w c:Nat)(own:List Int):Prop where
 len:own.length=w
 ok:∀x∈own,okF x
 zero:∀j,j<c->ak own j=0
 one:ak own c=1
def KK{a:List Int}(hl:a.length=w)(hc:c<w)(ha:∀x∈a,okF x)(hz:∀j,j<c->ak a j=0)(h0:ak a c≠0):Own w c (iD c a (eE (ak a c))):=by
 refine⟨?_,?_,?_,?_⟩
 ·unfold iD;rw[dE,bE,fj,hD];omega
 ·intro x hx;unfold iD at hx;rcases List.mem_append.1 hx with q|q
  ·exact ha x (oO q)
  ·obtain⟨y,-,rfl⟩:=ju.1 q;exact Gi _ _
 ·intro j hj;unfold iD;rw[Ds ah,aG hj];exact hz j hj
 ·unfold iD;rw[Ds ah,aH ah];have hm:c - c<((a.drop c).map (bX · (eE (ak a c)))).length:=by rw[bE,hD];omega
  rw[ga hm,qN,Sv];have e:a[c+(c - c)]' ah=ak a c:=by rw[ga ah];congr 1;omega
  rw[e];exact NV (p9 ha c) h0
def aaI(R:v9 w c st)(hc:c<w):xA st c=nE st c:=by
 unfold xA nE;cases hf:ov st.1 st.2.length c with
 |none=>rfl|some k=>
  obtain⟨k1,k2,k3⟩:=Bu hf;rw[ki k1] at k3;have hk:=R.len _ (iG k1);have Al:=R.ok _ (iG k1);have vj:=R.zero k _ k2 (aT k1);simp only[ki k1];have O:=KK hk hc Al vj k3;rw[<-Lv ah vj];generalize iD c st.1[k] (eE (ak st.1[k] c))=own at *
  congr 1;apply IV
  ·simp
  ·intro i h1 h2;rw[List.getElem_mapIdx];by_cases hi:i=st.2.length
   ·rw[aG hi];subst hi;rw[Mr]
   ·rw[aH hi,Mq (λq=>hi q.symm),Mq (λq=>hi q.symm),qN];have aB:i<st.1.length:=(by simpa using h1);have hm:(st.1.set k (st.1.getD st.2.length []))[i]'(by simpa using aB)∈st.1:=by
     rw[FJ];split
     ·rw[ki ah];exact iG _
     ·exact iG _
    exact afQ ((R.len _ hm).trans O.len.symm) (by rw[R.len _ hm];exact hc) (R.ok _ hm) O.zero
def LC(R:v9 w c st)(hc:c<w):v9 w (c+1) (nE st c):=by
 unfold nE;cases hf:ov st.1 st.2.length c with
 |none=>
  refine⟨R.len,R.ok,λi a hi ha j hj=>?_⟩;rcases dV j c with q|q
  ·exact R.zero i a hi ha j q
  ·have:j=c:=(by omega);subst this;have aB:=(aV.1 ha).1;have:=UY hf aB hi;rw[ki aB] at this;rw[<-(aV.1 ha).2];exact this
 |some k=>
  obtain⟨k1,k2,k3⟩:=Bu hf;rw[ki k1] at k3;have hk:=R.len _ (iG k1);have Al:=R.ok _ (iG k1);have vj:=R.zero k _ k2 (aT k1);simp only[ki k1];have O:=KK hk hc Al vj k3;rw[<-Lv ah vj];generalize iD c st.1[k] (eE (ak st.1[k] c))=own at *
  have cS:st.2.length<st.1.length:=by omega
  have pI:∀a∈st.1.set k (st.1.getD st.2.length []),a∈st.1:=λa ha=>by
   rcases vY ha with q|q
   ·exact q
   ·rw[q,ki cS];exact iG _
  refine⟨λa ha=>?_,λa ha=>?_,λi a hi ha j hj=>?_⟩
  ·rcases vY ha with q|q
   ·obtain⟨b,hb,rfl⟩:=ju.1 q;have:=R.len _ (pI b hb);rw[vy (this.trans O.len.symm)];exact this
   ·rw[q];exact O.len
  ·rcases vY ha with q|q
   ·obtain⟨b,hb,rfl⟩:=ju.1 q;intro x hx;unfold jb at hx;obtain⟨i,h1,rfl⟩:=A0.1 hx;rw[ab5];exact ahP _ _ _
   ·rw[q];exact O.ok
  ·simp only[dE,ab7] at hi;have bO:st.2.length≠i:=(by omega);rw[IW bO,ev] at ha;have aB:i<st.1.length:=by
    rcases dV i st.1.length with q|q
    ·exact q
    ·rw[tS (by simpa using q)] at ha;cases ha
   rw[aT (by simpa using aB),eW,dM] at ha;have hb:∃b,(st.1.set k (st.1.getD st.2.length []))[i]'(by simpa using aB)=b/\b.length=w/\(∀x∈b,okF x)/\∀j,j<c->ak b j=0:=by
    refine⟨_,rfl,R.len _ (pI _ (iG _)),R.ok _ (pI _ (iG _)),λj hj=>?_⟩;rw[FJ];split
    ·rw[ki cS];exact R.zero st.2.length _ (aM _) (aT cS) j hj
    ·exact R.zero i _ ah (aT aB) j hj
   obtain⟨b,e,b1,b2,b3⟩:=hb;rw[e] at ha;subst ha;rw[wj (b1.trans O.len.symm) ah];rcases dV j c with q|q
   ·rw[b3 j q,O.zero j q,NR AD]
   ·have:j=c:=(by omega);subst this;rw[O.one,JE,IP,Sl];rfl
end
def an2{t}{w many}(hl:∀a∈t,a.length=w)(ho:∀a∈t,∀x∈a,okF x)(hm:many<=w):EP t many=jd t many:=by
 unfold EP jd;have key:∀n,n<=w->(bR n).foldl xA (t,[])=(bR n).foldl nE (t,[])/\v9 w n ((bR n).foldl nE (t,[])):=by
  intro n
  induction n with
  |zero=>intro _;exact⟨rfl,hl,ho,λ_ _ _ _ j hj=>by omega⟩|succ n ih=>intro hn;obtain⟨h1,h2⟩:=ih ah;rw[nH,oM,oM,h1];simp only[uJ,FG];exact⟨aaI h2 ah,LC h2 ah⟩
 exact(key many hm).1
end Go.NT
end
section
namespace Go.NT
def cJ:List Int->Int
 | []=>0
 |x::l=>x+cJ l
def as9(l m):cJ (l++m)=cJ l+cJ m:=by
 induction l with
 |nil=>simp[cJ]|cons x l ih=>simp only[lN,cJ,ih];omega
def dot(y row:List Int):Int:=cJ ((bR y.length).map λi=>ak y i * ak row i)
def res(y row:List Int):Int:=dot y row - ak row y.length
def Sat(y row:List Int):Prop:=Qi∣res y row
def atg{f g q}{n}:∀{l:List Nat},(∀i∈l,Qi∣f i - (g i - n * q i))->Qi∣cJ (l.map f) - (cJ (l.map g) - n * cJ (l.map q)):=by
 intro l
 induction l with
 |nil=>intro _;simp[cJ]|cons x l ih=>
  intro h;have h1:=h x gj;have h2:=ih λi hi=>h i (fN _ hi);simp only[eK,cJ,Mi];have e:f x+cJ (l.map f) - (g x+cJ (l.map g) - (n * q x+n * cJ (l.map q)))=(f x - (g x - n * q x))+(cJ (l.map f) - (cJ (l.map g) - n * cJ (l.map q))):=by omega
  rw[e];exact xK h1 h2
def Vb(n x y):Qi∣jT n x y - (x - n * y):=by rw[JE];have:=abF (x - n * y) Qi;refine⟨-((x - n * y)/Qi),?_⟩;rw[Int.mul_neg];omega
def Zt{n}{y a b}(hl:a.length=b.length)(hy:y.length<a.length):Qi∣res y (jb n a b) - (res y a - n * res y b):=by
 have h1:Qi∣dot y (jb n a b) - (dot y a - n * dot y b):=by
  unfold dot;refine atg λi hi=>?_;have hi:=gB.1 hi;rw[wj hl ah];obtain⟨c,hc⟩:=Vb n (ak a i) (ak b i);refine⟨ak y i * c,?_⟩;have:ak y i * jT n (ak a i) (ak b i) - (ak y i * ak a i - n * (ak y i * ak b i))=ak y i * (jT n (ak a i) (ak b i) - (ak a i - n * ak b i)):=by rw[zx,zx,C6 n]
  rw[this,hc,C6]
 have h2:Qi∣ak (jb n a b) y.length - (ak a y.length - n * ak b y.length):=by rw[wj hl hy];exact Vb _ _ _
 unfold res;have e:dot y (jb n a b) - ak (jb n a b) y.length - (dot y a - ak a y.length - n * (dot y b - ak b y.length))=(dot y (jb n a b) - (dot y a - n * dot y b)) - (ak (jb n a b) y.length - (ak a y.length - n * ak b y.length)):=by rw[zx];omega
 rw[e];exact Sb h1 h2
def arz{n}{y a b}(hl:a.length=b.length)(hy:y.length<a.length)(h1:Sat y (jb n a b))(h2:Sat y b):Sat y a:=by
 unfold Sat at *
 have h3:=Zt (n:=n) hl hy;have e:res y a=res y (jb n a b) - (res y (jb n a b) - (res y a - n * res y b))+n * res y b:=by omega
 rw[e];exact xK (Sb h1 h3) (Fy h2)
def aof(y)(n):res y (bg n 0)=0:=by
 have hz:∀i,ak (bg n (0:Int)) i=0:=λi=>by unfold ak;rw[dS,Mo];split<;>rfl
 unfold res dot;simp only[hz,Mj];generalize bR y.length=l
 induction l with
 |nil=>rfl|cons x l ih=>simp only[eK,cJ];omega
def arA{y a}{x}(hy:y.length<a.length)(hx:okF x)(h0:x≠0)(h:Sat y (scaleB a (eE x))):Sat y a:=by
 unfold Sat scaleB at *
 have h1:=Zt (n:= -(eE x)) (y:=y) (a:=bg a.length (0:Int)) (b:=a) bH (by simpa using hy);rw[aof] at h1;have h2:Qi∣eE x * res y a:=by
  have e:eE x * res y a=res y (jb (-(eE x)) (bg a.length 0) a) - (res y (jb (-(eE x)) (bg a.length 0) a) - (0 - -(eE x) * res y a)):=by rw[abK];omega
  rw[e];exact Sb h h1
 have h3:Qi∣x * eE x - 1:=by have:=NV hx h0;rw[sd] at this;have h4:=abF (x * eE x) Qi;rw[this] at h4;exact⟨x * eE x/Qi,by omega⟩
 obtain⟨c,hc⟩:=h2;obtain⟨d,hd⟩:=h3;refine⟨x * c - d * res y a,?_⟩;have e1:x * (eE x * res y a)=x * (Qi * c):=by rw[hc]
 have e2:(x * eE x - 1) * res y a=Qi * d * res y a:=by rw[hd]
 rw[<-xL] at e1;rw[Ml,FA,e1] at e2;rw[zx,<-xL Qi d,C6 Qi x];omega
section
variable {w c:Nat} {st:List (List Int) × List Nat}
def asV{y:List Int}(R:v9 w c st)(hc:c<w)(hy:y.length<w)(h:∀a∈(nE st c).1,Sat y a):∀a∈st.1,Sat y a:=by
 unfold nE at h;cases hf:ov st.1 st.2.length c with
 |none=>rw[hf] at h;exact h|some k=>
  rw[hf] at h;obtain⟨k1,k2,k3⟩:=Bu hf;rw[ki k1] at k3;simp only[ki k1] at h;have hk:=R.len _ (iG k1);have Al:=R.ok _ (iG k1);have vj:=R.zero k _ k2 (aT k1);have O:=KK hk hc Al vj k3;have cS:st.2.length<st.1.length:=by omega
  have um:=Lv (n:=eE (ak st.1[k] c)) (ah:c<=st.1[k].length) vj;rw[ki cS] at h;have ho:Sat y (scaleB st.1[k] (eE (ak st.1[k] c))):=h _ (A0.2 ⟨st.2.length,by simpa using cS,by rw[Mr]⟩);have ny:∀i (hi:i<st.1.length),i≠st.2.length->Sat y ((st.1.set k st.1[st.2.length])[i]'(by simpa using hi)):=λi hi bO=>by
   have hm:=h ((((st.1.set k st.1[st.2.length]).map λa=>jb (ak a c) a (scaleB st.1[k] (eE (ak st.1[k] c)))).set st.2.length (scaleB st.1[k] (eE (ak st.1[k] c))))[i]'(by simpa using hi)) (iG _);rw[Mq (λq=>bO q.symm),qN] at hm;have nh:((st.1.set k st.1[st.2.length])[i]'(by simpa using hi)).length=w:=by
    rw[FJ];split
    ·exact R.len _ (iG _)
    ·exact R.len _ (iG _)
   refine arz ?_ (by rw[nh];exact hy) hm ho;rw[nh,<-um,O.len]
  intro a ha;obtain⟨i,hi,rfl⟩:=A0.1 ha;by_cases e1:i=k
  ·subst e1;exact arA ah (p9 Al c) k3 ho
  ·by_cases e2:i=st.2.length
   ·subst e2;have:=ny k k1 (λq=>e1 q.symm);rw[Mr] at this;exact this
   ·have:=ny i hi e2;rw[Mq (λq=>e1 q.symm)] at this;exact this
end
end Go.NT
end
section
namespace Go.NT
structure Dh(c:Nat)(st:List (List Int) × List Nat):Prop where
 lt:∀k p:Nat,st.2[k]?=aa p->p<c
 inc:∀j k p q:Nat,j<k->st.2[j]?=aa p->st.2[k]?=aa q->p<q
 val:∀k p:Nat,st.2[k]?=aa p->∀(i:Nat) (a:List Int),st.1[i]?=aa a->ak a p=if i=k then 1 else 0
 len:st.2.length<=st.1.length
section
variable {w c:Nat} {st:List (List Int) × List Nat}
def asR(R:v9 w c st)(V:Dh c st)(hc:c<w):Dh (c+1) (nE st c):=by
 unfold nE;cases hf:ov st.1 st.2.length c with
 |none=>exact⟨λk p h=>by have:=V.lt k p h;omega,V.inc,V.val,V.len⟩
 |some k=>
  obtain⟨k1,k2,k3⟩:=Bu hf;rw[ki k1] at k3;have hk:=R.len _ (iG k1);have Al:=R.ok _ (iG k1);have vj:=R.zero k _ k2 (aT k1);simp only[ki k1];have O:=KK hk hc Al vj k3;have cS:st.2.length<st.1.length:=by omega
  rw[<-Lv ah vj,ki cS];generalize iD c st.1[k] (eE (ak st.1[k] c))=own at *
  refine⟨λj p h=>?_,λj l p q lF hp hq=>?_,λj p hp i a ha=>?_,?_⟩
  ·rcases BA h with h|⟨-,rfl⟩
   ·have:=V.lt j p h;omega
   ·omega
  ·rcases BA hq with hq|⟨rfl,rfl⟩
   ·rcases BA hp with hp|⟨rfl,-⟩
    ·exact V.inc j l p q lF hp hq
    ·have:=(aV.1 hq).1;omega
   ·rcases BA hp with hp|⟨rfl,-⟩
    ·exact V.lt j p hp
    ·omega
  ·-- the row at i
   have cK:i<st.1.length:=(by have:=(aV.1 ha).1;simpa using this);by_cases hi:i=st.2.length
   ·subst hi;rw[aT (by simpa using cS),Mr,dM] at ha;subst ha;rcases BA hp with hp|⟨rfl,rfl⟩
    ·have h1:=V.lt j p hp;have h2:=(aV.1 hp).1;rw[O.zero p h1,aH ah]
    ·rw[O.one,aG rfl]
   ·rw[IW (λq=>hi q.symm),ev,aT (by simpa using cK),eW,dM] at ha;have hb:∃b,(st.1.set k st.1[st.2.length])[i]'(by simpa using cK)=b/\b.length=w/\(∀x∈b,okF x)/\∀j p,st.2[j]?=aa p->ak b p=if i=j then 1 else 0:=by
     refine⟨_,rfl,?_,?_,λj p hp=>?_⟩
     ·rw[FJ];split<;>exact R.len _ (iG _)
     ·rw[FJ];split<;>exact R.ok _ (iG _)
     ·rw[FJ];have lF:=(aV.1 hp).1;split
      ·rename_i e;rw[V.val j p hp st.2.length _ (aT cS),aH ah,aH ah]
      ·exact V.val j p hp i _ (aT cK)
    obtain⟨b,e,b1,b2,b3⟩:=hb;rw[e] at ha;subst ha;have hpw:p<w:=by
     rcases BA hp with h|⟨-,rfl⟩
     ·have:=V.lt j p h;omega
     ·exact hc
    rw[wj (b1.trans O.len.symm) ah];rcases BA hp with hp|⟨rfl,rfl⟩
    ·rw[O.zero p (V.lt j p hp),NR (p9 b2 p)];exact b3 j p hp
    ·rw[O.one,JE,IP,Sl,aH hi];rfl
  ·simp only[dE,ab7,mS,bE];omega
where
 BA {l:List Nat} {x i y:Nat} (h:(l++[x])[i]?=aa y):l[i]?=aa y∨(i=l.length/\y=x):=by
  rcases Nat.lt_trichotomy i l.length with aB|mi|GG
  ·rw[rK aB] at h;exact .inl h
  ·subst mi;simp at h;exact .inr ⟨rfl,h.symm⟩
  ·rw[tS (by simp;omega)] at h;cases h
end
def HO{t}{w many}(hl:∀a∈t,a.length=w)(ho:∀a∈t,∀x∈a,okF x)(hm:many<=w):v9 w many (jd t many)/\Dh many (jd t many):=by
 unfold jd
 induction many with
 |zero=>exact⟨⟨hl,ho,λ_ _ _ _ j hj=>by omega⟩,⟨λk p h=>by simp at h,λj k p q _ h=>by simp at h,λk p h=>by simp at h,cG _⟩⟩|succ n ih=>obtain⟨h1,h2⟩:=ih ah;rw[nH,oM];simp only[uJ,FG];exact⟨LC h1 ah,asR h1 h2 ah⟩
def an3{t}{w many}{y}(hl:∀a∈t,a.length=w)(ho:∀a∈t,∀x∈a,okF x)(hm:many<=w)(hy:y.length<w)(h:∀a∈(jd t many).1,Sat y a):∀a∈t,Sat y a:=by
 induction many with
 |zero=>exact h|succ n ih=>
  refine ih ah ?_;have h1:=(HO hl ho (ah:n<=w)).1;have e:jd t (n+1)=nE (jd t n) n:=by unfold jd;rw[nH,oM];rfl
  rw[e] at h;exact asV h1 ah hy h
def ph(st:List (List Int) × List Nat)(n:Nat):List Int:=st.2.zipIdx.foldl (λy p=>y.set p.1 (ak (st.1.getD p.2 []) n)) (bg n 0)
def Jg{l}{i j}{x}(hi:i<l.length):ak (l.set i x) j=if j=i then x else ak l j:=by
 unfold ak;simp only[dS,mA];by_cases h:i=j
 ·subst h;simp[hi]
 ·rw[aH h,aH (λq=>h q.symm)]
def Gj(f:Nat × Nat->Int):∀(l:List (Nat × Nat)) (y:List Int),(l.foldl (λy p=>y.set p.1 (f p)) y).length=y.length:=by
 intro l
 induction l with
 |nil=>intro y;rfl|cons p l ih=>intro y;rw[uJ,ih];simp
def JG(f:Nat × Nat->Int){i}:∀(l:List (Nat × Nat)) (y:List Int),(∀p∈l,p.1≠i)->ak (l.foldl (λy p=>y.set p.1 (f p)) y) i=ak y i:=by
 intro l
 induction l with
 |nil=>intro y _;rfl|cons p l ih=>intro y h;rw[uJ,ih _ λq hq=>h q (fN _ hq)];have:=h p gj;unfold ak;simp only[dS];rw[IW this]
def Lx(st)(n):(ph st n).length=n:=by unfold ph;rw[Gj (λp=>ak (st.1.getD p.2 []) n)];simp
def asj{st}{n i}(h:i∉st.2):ak (ph st n) i=0:=by
 unfold ph;rw[JG (λp=>ak (st.1.getD p.2 []) n) _ _ λp hp q=>?_]
 ·unfold ak;rw[dS,Mo];split<;>rfl
 ·have:=List.fst_mem_of_mem_zipIdx hp;rw[q] at this;exact h this
def asm{c}{st}{n k p}(V:Dh c st)(hn:c<=n)(h:st.2[k]?=aa p):ak (ph st n) p=ak (st.1.getD k []) n:=by
 unfold ph;obtain⟨hk,hp⟩:=aV.1 h;have hz:st.2.zipIdx=(st.2.zipIdx.take k)++(p,k)::(st.2.zipIdx.drop (k+1)):=by
  have D3:k<st.2.zipIdx.length:=by simpa using hk
  have:=(xR k st.2.zipIdx).symm;rw[xP D3] at this;rw[ab4,hp] at this;simpa using this
 rw[hz,oM,uJ,JG (λp=>ak (st.1.getD p.2 []) n) _ _ λq hq e=>?_]
 ·rw[Jg,aG rfl];rw[Gj (λp=>ak (st.1.getD p.2 []) n)];have:=V.lt k p h;simp;omega
 ·obtain⟨i,hi,rfl⟩:=A0.1 hq;rw[Sv,ab4] at e;simp only at e;have cK:k+1+i<st.2.length:=by simp at hi;omega
  have:=V.inc k (k+1+i) p _ ah h (aT cK);omega
def aaX{f}{p}:∀n,p<n->(∀i,i<n->i≠p->f i=0)->cJ ((List.range n).map f)=f p:=by
 intro n
 induction n with
 |zero=>intro h;omega|succ n ih=>
  intro hp h;rw[nH,mT,as9];simp only[eK,uK,cJ];rcases dV p n with q|q
  ·rw[ih q λi hi=>h i ah,h n ah ah];omega
  ·have:p=n:=(by omega);subst this;have hz:cJ ((bR p).map f)=0:=by
    have:∀l:List Nat,(∀i∈l,f i=0)->cJ (l.map f)=0:=by
     intro l
     induction l with
     |nil=>intro _;rfl|cons x l ih2=>intro hl;simp only[eK,cJ];rw[hl x gj,ih2 λi hi=>hl i (fN _ hi)];rfl
    exact this _ λi hi=>h i (by have:=gB.1 hi;omega) (by have:=gB.1 hi;omega)
   rw[hz];omega
def asl{t}{n}(hl:∀a∈t,a.length=n+1)(ho:∀a∈t,∀x∈a,okF x)(OH:∀i a,(jd t n).2.length<=i->(jd t n).1[i]?=aa a->ak a n=0):
 ∀a∈t,Sat (ph (jd t n) n) a:=by
 obtain⟨R,V⟩:=HO hl ho (ah:n<=n+1);refine an3 hl ho (ah:n<=n+1) (by rw[Lx];omega) λa ha=>?_;obtain⟨k,hk,rfl⟩:=A0.1 ha;have BV:=aT hk;unfold Sat res dot;rw[Lx];rcases dV k (jd t n).2.length with q|q
 ·have hp:=aT q;have aB:=V.lt k _ hp;rw[aaX (p:=(jd t n).2[k]) n aB,asm V (aM _) hp,V.val k _ hp k _ BV,aG rfl,ki hk,IP,Sl]
  ·exact abE _
  ·intro i hi bO;by_cases hm:i∈(jd t n).2
   ·obtain⟨j,hj,rfl⟩:=A0.1 hm;rw[V.val j _ (aT hj) k _ BV,aH (λe=>bO (by subst e;rfl)),Mj]
   ·rw[asj hm,IT]
 ·rw[OH k _ q BV];have hz:∀l:List Nat,(∀i∈l,i<n)->cJ (l.map λi=>ak (ph (jd t n) n) i * ak (jd t n).1[k] i)=0:=by
   intro l
   induction l with
   |nil=>intro _;rfl|cons x l ih=>intro h;simp only[eK,cJ];rw[R.zero k _ q BV x (h x gj),Mj,ih λi hi=>h i (fN _ hi)];rfl
  rw[hz _ λi hi=>gB.1 hi];exact abE _
end Go.NT
end
section
namespace Go.NT
abbrev eQ:=BitVec 32
def dL(x:eQ)(n:Nat):eQ:=(x>>>n)|||(x<<<(32 - n))
def Ev:List Nat:=[
 0x428a2f98,0x71374491,0xb5c0fbcf,0xe9b5dba5,0x3956c25b,0x59f111f1,0x923f82a4,0xab1c5ed5,
 0xd807aa98,0x12835b01,0x243185be,0x550c7dc3,0x72be5d74,0x80deb1fe,0x9bdc06a7,0xc19bf174,
 0xe49b69c1,0xefbe4786,0x0fc19dc6,0x240ca1cc,0x2de92c6f,0x4a7484aa,0x5cb0a9dc,0x76f988da,
 0x983e5152,0xa831c66d,0xb00327c8,0xbf597fc7,0xc6e00bf3,0xd5a79147,0x06ca6351,0x14292967,
 0x27b70a85,0x2e1b2138,0x4d2c6dfc,0x53380d13,0x650a7354,0x766a0abb,0x81c2c92e,0x92722c85,
 0xa2bfe8a1,0xa81a664b,0xc24b8b70,0xc76c51a3,0xd192e819,0xd6990624,0xf40e3585,0x106aa070,
 0x19a4c116,0x1e376c08,0x2748774c,0x34b0bcb5,0x391c0cb3,0x4ed8aa4a,0x5b9cca4f,0x682e6ff3,
 0x748f82ee,0x78a5636f,0x84c87814,0x8cc70208,0x90befffa,0xa4506ceb,0xbef9a3f7,0xc67178f2]
def yQ(t:Nat):eQ:=BitVec.ofNat 32 (Ev.getD t 0)
def start:List eQ:=[0x6a09e667#32,0xbb67ae85#32,0x3c6ef372#32,0xa54ff53a#32,0x510e527f#32,0x9b05688c#32,0x1f83d9ab#32,0x5be0cd19#32]
def dz(b:List UInt8)(i:Nat):UInt8:=b.getD i 0
def df(w:List eQ)(i:Nat):eQ:=w.getD i 0#32
def pV(b:List UInt8)(i:Nat):eQ:=BitVec.ofNat 32 (((dz b i).toNat * 256+(dz b (i+1)).toNat) * 256 * 256+(dz b (i+2)).toNat * 256+(dz b (i+3)).toNat)
def EC(w:List eQ)(t:Nat):eQ:=
 df w (t - 16)+(dL (df w (t - 15)) 7^^^dL (df w (t - 15)) 18^^^(df w (t - 15))>>>3)+df w (t - 7)+(dL (df w (t - 2)) 17^^^dL (df w (t - 2)) 19^^^(df w (t - 2))>>>10)
def iE(b:List UInt8):Nat->List eQ
 |0=>[]
 |n+1=>iE b n++[if n<16 then pV b (4 * n) else EC (iE b n) n]
def HS(w:List eQ)(v:List eQ)(t:Nat):List eQ:=
 let e:=df v 4
 let a:=df v 0
 let p:=df v 7+(dL e 6^^^dL e 11^^^dL e 25)+((e&&&df v 5)^^^(~~~e&&&df v 6))+yQ t+df w t
 let q:=(dL a 2^^^dL a 13^^^dL a 22)+((a&&&df v 1)^^^(a&&&df v 2)^^^(df v 1&&&df v 2))
 [p+q,a,df v 1,df v 2,df v 3+p,e,df v 5,df v 6]
def wm(s:List eQ)(b:List UInt8):List eQ:=
 let w:=iE b 64
 let v:=(bR 64).foldl (HS w) s
 FO (·+·) s v
def oJ(n:Nat):Nat:=(119 - n%64)%64
def oD(n:Nat):List UInt8:=(bR 8).map λi=>UInt8.ofNat (n * 8/2^(8 * (7 - i)))
def qD(b:List UInt8):List UInt8:=b++0x80::bg (oJ b.length) 0++oD b.length
def gJ:Nat->List eQ->List UInt8->List eQ
 |0,s,_=>s
 |n+1,s,b=>gJ n (wm s (b.take 64)) (b.drop 64)
def jE(s:List eQ):List UInt8:=s.flatMap λx=>[UInt8.ofNat (x.toNat/16777216),UInt8.ofNat (x.toNat/65536),UInt8.ofNat (x.toNat/256),UInt8.ofNat x.toNat]
def eV(b:List UInt8):List UInt8:=jE (gJ ((qD b).length/64) start (qD b))
def gi(bu b:List UInt8):List UInt8:=eV (eV bu++b)
def afG(e f g:eQ):g^^^(e&&&(f^^^g))=(e&&&f)^^^(~~~e&&&g):=by apply BitVec.eq_of_getLsbD_eq;intro i hi;simp only[BitVec.getLsbD_xor,BitVec.getLsbD_and,BitVec.getLsbD_not,hi,decide_true,oc];cases e.getLsbD i<;>cases f.getLsbD i<;>cases g.getLsbD i<;>rfl
def alg(a b c:eQ):(a&&&b)|||(c&&&(a|||b))=(a&&&b)^^^(a&&&c)^^^(b&&&c):=by apply BitVec.eq_of_getLsbD_eq;intro i hi;simp only[BitVec.getLsbD_xor,BitVec.getLsbD_and,BitVec.getLsbD_or];cases a.getLsbD i<;>cases b.getLsbD i<;>cases c.getLsbD i<;>rfl
end Go.NT
end
section
namespace Go.NT
inductive Vl where
 |int (n:Int)
 |text (s:List UInt8)
 |list (l:List Vl)
def fL:Nat->Nat->List UInt8
 |0,u=>[UInt8.ofNat u]
 |k+1,u=>if u<128 then [UInt8.ofNat u] else UInt8.ofNat (u%128+128)::fL k (u/128)
def lK(n:Int):Nat:=if 0<=n then 2 * n.toNat else 2 * (-(n+1)).toNat+1
mutual
def dI:Vl->List UInt8
 | .int n=>1::fL 9 (lK n)
 | .text s=>2::(fL 9 s.length++s)
 | .list l=>3::(fL 9 l.length++iY l)
def iY:List Vl->List UInt8
 | []=>[]
 |v::l=>dI v++iY l
end
mutual
def gq:Vl->Nat
 | .list l=>hJ l+1
 |_=>0
def hJ:List Vl->Nat
 | []=>0
 |v::l=>max (gq v) (hJ l)
end
def UM(l m):iY (l++m)=iY l++iY m:=by
 induction l with
 |nil=>simp[iY]|cons v l ih=>simp only[lN,iY,ih,sR]
def Yu{k u}(h:128<=u):fL (k+1) u=UInt8.ofNat (u%128+128)::fL k (u/128):=by rw[fL,aH ah]
def Yt{k u}(h:u<128):fL k u=[UInt8.ofNat u]:=by
 cases k with|zero=>rfl|succ k=>rw[fL,aG h]
end Go.NT
end
section
namespace Go.NT
def cU(n:Int):Bool:=decide (0<=n)&&decide (n<Qi)
def de(ae:List (List Int))(ag:List Int):Int:=
 if decide (64<ae.length)||ae.any (λr=>decide (64<r.length)) then 2
 else if ae.length≠ag.length then 230
 else if (bR ae.length).all λi=> !(ae.getD i []).isEmpty&&decide ((ae.getD i []).length=(ae.getD 0 []).length)&&(decide (0<=ak ag i)&&decide (ak ag i<=63))&&(ae.getD i []).all cU then 0
 else 230
def b9(ae:List (List Int)):Nat:=if ae.length=0 then 1 else (ae.getD 0 []).length
def fR(n:Nat):List Int:=1::bg (n - 1) 0
def gx:Int->List Int->Bool
 |_,[]=>ai
 |cW,n::l=>decide (cW<n)&&decide (n<=63)&&gx n l
def ez(ag aA:List Int):List Nat:=(bR ag.length).filter λi=>aA.contains (ak ag i)
def fS(ae:List (List Int))(target:List Int):List (List Int):=(bR target.length).map λk=>ae.map (λr=>ak r k)++[ak target k]
def pG(ae:List (List Int))(target:List Int):Option (List Int):=
 let st:=jd (fS ae target) ae.length
 if (st.1.drop st.2.length).all (λa=>decide (ak a ae.length=0)) then aa (ph st ae.length) else ar
def rC(n:Nat)(at_:List Nat)(l:List Int):List Int:=at_.zipIdx.foldl (λy p=>y.set p.1 (ak l p.2)) (bg n 0)
def gC(ae:List (List Int))(ag aA:List Int):List Int × Bool × Int:=
 if de ae ag≠0 then ([],az,de ae ag)
 else if !gx (-1) aA then ([],az,1)
 else match pG ((ez ag aA).map λi=>ae.getD i []) (fR (b9 ae)) with
  |none=>([],az,0)
  |some l=>(rC ae.length (ez ag aA) l,ai,0)
structure Pr where
 au:Int
 no:Int
 d:Int
 e:Int
def bN(x:Int):Bool:=decide (1<=x)&&elem x.toNat
def Pr.val(p:Pr):Vl:=.list [.int p.au,.int p.no,.int p.d,.int p.e]
def tH(l:List Pr):Vl:=.list (l.map Pr.val)
def mK(b:List UInt8):Nat:=((b.take 8).foldl (λn c=>n * 256+c.toNat) 0%9223372036854775808)%Q
def tg(bu:List UInt8)(v:Vl):Nat:=mK (gi bu (dI v))
def CA:List UInt8:=[98,105,110,100]
def xu:List UInt8:=[115,105,103,110]
def eY(c0:Int)(text:List UInt8)(l:List Pr)(au:Int):Nat:=tg CA (.list [.int c0,.text text,tH l,.int au])
def iL(c0:Int)(text:List UInt8)(l:List Pr)(p:Pr):Nat:=p.d.toNat * sL p.e.toNat (eY c0 text l p.au)%P
def gV(c0:Int)(text:List UInt8)(l:List Pr):Nat:=l.foldl (λx p=>x * iL c0 text l p%P) 1
def tK(point key:Int)(text:List UInt8):Nat:=tg xu (.list [.int point,.int key,.text text])
def fQ:Int->List Pr->Bool
 |_,[]=>ai
 |cW,x::l=>decide (cW<x.au)&&decide (x.au<64)&&decide (0<=x.no)&&decide (x.no<4096)&&bN x.d&&bN x.e&&fQ x.au l
def dA(ae:List (List Int))(ag:List Int)(epoch:Int)(aj:List Int)(text:List UInt8)(l:List Pr):Int:=
 if de ae ag≠0 then de ae ag
 else if !(decide (0<=epoch)&&decide (epoch<=64)&&decide (aj.length=b9 ae)&&aj.all bN) then 380
 else if 65536<text.length then 2
 else if 64<l.length then 420
 else if !fQ (-1) l then 420
 else match gC ae ag (l.map Pr.au) with
  |(_,ok,e)=>if e≠0∨ok=az∨l.length=0 then 420 else 0
end Go.NT
end
section
namespace Go.NT
def bC(x:Nat)(n:Int):Nat:=sL x (fmod n).toNat
def NS(n):(fmod n).toNat<Q:=by have:=DN n;obtain⟨h1,h2⟩:=this;rw[Bb] at h2;omega
def yX(x)(n):bC x n=x^(fmod n).toNat%P:=Qv (pk (NS n) aO)
def Y2{x}(hx:elem x=ai)(n:Nat):bC x (n:Int)=x^n%P:=by
 have e:(fmod (n:Int)).toNat=n%Q:=by unfold fmod;rw[Bb,<-Si,dK]
 rw[yX,e,ani hx]
def anb(x)(n):bC x (fmod n)=bC x n:=by unfold bC;rw[By (DN n)]
def vI{x}(hx:elem x=ai)(n):elem (bC x n)=ai:=by rw[yX];exact ag6 hx _
def HI{x}{a b}(h:a%Qi=b%Qi):bC x a=bC x b:=by unfold bC fmod;rw[h]
def Bz(n):((fmod n).toNat:Int)=fmod n:=by have:=(DN n).1;omega
def EL{x}(hx:elem x=ai)(a b):bC x (a+b)=bC x a * bC x b%P:=by
 have h:(a+b)%Qi=(((fmod a).toNat+(fmod b).toNat:Nat):Int)%Qi:=by rw[abJ,Bz,Bz,abD];rfl
 rw[HI h,Y2 hx,acE,sS,<-yX,<-yX]
def EM{x}(hx:elem x=ai)(a b):bC x (a * b)=bC (bC x a) b:=by
 have h:(a * b)%Qi=(((fmod a).toNat * (fmod b).toNat:Nat):Int)%Qi:=by rw[xM,Bz,Bz,AU];rfl
 rw[HI h,Y2 hx,FY,yX (bC x a) b,yX x a,<-FX]
def Y5(x):bC x 0=1:=by rw[yX];rfl
def anf{x}(hx:elem x=ai):bC x 1=x:=by rw[yX];show x^1%P=x;rw[Nat.pow_one,nI (elem_iff.1 hx).2.1]
def ane{x}(hx:elem x=ai)(a):bC x a * bC x (-a)%P=1:=by rw[<-EL hx,Int.add_right_neg,Y5]
end Go.NT
end
section
namespace Go.Proofs.YtnfciiiohoafaaaGreatDoor
open Go.AE Go.RowKit
def Rw:List AV:=NT.start.map aU
def HC:List AV:=NT.Ev.map λ(n:Nat)=>AV.v (.int .u32 (n:Int))
def Gt:Nat->Option (List AV):=λg=>if g=0 then aa Rw else if g=1 then aa HC else if g=1022017∨g=1022035∨g=1023037∨g=1023048∨g=1023063∨g=1023125∨g=1094104 then aa [] else ar
def aN:bm->Option (List AV->ao->Option (AV × ao)):=λ_=>ar
noncomputable abbrev W:=whole aq Gt aN
structure al(p:Prop):Prop where
 out:p
def im(n:Int):AV:=.v (.int .i64 n)
def yL(n:Int):List AV:=[im n]
def ints(l:List Int):List (List AV):=l.map yL
def dp(l):(ints l).length=l.length:=by simp[ints]
def Xx(l)(i:Nat):(ints l)[i]?=(l[i]?).map yL:=by simp[ints]
def i64(n:Int):Prop:= -9223372036854775808<=n/\n<=9223372036854775807
def fa:gU aq 3=aa az:=by kernel_rfl
def fH:dC aq 3=aa 1:=by kernel_rfl
def XN{h}{l}{i}{x}(hx:l[i]?=aa x):aI aq Gt h 3 (.elem 1 (ints l) i 0)=aa (im x):=by
 have hr:(ints l)[i]?=aa (yL x):=by rw[Xx,hx];rfl
 rw[rm fa hr];rfl
def adJ{h}{d}{ts}{ty:Nat}{s x}(bO:1000 * ty+d≠22017/\1000 * ty+d≠22035/\1000 * ty+d≠23037/\1000 * ty+d≠23048/\1000 * ty+d≠23063/\1000 * ty+d≠23125/\1000 * ty+d≠94104):rV aq Gt (aa d) h .append ts ty [s,x]=gP aq h ts s x:=by refine adL ?_;unfold Iz Gt;rw[aH ah,aH ah,aH (by simp only[I6];omega)];rfl
def adK{h}{d}{ts}{ty:Nat}{s x}(hy:1000 * ty+d=22017∨1000 * ty+d=22035∨1000 * ty+d=23037∨1000 * ty+d=23048∨1000 * ty+d=23063∨1000 * ty+d=23125∨1000 * ty+d=94104):rV aq Gt (aa d) h .append ts ty [s,x]=rF aq h ts s x:=by refine adM ?_;unfold Iz Gt;rw[aH ah,aH ah,aG (by simp only[I6];omega)];rfl
def aQ{α:Type}[BEq α][ReflBEq α](a:α):(a==a)=ai:=beq_self_eq_true a
def aw{p:Prop}(h:p:=by kernel_rfl):p:=h
set_option linter.defProp false in
def gW:=av goS (av goT (av goH (av goU (av @adJ (av @adK (av @HQ.eq_1 (av @vM.eq_1 (av @vM.eq_2 (av @vM.eq_3 (av @dP.eq_1 (av @dP.eq_2 (av @dP.eq_3 (av @dP.eq_4 (av @dP.eq_5 (av @dP.eq_6 (av @dP.eq_7 (av @dP.eq_8 (av @dP.eq_9 (av @dP.eq_10 (av @dP.eq_11 (av @dP.eq_12 (av @dP.eq_13 (av @dP.eq_14 (av @dP.eq_15 (av @dP.eq_16 (av @dP.eq_17 (av @dP.eq_18 (av @dP.eq_19 (av @dP.eq_20 (av @dP.eq_21 (av @dP.eq_22 @dP.eq_23)))))))))))))))))))))))))))))))
def gS{p:Prop}(h:p:=by simp only[gW,reduceIte,Nat.reduceEqDiff,aQ]):p:=h
def gR{p:Prop}(h:p:=by simp only[gW,reduceIte,Nat.reduceEqDiff,aQ]<;>rfl):p:=h
def gA{p:Prop}(h:p:=by simp only[gW,reduceIte,Nat.reduceEqDiff,aQ]<;>assumption):p:=h
def yh{p q:Prop}(x:q)(f:al q->p:=by intro h;(repeat' (first|simp(maxSteps:=9999999) (disch:=first|exact dZ|fail) only[gW,reduceIte,Nat.reduceEqDiff,aQ, *,-h]|refine dX ?_ ?_<;>(intro _;try omega)));exact h.out;fail_if_success refine ?_):p:=f ⟨x⟩
def bI{a0:Prop}{p q:Prop}(y0:a0)(x:q)(f:a0->al q->p:=by intro y0 h;(repeat' (first|simp(maxSteps:=9999999) (disch:=first|exact dZ|fail) only[gW,reduceIte,Nat.reduceEqDiff,aQ, *,-h]|refine dX ?_ ?_<;>(intro _;try omega)));exact h.out;fail_if_success refine ?_):p:=f y0 ⟨x⟩
def lP{a0:Prop}{p:Prop}(y0:a0)(f:a0->p:=by intro y0;(repeat' (first|simp(maxSteps:=9999999) (disch:=first|exact dZ|fail) only[gW,reduceIte,Nat.reduceEqDiff,aQ, *]|refine dX ?_ ?_<;>(intro _;try omega)));fail_if_success refine ?_):p:=f y0
def bV{a0 a1:Prop}{p q:Prop}(y0:a0)(y1:a1)(x:q)(f:a0->a1->al q->p:=by intro y0 y1 h;(repeat' (first|simp(maxSteps:=9999999) (disch:=first|exact dZ|fail) only[gW,reduceIte,Nat.reduceEqDiff,aQ, *,-h]|refine dX ?_ ?_<;>(intro _;try omega)));exact h.out;fail_if_success refine ?_):p:=f y0 y1 ⟨x⟩
def jI{a0 a1:Prop}{p:Prop}(y0:a0)(y1:a1)(f:a0->a1->p:=by intro y0 y1;(repeat' (first|simp(maxSteps:=9999999) (disch:=first|exact dZ|fail) only[gW,reduceIte,Nat.reduceEqDiff,aQ, *]|refine dX ?_ ?_<;>(intro _;try omega)));fail_if_success refine ?_):p:=f y0 y1
def cR{a0 a1 a2:Prop}{p q:Prop}(y0:a0)(y1:a1)(y2:a2)(x:q)(f:a0->a1->a2->al q->p:=by intro y0 y1 y2 h;(repeat' (first|simp(maxSteps:=9999999) (disch:=first|exact dZ|fail) only[gW,reduceIte,Nat.reduceEqDiff,aQ, *,-h]|refine dX ?_ ?_<;>(intro _;try omega)));exact h.out;fail_if_success refine ?_):p:=f y0 y1 y2 ⟨x⟩
def td{a0 a1 a2:Prop}{p:Prop}(y0:a0)(y1:a1)(y2:a2)(f:a0->a1->a2->p:=by intro y0 y1 y2;(repeat' (first|simp(maxSteps:=9999999) (disch:=first|exact dZ|fail) only[gW,reduceIte,Nat.reduceEqDiff,aQ, *]|refine dX ?_ ?_<;>(intro _;try omega)));fail_if_success refine ?_):p:=f y0 y1 y2
def bG{a0 a1 a2 a3:Prop}{p q:Prop}(y0:a0)(y1:a1)(y2:a2)(y3:a3)(x:q)(f:a0->a1->a2->a3->al q->p:=by intro y0 y1 y2 y3 h;(repeat' (first|simp(maxSteps:=9999999) (disch:=first|exact dZ|fail) only[gW,reduceIte,Nat.reduceEqDiff,aQ, *,-h]|refine dX ?_ ?_<;>(intro _;try omega)));exact h.out;fail_if_success refine ?_):p:=f y0 y1 y2 y3 ⟨x⟩
def mf{a0 a1 a2 a3:Prop}{p:Prop}(y0:a0)(y1:a1)(y2:a2)(y3:a3)(f:a0->a1->a2->a3->p:=by intro y0 y1 y2 y3;(repeat' (first|simp(maxSteps:=9999999) (disch:=first|exact dZ|fail) only[gW,reduceIte,Nat.reduceEqDiff,aQ, *]|refine dX ?_ ?_<;>(intro _;try omega)));fail_if_success refine ?_):p:=f y0 y1 y2 y3
def oy{a0:Prop}{p q:Prop}(y0:a0)(x:q)(f:a0->al q->p:=by intro y0 h;(repeat' (first|simp(maxSteps:=9999999) (disch:=first|exact dZ|fail) only[gW,reduceIte,Nat.reduceEqDiff,aQ, *,-h]|(refine dX ?_ ?_<;>(intro _;try omega))|refine uA aw ?_));exact h.out;fail_if_success refine ?_):p:=f y0 ⟨x⟩
def jh{a0:Prop}{p:Prop}(y0:a0)(f:a0->p:=by intro y0;(repeat' (first|simp(maxSteps:=9999999) (disch:=first|exact dZ|fail) only[gW,reduceIte,Nat.reduceEqDiff,aQ, *]|(refine dX ?_ ?_<;>(intro _;try omega))|refine uA aw ?_));fail_if_success refine ?_):p:=f y0
def NZ{a0 a1:Prop}{p q:Prop}(y0:a0)(y1:a1)(x:q)(f:a0->a1->al q->p:=by intro y0 y1 h;(repeat' (first|simp(maxSteps:=9999999) (disch:=first|exact dZ|fail) only[gW,reduceIte,Nat.reduceEqDiff,aQ, *,-h]|(refine dX ?_ ?_<;>(intro _;try omega))|refine uA aw ?_));exact h.out;fail_if_success refine ?_):p:=f y0 y1 ⟨x⟩
def Vs{a0 a1:Prop}{p:Prop}(y0:a0)(y1:a1)(f:a0->a1->p:=by intro y0 y1;(repeat' (first|simp(maxSteps:=9999999) (disch:=first|exact dZ|fail) only[gW,reduceIte,Nat.reduceEqDiff,aQ, *]|(refine dX ?_ ?_<;>(intro _;try omega))|refine uA aw ?_));fail_if_success refine ?_):p:=f y0 y1
def N0{a0 a1 a2:Prop}{p q:Prop}(y0:a0)(y1:a1)(y2:a2)(x:q)(f:a0->a1->a2->al q->p:=by intro y0 y1 y2 h;(repeat' (first|simp(maxSteps:=9999999) (disch:=first|exact dZ|fail) only[gW,reduceIte,Nat.reduceEqDiff,aQ, *,-h]|(refine dX ?_ ?_<;>(intro _;try omega))|refine uA aw ?_));exact h.out;fail_if_success refine ?_):p:=f y0 y1 y2 ⟨x⟩
def wE{a0 a1 a2:Prop}{p:Prop}(y0:a0)(y1:a1)(y2:a2)(f:a0->a1->a2->p:=by intro y0 y1 y2;(repeat' (first|simp(maxSteps:=9999999) (disch:=first|exact dZ|fail) only[gW,reduceIte,Nat.reduceEqDiff,aQ, *]|(refine dX ?_ ?_<;>(intro _;try omega))|refine uA aw ?_));fail_if_success refine ?_):p:=f y0 y1 y2
def JM{a0 a1 a2 a3:Prop}{p:Prop}(y0:a0)(y1:a1)(y2:a2)(y3:a3)(f:a0->a1->a2->a3->p:=by intro y0 y1 y2 y3;(repeat' (first|simp(maxSteps:=9999999) (disch:=first|exact dZ|fail) only[gW,reduceIte,Nat.reduceEqDiff,aQ, *]|(refine dX ?_ ?_<;>(intro _;try omega))|refine uA aw ?_));fail_if_success refine ?_):p:=f y0 y1 y2 y3
end Go.Proofs.YtnfciiiohoafaaaGreatDoor
end
section
namespace Go.Proofs.YtnfciiiohoafaaaGreatDoor
open Go.AE Go.NT
def Fg(n):(n.tmod 1073741789<0->fmod n=n.tmod 1073741789+1073741789)/\(¬n.tmod 1073741789<0->fmod n=n.tmod 1073741789)/\ -1073741789<n.tmod 1073741789/\n.tmod 1073741789<1073741789:=by
 unfold fmod Qi;rcases Int.le_total 0 n with h|h
 ·rw[IQ h];omega
 ·obtain⟨m,rfl⟩:∃m,n= -m:=⟨-n,by omega⟩;rw[Int.neg_tmod,IQ ah];omega
def Z5:Tryz.f82.results.toList=[.tmp 2]:=aw
def Rg:Tryz.f81.results.toList=[.tmp 2]:=aw
def aqH:Tryz.f28.results.toList=[.tmp 4]:=aw
def aqI:Tryz.f29.results.toList=[.tmp 4]:=aw
def KC(n:Int)(h:ao):W.call 82 [im n] h=aa (.ret (im (fmod n)),h):=by
 obtain⟨m1,m2,m3,m4⟩:=Fg n;unfold im;refine cL rfl Tryz.func82 rfl ?_;by_cases c:n.tmod 1073741789<0
 ·have e:=m1 c;clear m1 m2;exact jh @Z5
 ·have e:=m2 c;clear m1 m2;exact jh @Z5
def Bx(n):0<=fmod n/\fmod n<1073741789:=DN n
def Fh{a:Int}(h:0<=a):a.tmod 1073741789=a%1073741789:=IQ h
def P8(a b:Int)(h:ao):W.call 29 [im a,im b] h=aa (.ret (im (bX a b)),h):=by
 have ca:=KC a;have cb:=KC b;obtain⟨a1,a2⟩:=Bx a;obtain⟨b1,b2⟩:=Bx b;have p0:0<=fmod a * fmod b:=Sf a1 b1;have p1:fmod a * fmod b<=1073741789 * 1073741789:=Se ah ah b1 ah;have e:bX a b=(fmod a * fmod b).tmod 1073741789:=by rw[Fh p0];rfl
 rw[e];unfold im at *
 refine cL rfl Tryz.func29 rfl ?_;exact jh @aqI
def uB(l:List Int):Int:=l.foldl cQ 0
def aaR(l)(x):uB (l++[x])=cQ (uB l) x:=by unfold uB;rw[oM];rfl
def aaQ(l):okF (uB l):=by
 rcases List.eq_nil_or_concat l with rfl|⟨l',x,rfl⟩
 ·exact AD
 ·rw[List.concat_eq_append,aaR];exact Gh _ _
def fW{α:Type}{l:List α}{i}{x}(h:l[i]?=aa x):l.take (i+1)=l.take i++[x]:=by obtain⟨hi,rfl⟩:=aV.1 h;rw[aco hi]
def ate(l:List Int)(k:Tok)(hl:l.length<=9223372036854775807)(h:ao):W.call 81 [.list k 1 (ints l)] h=aa (.ret (im (uB l)),h):=by
 have u23:=dN;have a3:=fa;have s3:=fH;refine cL rfl Tryz.func81 rfl ?_;refine NZ @Rg @dp ?_;refine cE (λm e h'=>∃i:Nat,i<=l.length/\m=l.length - i/\e.get 6=.list k 1 (ints l)/\e.get 7=.v (.int .i64 (l.length:Nat))/\e.get 8=.v (.int .i64 i)/\e.get 3=.v (.int .i64 (uB (l.take i)))/\e.defers=[]/\h'=h) ?_ l.length _ _ ?_;rotate_left 1
 ·refine⟨0,cG _,rfl,?_,?_,?_,?_,?_,rfl⟩<;>(first|assumption|(simp only[gW,reduceIte,aZ,aQ,dp]<;>rfl))
 rintro m e h' ⟨i,hi,rfl,g6,g7,g8,g3,hd,rfl⟩;by_cases aB:i<l.length
 ·obtain⟨x,hx⟩:∃x,l[i]?=aa x:=⟨_,aT aB⟩;have hr:(ints l)[i]?=aa (yL x):=by rw[Xx,hx];rfl
  have ajz:(i:Int)<((ints l).length:Int):=by rw[dp];omega
  have cx:=KC x;obtain⟨x1,x2⟩:=Bx x;obtain⟨s1,s2⟩:=aaQ (l.take i);have s2:uB (l.take i)<1073741789:=s2;have e1:uB (l.take (i+1))=(uB (l.take i)+fmod x).tmod 1073741789:=by rw[fW hx,aaR,Fh ah];show(fmod (uB (l.take i))+fmod x)%Qi=_;rw[By (aaQ _)];rfl
  unfold im at cx;generalize uB (l.take i)=s at *
  have OJ:=XN (h:=h') hx;unfold im at OJ;refine N0 @Rg @dp @a9 ?_;exact⟨l.length - (i+1),by omega,i+1,by omega,rfl,by trivial,by trivial,by simp,by rw[e1],by trivial,by trivial⟩
 ·have:i=l.length:=by omega
  subst this;rw[fI] at g3
  repeat' (first|simp(maxSteps:=999999)(disch:=first|exact dZ|fail)only[gW,reduceIte,aZ,aQ,Rg,dp,im, *]|(refine dX ?_ ?_<;>(intro _;try omega))|refine uA aw ?_)
def adk(a b:Int)(h:ao):W.call 28 [im a,im b] h=aa (.ret (im (cQ a b)),h):=by
 have c:=ate [a,b] .tight bH h;have e:uB [a,b]=cQ a b:=by show cQ (cQ 0 a) b=cQ a b;rw[yd,yd,yd,FC,Int.emod_add_emod]
 rw[e] at c;have bl:fX aq 23 2 [(0,im a),(1,im b)]=aa (.list .tight 1 (ints [a,b])):=aw;unfold im at *
 refine cL rfl Tryz.func28 rfl ?_;exact jh @aqH
def Qx(a):∀k:Nat,(a%Qi)^k%Qi=a^k%Qi:=by
 intro k
 induction k with
 |zero=>simp|succ k ih=>rw[xN,xN,AU,ih,C5 _ (C4 _),<-AU]
def alG(n)(k):(((fmod n).toNat^k%Q:Nat):Int)=n^k%Qi:=by rw[Si,Int.natCast_pow,Bz,<-Bb];exact Qx n k
def qP(r:Int)(l:Nat)(s x:Int):Prop:=okF x/\(x * s^l)%Qi=r
def qP.Cs{r s x}{l}(h:qP r l s x)(ho:l%2=1):qP r (l/2) (bX s s) (bX x s):=by
 refine⟨Gi _ _,?_⟩;rw[<-h.2,sd,sd,AU,Qx,C5 _ (C4 _),<-AU,xL];congr 2;have e:l=2 * (l/2)+1:=by omega
 rw[show s^l=s^(2 * (l/2)+1) by rw[<-e],xN,FB,zw,show s * s=s^2 by rw[xN,xN,Mk,FA]]
def qP.even{r s x}{l}(h:qP r l s x)(ho:l%2=0):qP r (l/2) (bX s s) x:=by
 refine⟨h.1,?_⟩;rw[<-h.2,sd,AU,Qx,<-AU];congr 2;have e:l=2 * (l/2):=by omega
 rw[show s^l=s^(2 * (l/2)) by rw[<-e],FB,show s * s=s^2 by rw[xN,xN,Mk,FA]]
def qP.done{r s x}(h:qP r 0 s x):x=r:=by rw[<-h.2,Mk,IP];exact(Mg h.1.1 h.1.2).symm
def qP.start(n):qP (eE n) 1073741787 n 1:=by
 refine⟨by unfold okF;decide,?_⟩;have e:(eE n)=(((fmod n).toNat^(Q - 2)%Q:Nat):Int):=by unfold eE;rw[JA aO aO aO,Df]
 rw[e,alG,FA];rfl
def Ie:Tryz.f201.results.toList=[.tmp 2,.tmp 3]:=aw
def akk(n:Int)(h:ao):W.call 201 [im n] h=aa (.ret (.tuple [im (if fmod n=0 then 0 else eE n),im (if fmod n=0 then 90 else 0)]),h):=by
 have cn:=KC n;by_cases hz:fmod n=0
 ·rw[aG hz,aG hz];unfold im at *
  refine cL rfl acV rfl ?_;exact jh @Ie
 ·rw[aH hz,aH hz];have P0:=al.mk (qP.start n);unfold im at *
  refine cL rfl acV rfl ?_;refine oy @Ie ?_;refine cE (λm e h'=>∃(s x:Int),m<=1073741787/\qP (eE n) m s x/\e.get 4=.v (.int .i64 (m:Nat))/\e.get 5=.v (.int .i64 s)/\e.get 2=.v (.int .i64 x)/\e.defers=[]/\h'=h) ?_ 1073741787 _ _ ?_;rotate_left 1
  ·exact⟨n,1,aM _,P0.out,by exact gR,by exact gR,by exact gR,by exact gR,rfl⟩
  rintro l e h' ⟨s,x,hl,hI,g4,g5,g2,hd,rfl⟩;have kI:=al.mk hI;have c1:=P8 x s;have c2:=P8 s s;unfold im at c1 c2;by_cases h0:l=0
  ·subst h0;have hx:=hI.done;clear hI;exact jh @Ie
  ·have hdiv:((l:Nat):Int).tdiv 2=((l/2:Nat):Int):=(by rw[abP ah];omega);have An:((l:Nat):Int).tmod 2=((l%2:Nat):Int):=(by rw[IQ ah];omega);have ia:¬((l:Nat):Int)=0:=(by omega);clear hI;rcases A7 l with ho|ho
   ·rw[ho] at An;refine oy @Ie ?_;exact⟨l/2,by omega,_,_,by omega,kI.out.even ho,by trivial,by trivial,by trivial,by trivial,by trivial⟩
   ·rw[ho] at An;refine oy @Ie ?_;exact⟨l/2,by omega,_,_,by omega,kI.out.Cs ho,by trivial,by trivial,by trivial,by trivial,by trivial⟩
def Lw(b:Bool):Nat:=if b=ai then 0 else 1
def rO(x a n:Nat)(sq:Bool):Prop:=1<=a/\n%2=1/\oj a n/\a<=P/\n<=P/\mu x P%2=(mu a n+Lw sq)%2
def aag(b):(Lw (!b)+1)%2=Lw b%2:=by cases b<;>rfl
def rO.even{x a n}{sq}(h:rO x a n sq)(he:a%2=0):rO x (a/2) n (if n%8=3∨n%8=5 then !sq else sq):=by
 obtain⟨h1,h2,h3,h4,h5,h6⟩:=h;have e:a=2 * (a/2):=by omega
 have hc:oj (2 * (a/2)) n:=by rw[<-e];exact h3
 have hs:=asO h2 hc;rw[<-e] at hs;refine⟨ah,h2,acp hc,by omega,h5,?_⟩;rw[h6];have:=aag sq;split at hs<;>rename_i q
 ·rw[aG q];omega
 ·rw[aH q];omega
def rO.Cs{x a n}{sq}(h:rO x a n sq)(ho:a%2=1)(hg:1<a):rO x (n%a) a (if a%4=3/\n%4=3 then !sq else sq):=by
 obtain⟨h1,h2,h3,h4,h5,h6⟩:=h;have hs:=asQ h2 ho h3;have hl:=mV n (ah:0<a);have h0:n%a≠0:=λq=>by have hd:=FR q;have:=Nat.dvd_gcd (Nat.dvd_refl a) hd;rw[h3] at this;have:=Dd aO this;omega
 refine⟨ah,ho,agl h3,by omega,h4,?_⟩;rw[h6];have:=aag sq;split at hs<;>rename_i q
 ·rw[aG q];omega
 ·rw[aH q];omega
def rO.done{x n}{sq}(h0:1<=x)(hx:x<P)(h:rO x 1 n sq):elem x=sq:=by
 obtain⟨-,h2,-,-,-,h6⟩:=h;rw[alz (h:=n/2) ah] at h6;rw[ag2 h0 hx];cases sq
 ·rw[cT];rw[h6];decide
 ·rw[cz];rw[h6];rfl
def rO.start{x}(h0:1<=x)(hx:x<P):rO x x P ai:=⟨h0,by decide,SK.coprime h0 hx,nk hx,aM _,by rw[show Lw ai=0 from rfl,A4]⟩
def uy:Tryz.f46.results.toList=[.tmp 2]:=aw
def Iy(a b):((a:Nat):Int).tdiv (b:Nat)=((a/b:Nat):Int):=by rw[abP ah];simp
def oH(a b):((a:Nat):Int).tmod (b:Nat)=((a%b:Nat):Int):=by rw[IQ ah];simp
def Jx{x}(h:x<1∨2147483579<=x):bN x=az:=by
 unfold bN;rcases h with h|h
 ·rw[cT ah];rfl
 ·have:elem x.toNat=az:=by rw[Bool.eq_false_iff];intro q;have:=(elem_iff.1 q).2.1;have hP:P=2147483579:=rfl;omega
  rw[this,Bool.and_false]
def LQ(x:Int)(h:ao):W.call 46 [im x] h=aa (.ret (.v (.bool (bN x))),h):=by
 by_cases hx:x<1
 ·rw[Jx (.inl hx)];unfold im;refine cL rfl S1 rfl ?_;exact jh @uy
 by_cases hy:2147483579<=x
 ·rw[Jx (.inr hy)];unfold im;refine cL rfl S1 rfl ?_;exact jh @uy
 obtain⟨n0,rfl⟩:∃n:Nat,x=n:=⟨x.toNat,by omega⟩;have h1:1<=n0:=by omega
 have h2:n0<P:=by have:P=2147483579:=rfl;omega
 have Ag:∀{m:Nat} {sq:Bool},rO n0 1 m sq->bN (n0:Int)=sq:=λhh=>by unfold bN;rw[cz ah,dK,hh.done h1 h2];rfl
 have k0:=al.mk (rO.start h1 h2);have kf:=al.mk @Ag;clear Ag;unfold im;generalize bN (n0:Int)=res at *
 have hnP:(n0:Int)<2147483579:=by omega
 clear h2;refine cL rfl S1 rfl ?_;refine oy @uy ?_;refine cE (λm e h'=>∃(n:Nat) (sq:Bool),rO n0 m n sq/\e.get 0=.v (.int .i64 (m:Nat))/\e.get 3=.v (.int .i64 (n:Nat))/\e.get 4=.v (.bool sq)/\e.defers=[]/\h'=h) ?_ n0 _ _ ?_;rotate_left 1
 ·exact⟨2147483579,ai,k0.out,by exact gR,by exact gR,by exact gR,by exact gR,rfl⟩
 rintro a e h' ⟨n,sq,hI,g0,g3,g4,hd,rfl⟩;have kI:=al.mk hI;have uc:=hI.1;have ha4:a<=2147483579:=hI.2.2.2.1;by_cases ajM:a=1
 ·subst ajM;have hr:=kf.out hI;clear hI;exact jh @uy
 have GG:(1:Int)<(a:Int):=by omega
 clear hI;refine oy @uy ?_;refine cE (λm e Vt=>∃(sq:Bool),m<=a/\rO n0 m n sq/\e.get 0=.v (.int .i64 (m:Nat))/\e.get 3=.v (.int .i64 (n:Nat))/\e.get 4=.v (.bool sq)/\e.defers=[]/\Vt=h') ?_ a _ _ ?_;rotate_left 1
 ·exact⟨sq,aM _,kI.out,by first|assumption|(exact gA),by first|assumption|(exact gA),by first|assumption|(exact gA),by first|assumption|(exact gA),rfl⟩
 clear g0 g3 g4 hd kI sq;rintro b e Vt ⟨sq,zZ,hI,g0,g3,g4,hd,rfl⟩;have kI:=al.mk hI;have kj:=hI.1;have tx:=hI.2.1;have avf:n<=2147483579:=hI.2.2.2.2.1;clear hI;have m2:((b:Nat):Int).tmod 2=((b%2:Nat):Int):=oH b 2;have d2:((b:Nat):Int).tdiv 2=((b/2:Nat):Int):=Iy b 2;have m8:((n:Nat):Int).tmod 8=((n%8:Nat):Int):=oH n 8;have mb4:((b:Nat):Int).tmod 4=((b%4:Nat):Int):=oH b 4;have mn4:((n:Nat):Int).tmod 4=((n%4:Nat):Int):=oH n 4;have mnb:=oH n b;rcases A7 b with hb|hb
 ·have hE:=kI.out.even hb;rw[hb,sQ] at m2;by_cases c3:n%8=3
  ·rw[aG (.inl c3)] at hE;have m8:((n:Nat):Int).tmod 8=3:=(by rw[m8,c3];rfl);have kE:=al.mk hE;clear hE;refine oy @uy ?_;exact⟨b/2,by omega,_,by omega,kE.out,(by first|exact aX|exact rfl),(by first|exact aX|exact rfl),(by first|exact aX|exact rfl),(by first|exact aX|exact rfl),(by first|exact aX|exact rfl)⟩
  ·by_cases c5:n%8=5
   ·rw[aG (.inr c5)] at hE;have m8:((n:Nat):Int).tmod 8=5:=(by rw[m8,c5];rfl);have kE:=al.mk hE;clear hE;refine oy @uy ?_;exact⟨b/2,by omega,_,by omega,kE.out,(by first|exact aX|exact rfl),(by first|exact aX|exact rfl),(by first|exact aX|exact rfl),(by first|exact aX|exact rfl),(by first|exact aX|exact rfl)⟩
   ·rw[aH ah] at hE;have kE:=al.mk hE;have c3':¬(((n%8:Nat):Int)=3):=(by omega);have c5':¬(((n%8:Nat):Int)=5):=(by omega);clear hE;refine oy @uy ?_;exact⟨b/2,by omega,_,by omega,kE.out,(by first|exact aX|exact rfl),(by first|exact aX|exact rfl),(by first|exact aX|exact rfl),(by first|exact aX|exact rfl),(by first|exact aX|exact rfl)⟩
 ·rw[hb,Sj] at m2;by_cases aiW:b=1
  ·subst aiW;have hr:=kf.out kI.out;exact jh @uy
  ·have hO:=kI.out.Cs hb ah;have bO:¬((b:Nat):Int)=1:=(by omega);have hnz:¬((b:Nat):Int)=0:=(by omega);have aB:=mV n (ah:0<b);by_cases c4:b%4=3
   ·by_cases c5:n%4=3
    ·rw[aG ⟨c4,c5⟩] at hO;have mb4:((b:Nat):Int).tmod 4=3:=(by rw[mb4,c4];rfl);have mn4:((n:Nat):Int).tmod 4=3:=(by rw[mn4,c5];rfl);have kO:=al.mk hO;clear hO;refine oy @uy ?_;exact⟨n%b,by omega,b,_,kO.out,(by first|exact aX|exact rfl),(by first|exact aX|exact rfl),(by first|exact aX|exact rfl),(by first|exact aX|exact rfl),(by first|exact aX|exact rfl)⟩
    ·rw[aH ah] at hO;have mb4:((b:Nat):Int).tmod 4=3:=(by rw[mb4,c4];rfl);have c5':¬(((n%4:Nat):Int)=3):=(by omega);have kO:=al.mk hO;clear hO;refine oy @uy ?_;exact⟨n%b,by omega,b,_,kO.out,(by first|exact aX|exact rfl),(by first|exact aX|exact rfl),(by first|exact aX|exact rfl),(by first|exact aX|exact rfl),(by first|exact aX|exact rfl)⟩
   ·rw[aH ah] at hO;have c4':¬(((b%4:Nat):Int)=3):=(by omega);have kO:=al.mk hO;clear hO;refine oy @uy ?_;exact⟨n%b,by omega,b,_,kO.out,(by first|exact aX|exact rfl),(by first|exact aX|exact rfl),(by first|exact aX|exact rfl),(by first|exact aX|exact rfl),(by first|exact aX|exact rfl)⟩
def ZL:Tryz.f138.results.toList=[.tmp 2]:=aw
def aqN:Tryz.f65.results.toList=[.tmp 4]:=aw
def aqO:Tryz.f66.results.toList=[.tmp 4]:=aw
def Lj:Tryz.f215.results.toList=[.tmp 4]:=aw
def ZU:Tryz.f194.results.toList=[.tmp 2,.tmp 3]:=aw
def ZQ:Tryz.f171.results.toList=[.tmp 2]:=aw
def Lf:Tryz.f150.results.toList=[.tmp 4]:=aw
def Ri:Tryz.f94.results.toList=[.tmp 2]:=aw
def ZJ:Tryz.f132.results.toList=[.tmp 4,.tmp 5]:=aw
def QU:Tryz.f140.results.toList=[.tmp 4,.tmp 5]:=aw
def HR(n:Int)(h:ao):W.call 138 [im n] h=aa (.ret (im (fmod n)),h):=by
 obtain⟨m1,m2,m3,m4⟩:=Fg n;unfold im;refine cL rfl Tryz.func138 rfl ?_;by_cases c:n.tmod 1073741789<0
 ·have e:=m1 c;clear m1 m2;exact jh @ZL
 ·have e:=m2 c;clear m1 m2;exact jh @ZL
def ahs(n:Int)(h:ao):W.call 171 [im n] h=aa (.ret (im (fmod n)),h):=by
 obtain⟨m1,m2,m3,m4⟩:=Fg n;unfold im;refine cL rfl Tryz.func171 rfl ?_;by_cases c:n.tmod 1073741789<0
 ·have e:=m1 c;clear m1 m2;exact jh @ZQ
 ·have e:=m2 c;clear m1 m2;exact jh @ZQ
def QN(a b:Int)(h:ao):W.call 66 [im a,im b] h=aa (.ret (im (bX a b)),h):=by
 have ca:=HR a;have cb:=HR b;obtain⟨a1,a2⟩:=Bx a;obtain⟨b1,b2⟩:=Bx b;have p0:0<=fmod a * fmod b:=Sf a1 b1;have p1:fmod a * fmod b<=1073741789 * 1073741789:=Se ah ah b1 ah;have e:bX a b=(fmod a * fmod b).tmod 1073741789:=by rw[Fh p0];rfl
 rw[e];unfold im at *
 refine cL rfl Tryz.func66 rfl ?_;exact jh @aqO
def anS(a b:Int)(h:ao):W.call 65 [im a,im b] h=aa (.ret (im (cQ a b)),h):=by
 have ca:=HR a;have cb:=HR b;obtain⟨a1,a2⟩:=Bx a;obtain⟨b1,b2⟩:=Bx b;have e:cQ a b=(fmod a+fmod b).tmod 1073741789:=by rw[Fh ah];rfl
 rw[e];unfold im at *
 refine cL rfl Tryz.func65 rfl ?_;exact jh @aqN
def ap8(r a:Int)(n:Nat)(hn:n<=1073741787)(hI:qP r n a 1)(h:ao):W.call 215 [im a,im (n:Nat)] h=aa (.ret (im r),h):=by
 have P0:=al.mk hI;clear hI;unfold im at *
 refine cL rfl Tryz.func215 rfl ?_;refine oy @Lj ?_;refine cE (λm e h'=>∃(s x:Int),m<=1073741787/\qP r m s x/\e.get 1=.v (.int .i64 (m:Nat))/\e.get 0=.v (.int .i64 s)/\e.get 5=.v (.int .i64 x)/\e.defers=[]/\h'=h) ?_ n _ _ ?_;rotate_left 1
 ·exact⟨a,1,hn,P0.out,by exact gR,by exact gR,by exact gR,by exact gR,rfl⟩
 rintro l e h' ⟨s,x,hl,hI,g1,g0,g5,hd,rfl⟩;have kI:=al.mk hI;have c1:=QN x s;have c2:=QN s s;unfold im at c1 c2;by_cases h0:l=0
 ·subst h0;have hx:=hI.done;clear hI;exact jh @Lj
 ·have hdiv:((l:Nat):Int).tdiv 2=((l/2:Nat):Int):=Iy l 2;have An:((l:Nat):Int).tmod 2=((l%2:Nat):Int):=oH l 2;have ia:(0:Int)<((l:Nat):Int):=by omega
  clear hI;rcases A7 l with ho|ho
  ·rw[ho,sQ] at An;refine oy @Lj ?_;exact⟨l/2,by omega,_,_,by omega,kI.out.even ho,(by first|exact aX|exact rfl),(by first|exact aX|exact rfl),(by first|exact aX|exact rfl),(by first|exact aX|exact rfl),(by first|exact aX|exact rfl)⟩
  ·rw[ho,Sj] at An;refine oy @Lj ?_;exact⟨l/2,by omega,_,_,by omega,kI.out.Cs ho,(by first|exact aX|exact rfl),(by first|exact aX|exact rfl),(by first|exact aX|exact rfl),(by first|exact aX|exact rfl),(by first|exact aX|exact rfl)⟩
def aoQ(n:Int)(h:ao):W.call 194 [im n] h=aa (.ret (.tuple [im (if fmod n=0 then 0 else eE n),im (if fmod n=0 then 90 else 0)]),h):=by
 have cn:=HR n;have cp:=ap8 (eE n) n 1073741787 (aM _) (qP.start n);by_cases hz:fmod n=0
 ·rw[aG hz,aG hz];clear cp;unfold im at *
  refine cL rfl acU rfl ?_;exact jh @ZU
 ·rw[aH hz,aH hz];have cp:∀h,W.call 215 [.v (.int .i64 n),.v (.int .i64 1073741787)] h=aa (.ret (.v (.int .i64 (eE n))),h):=cp;unfold im at *
  refine cL rfl acU rfl ?_;exact jh @ZU
def nJ(r n a c:Nat):Prop:=c<P/\a<P/\c * a^n%P=r
def nJ.Cs{r n a c}(h:nJ r n a c)(ho:n%2=1):nJ r (n/2) (a * a%P) (c * a%P):=by refine⟨mV _ aO,mV _ aO,?_⟩;rw[<-h.2.2,SB,sS,<-FX,<-sS,MG,<-SD,<-FY,<-acG,show(2 * (n/2)).succ=n by omega]
def nJ.even{r n a c}(h:nJ r n a c)(ho:n%2=0):nJ r (n/2) (a * a%P) c:=by refine⟨h.1,mV _ aO,?_⟩;rw[<-h.2.2,sS,<-FX,<-sS,<-SD,<-FY,(ah:2 * (n/2)=n)]
def nJ.done{r a c}(h:nJ r 0 a c):c=r:=by rw[<-h.2.2,Nat.pow_zero,oo,nI h.1]
def nJ.start{a n}(ha:a<P)(hn:n<2^31):nJ (sL a n) n a 1:=⟨aO,ha,by rw[Qv hn,Df]⟩
def nJ.bound{r n a c}(h:nJ r n a c):c * a<=4611685722074649241/\a * a<=4611685722074649241:=by obtain⟨h1,h2,-⟩:=h;have h1:c<=2147483579:=nk h1;have h2:a<=2147483579:=nk h2;exact⟨p7 h1 h2,p7 h2 h2⟩
def ZF(r a n:Nat)(hn:n<=2147483647)(hI:nJ r n a 1)(h:ao):W.call 150 [im (a:Nat),im (n:Nat)] h=aa (.ret (im (r:Nat)),h):=by
 have P0:=al.mk hI;clear hI;unfold im at *
 refine cL rfl Tryz.func150 rfl ?_;refine oy @Lf ?_;refine cE (λm e h'=>∃(s x:Nat),m<=2147483647/\nJ r m s x/\e.get 1=.v (.int .i64 (m:Nat))/\e.get 0=.v (.int .i64 (s:Nat))/\e.get 5=.v (.int .i64 (x:Nat))/\e.defers=[]/\h'=h) ?_ n _ _ ?_;rotate_left 1
 ·exact⟨a,1,hn,P0.out,by exact gR,by exact gR,by exact gR,by exact gR,rfl⟩
 rintro l e h' ⟨s,x,hl,hI,g1,g0,g5,hd,rfl⟩;have kI:=al.mk hI;obtain⟨b1,b2⟩:=hI.bound;by_cases h0:l=0
 ·subst h0;have hx:=hI.done;clear hI;exact jh @Lf
 ·have hdiv:((l:Nat):Int).tdiv 2=((l/2:Nat):Int):=Iy l 2;have An:((l:Nat):Int).tmod 2=((l%2:Nat):Int):=oH l 2;have ia:(0:Int)<((l:Nat):Int):=by omega
  have e1:((x:Nat):Int) * (s:Nat)=((x * s:Nat):Int):=(xM _ _).symm;have e2:((s:Nat):Int) * (s:Nat)=((s * s:Nat):Int):=(xM _ _).symm;have e3:((x * s:Nat):Int).tmod 2147483579=((x * s%P:Nat):Int):=oH (x * s) 2147483579;have e4:((s * s:Nat):Int).tmod 2147483579=((s * s%P:Nat):Int):=oH (s * s) 2147483579;clear hI;rcases A7 l with ho|ho
  ·rw[ho,sQ] at An;refine oy @Lf ?_;exact⟨l/2,by omega,_,_,by omega,kI.out.even ho,(by first|exact aX|exact rfl),(by first|exact aX|exact rfl),(by first|exact aX|exact rfl),(by first|exact aX|exact rfl),(by first|exact aX|exact rfl)⟩
  ·rw[ho,Sj] at An;refine oy @Lf ?_;exact⟨l/2,by omega,_,_,by omega,kI.out.Cs ho,(by first|exact aX|exact rfl),(by first|exact aX|exact rfl),(by first|exact aX|exact rfl),(by first|exact aX|exact rfl),(by first|exact aX|exact rfl)⟩
def ft(a n:Int):Int:=if bN a=ai then ((bC a.toNat n:Nat):Int) else 0
def mJ(a:Int):Int:=if bN a=ai then 0 else 100
def jx(a b:Int):Int:=if bN a=ai/\bN b=ai then ((a.toNat * b.toNat%P:Nat):Int) else 0
def me(a b:Int):Int:=if bN a=ai/\bN b=ai then 0 else 100
def Bp{a}(h:bN a=ai):∃n:Nat,a=n/\elem n=ai/\1<=n/\n<P:=by unfold bN at h;rw[bL,decide_eq_true_eq] at h;have:=elem_iff.1 h.2;exact⟨a.toNat,by omega,h.2,this.1,this.2.1⟩
def Lt(x:Int)(h:ao):W.call 94 [im x] h=aa (.ret (.v (.bool (bN x))),h):=by
 by_cases hx:x<1
 ·rw[Jx (.inl hx)];unfold im;refine cL rfl S4 rfl ?_;exact jh @Ri
 by_cases hy:2147483579<=x
 ·rw[Jx (.inr hy)];unfold im;refine cL rfl S4 rfl ?_;exact jh @Ri
 obtain⟨n0,rfl⟩:∃n:Nat,x=n:=⟨x.toNat,by omega⟩;have h2:n0<P:=by have:P=2147483579:=rfl;omega
 have cp:∀h,W.call 150 [.v (.int .i64 (n0:Nat)),.v (.int .i64 1073741789)] h=aa (.ret (.v (.int .i64 (sL n0 Q:Nat))),h):=ZF (sL n0 Q) n0 1073741789 aO (nJ.start h2 aO);have e:bN (n0:Int)=decide (((sL n0 Q:Nat):Int)=1):=by
  unfold bN elem;rw[cz ah,dK,cz ah,cz h2,oc,oc,oc,Fk,decide_eq_true_eq];constructor
  ·intro q;rw[jP q];rfl
  ·intro q;have:sL n0 Q=1:=(by omega);rw[this];rfl
 rw[e];generalize sL n0 Q=r at *
 have Xo:(1:Int)<=(n0:Int):=by omega
 have hy1:(n0:Int)<2147483579:=by omega
 clear e h2 hx hy;unfold im;refine cL rfl S4 rfl ?_;exact jh @Ri
def Rd:Tryz.f69.results.toList=[.tmp 4,.tmp 5]:=aw
def Rh:Tryz.f84.results.toList=[.tmp 2]:=aw
def mul_tmod{a b}(ha:a<P)(hb:b<P):((a:Nat):Int) * (b:Nat)<=4611685722074649241/\(0:Int)<=((a:Nat):Int) * (b:Nat)/\(((a:Nat):Int) * (b:Nat)).tmod 2147483579=((a * b%P:Nat):Int):=by have h1:a<=2147483579:=nk ha;have h2:b<=2147483579:=nk hb;have:=p7 h1 h2;have e:((a:Nat):Int) * (b:Nat)=((a * b:Nat):Int):=(xM _ _).symm;rw[e];exact⟨ah,by omega,oH (a * b) 2147483579⟩
def aii(a b:Int)(h:ao):W.call 69 [im a,im b] h=aa (.ret (.tuple [im (jx a b),im (me a b)]),h):=by
 have ca:=LQ a;have cb:=LQ b;unfold jx me;by_cases ha:bN a=ai
 ·by_cases hb:bN b=ai
  ·rw[aG ⟨ha,hb⟩,aG ⟨ha,hb⟩];rw[ha] at ca;rw[hb] at cb;obtain⟨x,rfl,-,-,x2⟩:=Bp ha;obtain⟨y,rfl,-,-,y2⟩:=Bp hb;obtain⟨m1,m2,-⟩:=mul_tmod x2 y2;simp only[dK];have e1:((x:Nat):Int) * (y:Nat)=((x * y:Nat):Int):=(xM _ _).symm;have e3:((x * y:Nat):Int).tmod 2147483579=((x * y%P:Nat):Int):=oH (x * y) 2147483579;rw[e1] at m1 m2;have m4:x * y%P<2147483579:=mV _ aO;clear ha hb;unfold im at *
   refine cL rfl S3 rfl ?_;exact jh @Rd
  ·have iA:bN b=az:=(by simpa using hb);rw[aH (λq=>hb q.2),aH (λq=>hb q.2)];rw[ha] at ca;rw[iA] at cb;unfold im at *
   refine cL rfl S3 rfl ?_;exact jh @Rd
 ·have nf:bN a=az:=by simpa using ha
  rw[aH (λq=>ha q.1),aH (λq=>ha q.1)];rw[nf] at ca;unfold im at *
  refine cL rfl S3 rfl ?_;exact jh @Rd
def ur(l:List Int):Int:=l.foldl (λa x=>(a * (x.tmod 1073741789+1073741789)).tmod 1073741789) 1
def akG(l)(x):ur (l++[x])=(ur l * (x.tmod 1073741789+1073741789)).tmod 1073741789:=by unfold ur;rw[oM];rfl
def akF(n):ur [n]=fmod n:=by
 obtain⟨m1,m2,m3,m4⟩:=Fg n;show(1 * (n.tmod 1073741789+1073741789)).tmod 1073741789=fmod n;rw[FA,Fh ah];by_cases c:n.tmod 1073741789<0
 ·rw[m1 c];omega
 ·rw[m2 c];omega
def XT{a x:Int}(h:0<=a/\a<1073741789):0<=a * (x.tmod 1073741789+1073741789)/\a * (x.tmod 1073741789+1073741789)<=2305843013508661242/\0<=(a * (x.tmod 1073741789+1073741789)).tmod 1073741789/\(a * (x.tmod 1073741789+1073741789)).tmod 1073741789<1073741789:=by obtain⟨-,-,m3,m4⟩:=Fg x;have p0:0<=a * (x.tmod 1073741789+1073741789):=Sf h.1 ah;have p1:a * (x.tmod 1073741789+1073741789)<=1073741789 * 2147483578:=Se ah ah ah ah;rw[Fh p0];omega
def akE(l):0<=ur l/\ur l<1073741789:=by
 unfold ur;have key:∀(l:List Int) (a:Int),0<=a/\a<1073741789->0<=l.foldl (λa x=>(a * (x.tmod 1073741789+1073741789)).tmod 1073741789) a/\l.foldl (λa x=>(a * (x.tmod 1073741789+1073741789)).tmod 1073741789) a<1073741789:=by
  intro l
  induction l with
  |nil=>intro a h;exact h|cons x l ih=>intro a h;exact ih _ (XT h).2.2
 exact key l 1 ⟨aO,by decide⟩
def akH(l:List Int)(k:Tok)(hl:l.length<=9223372036854775807)(h:ao):W.call 84 [.list k 1 (ints l)] h=aa (.ret (im (ur l)),h):=by
 have u23:=dN;have a3:=fa;have s3:=fH;refine cL rfl Tryz.func84 rfl ?_;refine NZ @Rh @dp ?_;refine cE (λm e h'=>∃i:Nat,i<=l.length/\m=l.length - i/\e.get 6=.list k 1 (ints l)/\e.get 7=.v (.int .i64 (l.length:Nat))/\e.get 8=.v (.int .i64 i)/\e.get 3=.v (.int .i64 (ur (l.take i)))/\e.defers=[]/\h'=h) ?_ l.length _ _ ?_;rotate_left 1
 ·refine⟨0,cG _,rfl,?_,?_,?_,?_,?_,rfl⟩<;>(first|assumption|(simp only[gW,reduceIte,aZ,aQ,dp]<;>rfl))
 rintro m e h' ⟨i,hi,rfl,g6,g7,g8,g3,hd,rfl⟩;by_cases aB:i<l.length
 ·obtain⟨x,hx⟩:∃x,l[i]?=aa x:=⟨_,aT aB⟩;have ajz:(i:Int)<((ints l).length:Int):=by rw[dp];omega
  obtain⟨-,-,x1,x2⟩:=Fg x;obtain⟨s1,s2,s3',s4⟩:=XT (x:=x) (akE (l.take i));have e1:ur (l.take (i+1))=(ur (l.take i) * (x.tmod 1073741789+1073741789)).tmod 1073741789:=by rw[fW hx,akG]
  generalize ur (l.take i)=s at *
  have OJ:=XN (h:=h') hx;unfold im at OJ;refine N0 @Rh @dp @a9 ?_;exact⟨l.length - (i+1),by omega,i+1,by omega,rfl,by trivial,by trivial,by simp,by rw[e1],by trivial,by trivial⟩
 ·have:i=l.length:=by omega
  subst this;rw[fI] at g3
  repeat' (first|simp(maxSteps:=999999)(disch:=first|exact dZ|fail)only[gW,reduceIte,aZ,aQ,Rh,dp,im, *]|(refine dX ?_ ?_<;>(intro _;try omega))|refine uA aw ?_)
def Zg{h:ao}{z cs}{b}(hb:b=h.boxes.length):(h.push z).put b cs=h.push cs:=by subst hb;exact pg h z cs
def anF{h:ao}{z cs}{b}(hb:b≠h.boxes.length):(h.push z).put b cs=(h.put b cs).push z:=by
 unfold ao.push ao.put;simp only;congr 1;rcases dV b h.boxes.length with aB|ec
 ·rw[List.set_append_left _ _ aB]
 ·rw[Mx _ _ ec,acj (by simp;omega),acj ec]
def aqT:Tryz.f83.results.toList=[.tmp 4]:=aw
def QV:Tryz.f147.results.toList=[]:=aw
def Q8:Tryz.f30.results.toList=[.cell 4 3,.tmp 5]:=aw
def LW:(jf aq 3).bind AV.cD=aa [im 0]:=aw
def adF{t}{x y}{n}(hn:n<=9223372036854775807):cZ aq .and t x y (.v (.int .i64 (n:Nat))) (.v (.int .i64 1))=aa (.v (.int .i64 ((n%2:Nat):Int))):=by
 rw[sX];congr 3;have e1:BitVec.ofInt IntKind.i64.bits (n:Int)=BitVec.ofNat 64 n:=by apply BitVec.eq_of_toNat_eq;show(BitVec.ofInt 64 (n:Int)).toNat=(BitVec.ofNat 64 n).toNat;rw[BitVec.toNat_ofInt,BitVec.toNat_ofNat];omega
 have e2:(BitVec.ofNat 64 n&&&1#64).toNat=n%2:=by rw[BitVec.toNat_and,BitVec.toNat_ofNat,show(1#64:BitVec 64).toNat=1 from rfl,Nat.and_one_is_mod];omega
 have e3:(BitVec.ofInt IntKind.i64.bits (n:Int)&&&BitVec.ofInt IntKind.i64.bits 1).toNat=n%2:=by rw[e1];exact e2
 rw[e3,gF ah ah]
def arZ{t}{x y}{n}:cZ aq .shr t x y (.v (.int .i64 (n:Nat))) (.v (.int .u64 1))=aa (.v (.int .i64 ((n/2:Nat):Int))):=by rw[Bg aO];congr 3;show((n:Nat):Int).fdiv (2^1)=_;rw[Fz _ aO];simp
def sM{h:ao}{b}{cs}(hb:h.boxes[b]?=aa cs):h.put b cs=h:=by
 unfold ao.put;have:h.boxes.set b cs=h.boxes:=by
  apply qL;intro k;rw[mA];split
  ·rename_i e;subst e;rw[aG (aV.1 hb).1,hb]
  ·rfl
 rw[this]
def jN{H}{b}{x}(hb:H.boxes[b]?=aa [x]):aI aq Gt H 3 (.ptr (.box b) 0)=aa x:=by rw[mw fa hb];rfl
def AO{H}{b}{x}{n}(hb:H.boxes[b]?=aa [x]):cI aq H 3 (.ptr (.box b) 0) (.v (.int .i64 n))=aa (H.put b [.v (.int .i64 n)]):=ig (off:=0) (cs:=[x]) (xs:=[im n]) rfl fH hb rfl (aM 1)
def SM(l bc:Nat)(rec:iN):Prop:=∀(s c:Nat) (b:Bool) (H:ao),s<P->c<P->H.loops[l]?=aa rec->H.boxes[bc]?=aa [im (c:Nat)]->W.round l [im (s:Nat),.v (.bool b)] H=aa (.ret (.v (.bool ai)),H.put bc [im ((if b=ai then c * s%P else c:Nat):Int)])
def Bk{P}{R}{e}{h}{t l:Nat}{args}{ts}(hy:e.get t=.yield l):mb P R e h {callee:=.value (.tmp t),args,argTypes:=ts}=R.round l (args.toList.map e.eval) h:=by rw[TQ,hy]
def ast(l bn ba bc:Nat)(rec:iN)(hR:SM l bc rec)(h1:bn≠ba)(h2:bn≠bc)(h3:ba≠bc)(r n a c:Nat)(hn:n<=2147483647)(hI:nJ r n a c)(h:ao)
 (BF:h.boxes[bn]?=aa [im (n:Nat)]) (zZ:h.boxes[ba]?=aa [im (a:Nat)]) (DT:h.boxes[bc]?=aa [im (c:Nat)]) (hl:h.loops[l]?=aa rec):
 ∃h',W.call 147 [.yield l,.ptr (.box bn) 0,.ptr (.box ba) 0] h=aa (.ret (.tuple []),h')/\h'.boxes[bc]?=aa [im (r:Nat)]/\h'.loops=h.loops/\∀h0:ao,Ext h0 h->h0.boxes.length<=bn->h0.boxes.length<=ba->h0.boxes.length<=bc->Ext h0 h':=by
 have kR:=al.mk hR;have kI:=al.mk hI;clear hR hI;refine iu rfl Tryz.func147 rfl ?_;refine bI @QV ?_;refine cE (λm e h'=>∃(a c:Nat),m<=2147483647/\nJ r m a c/\e.get 0=.yield l/\e.get 1=.ptr (.box bn) 0/\e.get 2=.ptr (.box ba) 0/\e.defers=[]/\h'.boxes[bn]?=aa [im (m:Nat)]/\h'.boxes[ba]?=aa [im (a:Nat)]/\h'.boxes[bc]?=aa [im (c:Nat)]/\h'.loops=h.loops/\∀h0:ao,Ext h0 h->h0.boxes.length<=bn->h0.boxes.length<=ba->h0.boxes.length<=bc->Ext h0 h') ?_ n _ _ ?_;rotate_left 1
 ·exact⟨a,c,hn,kI.out,by exact gR,by exact gR,by exact gR,by exact gR,BF,zZ,DT,rfl,λ_ x _ _ _=>x⟩
 clear BF zZ DT kI n a c hn;rintro m e H ⟨a,c,hm,hI,g0,g1,g2,hd,BF,zZ,DT,ON,hX⟩;have kI:=al.mk hI;have kX:=al.mk hX;have ln:=jN BF;have la:=jN zZ;clear hX;by_cases h0:m=0
 ·subst h0;have hx:=hI.done;subst hx;unfold im at ln la;clear hI;refine bI @QV ?_;exact⟨_,rfl,DT,ON,kX.out⟩
 have lG:(0:Int)<((m:Nat):Int):=by omega
 have q1:∀(t:aK) (x y:bT),cZ aq .and t x y (.v (.int .i64 (m:Nat))) (.v (.int .i64 1))=aa (.v (.int .i64 ((m%2:Nat):Int))):=λt x y=>adF ah;obtain⟨m1,m2,m3⟩:=mul_tmod hI.2.1 hI.2.1;have vd:H.loops[l]?=aa rec:=by rw[ON];exact hl
 have rd:=kR.out a c (decide ((m%2:Nat)=1)) H hI.2.1 hI.1 vd DT;have Gs:nJ r (m/2) (a * a%P) (if decide (m%2=1)=ai then c * a%P else c):=by
  rcases A7 m with ho|ho
  ·rw[ho];exact hI.even ho
  ·rw[ho];exact hI.Cs ho
 have kI2:=al.mk Gs;have DW:decide (((m%2:Nat):Int)=1)=decide (m%2=1):=by rw[decide_eq_decide];omega
 have aju:=(aV.1 BF).1;have ajs:=(aV.1 zZ).1;have ajt:=(aV.1 DT).1;clear hI Gs hl;generalize (if decide (m%2=1)=ai then c * a%P else c)=c2 at *
 generalize decide (m%2=1)=bt at *
 unfold im at *
 have la2:∀x,aI aq Gt (H.put bc x) 3 (.ptr (.box ba) 0)=aa (.v (.int .i64 (a:Nat))):=λx=>jN (by rw[dg h3];exact zZ);have sa2:∀x n,cI aq (H.put bc x) 3 (.ptr (.box ba) 0) (.v (.int .i64 n))=aa ((H.put bc x).put ba [.v (.int .i64 n)]):=λx n=>AO (by rw[dg h3];exact zZ);have ln2:∀x y,aI aq Gt ((H.put bc x).put ba y) 3 (.ptr (.box bn) 0)=aa (.v (.int .i64 (m:Nat))):=λx y=>jN (by rw[dg h1,dg h2];exact BF);have sn2:∀x y n,cI aq ((H.put bc x).put ba y) 3 (.ptr (.box bn) 0) (.v (.int .i64 n))=aa (((H.put bc x).put ba y).put bn [.v (.int .i64 n)]):=λx y n=>AO (by rw[dg h1,dg h2];exact BF);refine cR @QV @Bk @arZ ?_;refine⟨m/2,by omega,a * a%P,c2,by omega,kI2.out,aX,aX,aX,aX,?_,?_,?_,ON,λh0 x p1 p2 p3=>(((kX.out h0 x p1 p2 p3).gh p3 _).gh p2 _).gh p1 _⟩
 ·exact eP (by rw[mP,mP];exact aju)
 ·rw[dg (Ne.symm h1)];exact eP (by rw[mP];exact ajs)
 ·rw[dg (Ne.symm h2),dg (Ne.symm h3)];exact eP ajt
def KX{e:Env}{l p q t:Nat}{r:iN}{x y}(hp:r.params=#[p,q])(ht:r.tmps=e.tmps):(nX l r [x,y]).get t=if q=t then y else if p=t then x else e.get t:=by unfold nX;rw[hp,ht];have h1:=EA (e.tmps.set p x) q t y;have h2:=EA e.tmps p t x;show((e.tmps.set p x).set q y).get t=_;rw[h1,h2];rfl
def asu(a n:Int)(h:ao):W.call 83 [im a,im n] h=aa (.ret (.func (.func 147) [] [.ptr (.box (h.boxes.length+1)) 0,.ptr (.box h.boxes.length) 0]),(h.push [im a]).push [im n]):=by have bx:∀n:Int,(AV.v (.int .i64 n)).cD=aa [.v (.int .i64 n)]:=λ_=>rfl;unfold im;refine cL rfl Tryz.func83 rfl ?_;exact td @aqT @bB @cX
def aim(a n:Int)(h:ao):∃h',W.call 30 [im a,im n] h=aa (.ret (.tuple [im (ft a n),im (mJ a)]),h')/\Ext h h':=by
 have ca:=LQ a;have z3:=LW;have a3:=fa;unfold ft mJ;by_cases ha:bN a=ai;rotate_left 1
 ·have nf:bN a=az:=by simpa using ha
  rw[aH ha,aH ha];rw[nf] at ca;unfold im at *
  refine iu rfl acZ rfl ?_;refine bG @Q8 @AO @jN (av @Zg @cX) ?_;exact⟨_,rfl,.push _ _⟩
 rw[aG ha,aG ha];rw[ha] at ca;obtain⟨x,rfl,-,x1,x2⟩:=Bp ha;clear ha;have cl:=akH [n] .tight bH;rw[akF] at cl;obtain⟨m,hm⟩:∃m:Nat,fmod n=m:=⟨(fmod n).toNat,(Bz n).symm⟩;have GQ:m<Q:=by have:=NS n;rw[hm,dK] at this;exact this
 have he:bC (x:Int).toNat n=sL x m:=by unfold bC;rw[hm,dK,dK]
 rw[he];rw[hm] at cl;have bl:fX aq 23 1 [(0,im n)]=aa (.list .tight 1 (ints [n])):=aw;have bx:∀n:Int,(im n).cD=aa [im n]:=λ_=>rfl;have csq:=λH=>asu (x:Nat) (m:Nat) H;have Ei:=nJ.start (n:=m) x2 (pk GQ aO);generalize sL x m=r at *
 clear he hm;have kS:=al.mk (av Ei (av x2 (av GQ x1)));clear Ei x2 GQ x1;unfold im at *
 refine iu rfl acZ rfl ?_;refine bG @Q8 @AO @jN (av @Zg @cX) ?_;refine bM.gen λe he hd hp kC=>?_;have g4:e.get 4=.ptr (.box h.boxes.length) 0:=by rw[he];exact gS
 have g15:e.get 15=.func (.func 147) [] [.ptr (.box (h.boxes.length+1+1)) 0,.ptr (.box (h.boxes.length+1)) 0]:=by rw[he];exact gS
 have hdf:e.defers=[]:=by rw[hd];exact gS
 clear he hd hp kC;refine E4 (by rw[Bq];exact g15) λrec w1 w2 w3 w4 w5 w6=>?_;have hL:(((h.push [AV.v (.int .i64 1)]).push [AV.v (.int .i64 (x:Nat))]).push [AV.v (.int .i64 (m:Nat))]).loops.length=h.loops.length:=rfl;rw[hL];have PR:SM h.loops.length h.boxes.length rec:=by
  intro s c b H hs hc hl hb;obtain⟨m1,m2,-⟩:=mul_tmod hc hs;have e1:((c:Nat):Int) * (s:Nat)=((c * s:Nat):Int):=(xM _ _).symm;have e3:((c * s:Nat):Int).tmod 2147483579=((c * s%P:Nat):Int):=oH (c * s) 2147483579;rw[e1] at m1 m2;have r1:∀t,(nX h.loops.length rec [im (s:Nat),.v (.bool b)]).get t=if 17=t then .v (.bool b) else if 16=t then im (s:Nat) else e.get t:=λt=>KX w2 w1
  have fP:(H.busy h.loops.length rec).boxes[h.boxes.length]?=aa [im (c:Nat)]:=hb;have l1:=jN fP;have ku:=hb;have s1:=λn=>AO (n:=n) fP;refine KZ hl (by rw[w2];rfl) ?_;rw[w3];unfold im at *
  refine bM.gen λe2 fw gu ni Ee=>?_;have q16:e2.get 16=.v (.int .i64 (s:Nat)):=by rw[fw,r1];rfl
  have q17:e2.get 17=.v (.bool b):=by rw[fw,r1];rfl
  have q4:e2.get 4=.ptr (.box h.boxes.length) 0:=by rw[fw,r1];exact g4
  clear fw r1 g4 g15 cl csq ca bl;have eO:h.loops.length<H.loops.length:=(aV.1 hl).1;have iJ:H.loops.set h.loops.length rec=H.loops:=by
   apply qL;intro k;rw[mA];split
   ·rename_i e;subst e;exact hl.symm
   ·rfl
  have Ar:{rec with state:=LoopState.ready,pending:=ar}=rec:=by cases rec;cases w5;cases w6;rfl
  cases b with
  |true=>
   refine yh ?_;refine⟨aX,rec,rfl,w5,?_⟩;refine bV @l1 @s1 ?_;refine⟨{rec with state:=.busy},?_,rfl,?_⟩
   ·show(H.loops.set h.loops.length _)[h.loops.length]?=_;simp[eO]
   ·show(H.put h.boxes.length _)=_;simp only[ao.put,ao.busy,Db,Ar,iJ]
  |false=>
   refine yh ?_;refine⟨aX,rec,rfl,w5,{rec with state:=.busy},?_,rfl,?_⟩
   ·show(H.loops.set h.loops.length _)[h.loops.length]?=_;simp[eO]
   ·have hq:H.put h.boxes.length [AV.v (Value.int IntKind.i64 (c:Nat))]=H:=sM ku;refine(show H.put h.boxes.length _=H from hq).trans ?_;simp only[ao.busy,Db,Ar,iJ]
 have ym:∀{z:iN},((((h.push [AV.v (.int .i64 1)]).push [AV.v (.int .i64 (x:Nat))]).push [AV.v (.int .i64 (m:Nat))]).loop z).boxes[h.boxes.length]?=aa [im ((1:Nat):Int)]:=λ{z}=>bA (bA (bh _ _));have kj:∀{z:iN},((((h.push [AV.v (.int .i64 1)]).push [AV.v (.int .i64 (x:Nat))]).push [AV.v (.int .i64 (m:Nat))]).loop z).boxes[h.boxes.length+1]?=aa [im (x:Nat)]:=λ{z}=>bA (nb (by rw[cX]));have fP:∀{z:iN},((((h.push [AV.v (.int .i64 1)]).push [AV.v (.int .i64 (x:Nat))]).push [AV.v (.int .i64 (m:Nat))]).loop z).boxes[h.boxes.length+1+1]?=aa [im (m:Nat)]:=λ{z}=>nb (by rw[cX,cX]);have ji:=@EB (((h.push [AV.v (.int .i64 1)]).push [AV.v (.int .i64 (x:Nat))]).push [AV.v (.int .i64 (m:Nat))]) rec;have GQ:=kS.out.2.2.1;obtain⟨h',c1,c2,c3,c4⟩:=ast h.loops.length (h.boxes.length+1+1) (h.boxes.length+1) h.boxes.length rec PR ah ah ah r m x 1 (by unfold Q at GQ;omega) kS.out.1 _ fP kj ym ji;refine⟨_,h',c1,rec,by rw[c3];exact ji,by rw[w5];decide,.inl ⟨w6,?_⟩⟩;have hX:Ext h h':=c4 h ((((Ext.push h _).trans (Ext.push _ _)).trans (Ext.push _ _)).trans ((Fr.Cp (bn:=h.boxes.length+3) (l0:=h.loops.length) (n0:=h.tn) _ _).ext (by simp only[cX];omega) (aM _) (aM _))) ah ah (aM _);have aB:h.boxes.length<h'.boxes.length:=(aV.1 c2).1;generalize hH:h'.fx h.loops.length {rec with state:=.exhausted}=H;have hb:H.boxes[h.boxes.length]?=aa [im (r:Nat)]:=by rw[<-hH];exact c2
 have hX2:Ext h H:=by rw[<-hH];exact((Fr.EE (bn:=h.boxes.length) (l0:=h.loops.length) (n0:=h.tn) hX (aM _)).trans (.fx (aM _) _)).ext (aM _) (aM _) (aM _)
 clear c1 c2 c3 c4 hH ji ym kj fP PR w1 w2 w3 w4 w5 w6 hX aB;have l1:=jN hb;unfold im at *
 have s1:=λn=>AO (n:=n) hb;have l2:∀y,aI aq Gt (H.put h.boxes.length [.v (.int .i64 y)]) 3 (.ptr (.box h.boxes.length) 0)=aa (.v (.int .i64 y)):=λy=>jN (eP (aV.1 hb).1);refine bI @Q8 ?_;exact⟨_,rfl,hX2.gh (aM _) _⟩
abbrev bf(b:List UInt8):List (List AV):=b.map j8
def ZX:Tryz.f220.results.toList=[.tmp 2]:=aw
def xq:Tryz.f221.results.toList=[.tmp 4]:=aw
def ZY:Tryz.f222.results.toList=[.tmp 8]:=aw
def Jc:gU aq 5=aa az:=aw
def sO:dC aq 5=aa 1:=aw
def UC(n)(h):nm aq h 5 42 (.v (.int .u8 n))=aa (.v (.int .u32 (IntKind.u32.wrap n)),h):=aw
def tY(n)(h):nm aq h 3 179 (.v (.int .i64 n))=aa (.v (.int .u64 (IntKind.u64.wrap n)),h):=aw
def jw(b:List UInt8):Nat->Nat
 |0=>0
 |i+1=>jw b i * 256+(dz b i).toNat
def uC(b:UInt8):b.toNat<256:=b.toNat_lt
def S9(b):∀i,jw b i<256^i
 |0=>Nat.zero_lt_one
 |i+1=>by have:=S9 b i;have:=uC (dz b i);unfold jw;rw[A8];omega
def ada(b):BitVec.ofNat 32 (jw b 4)=pV b 0:=by unfold pV;refine congrArg (BitVec.ofNat 32) ?_;show(((0 * 256+(dz b 0).toNat) * 256+(dz b 1).toNat) * 256+(dz b 2).toNat) * 256+(dz b 3).toNat=((dz b 0).toNat * 256+(dz b 1).toNat) * 256 * 256+(dz b 2).toNat * 256+(dz b 3).toNat;omega
def or8{t}{x y}{n m}(hn:n<16777216)(hm:m<256):cZ aq .or t x y (aU (BitVec.ofNat 32 n<<<8)) (.v (.int .u32 (IntKind.u32.wrap (m:Nat))))=aa (aU (BitVec.ofNat 32 (n * 256+m))):=by
 have e1:AV.v (.int .u32 (IntKind.u32.wrap (m:Nat)))=aU (BitVec.ofNat 32 m):=by unfold aU;rw[wrap32,BitVec.toNat_ofNat];congr 2
 rw[e1,o8];congr 2;apply BitVec.eq_of_toNat_eq;rw[BitVec.toNat_or,BitVec.toNat_shiftLeft,BitVec.toNat_ofNat,BitVec.toNat_ofNat,BitVec.toNat_ofNat];have:n%2^32=n:=nI ah;rw[this];have h1:n<<<8=n * 256:=by rw[A9]
 have h2:n<<<8%2^32=n<<<8:=nI ah;rw[h2,nI (ah:m<2^32),<-Nat.shiftLeft_add_eq_or_of_lt (ah:m<2^8),h1];exact(nI ah).symm
def arU{t}{x y}{u}:cZ aq .shl t x y (aU u) (.v (.int .u64 8))=aa (aU (u<<<8)):=rz (n:=8) aO
def aup(b:List UInt8)(x:AV)(h:ao)(s:dQ 1 h x (bf b))(hb:4<=b.length):W.call 220 [x] h=aa (.ret (aU (pV b 0)),h):=by
 have u28:=jv;have a5:=Jc;have s5:=sO;obtain⟨y,y1,y2⟩:=s.slice (t:=28) (lo:=ar) (hi:=aa (.v (.int .i64 4))) (l:=0) (m:=4) aO u28 sO (.inr ⟨.i64,rfl,by simpa using hb⟩) (.inl ⟨rfl,rfl⟩) aO;have y3:=y2.len u28;rw[show((My 4 (bf b)).drop 0).length=4 by simp;omega] at y3;have kY:=al.mk y2;clear s y2;refine cL rfl Tryz.func220 rfl ?_;refine oy @ZX ?_;refine cE (λm e h'=>∃i:Nat,i<=4/\m=4 - i/\e.get 6=y/\e.get 7=.v (.int .i64 (4:Nat))/\e.get 8=.v (.int .i64 i)/\e.get 2=aU (BitVec.ofNat 32 (jw b i))/\e.defers=[]/\h'=h) ?_ 4 _ _ ?_;rotate_left 1
 ·refine⟨0,cG _,rfl,?_,?_,?_,?_,?_,rfl⟩<;>(first|assumption|(exact gR))
 rintro m e h' ⟨i,hi,rfl,g6,g7,g8,g2,hd,rfl⟩;by_cases hc:i=4
 ·subst hc;rw[ada] at g2;exact jh @ZX
 ·have aB:i<4:=by omega
  have fP:i<b.length:=by omega
  obtain⟨p,p1,p2,-⟩:=kY.out.index (G:=Gt) (t:=28) (i:=i) (row:=j8 (b[i])) aO u28 sO (by simp[aB,fP]);have p4:=p2 Jc;have e1:(j8 b[i]).head?=aa (.v (.int .u8 (((dz b i).toNat:Nat):Int))):=by unfold dz;rw[dS,aT fP];rfl
  rw[e1] at p4;have l1:=S9 b i;have l2:jw b i<16777216:=mU l1 (by have:256^i<=256^3:=Nat.pow_le_pow_right aO ah;exact this);have l3:=uC (dz b i);clear p2 e1 l1;refine N0 @UC @or8 @arU ?_;refine⟨4 - (i+1),by omega,i+1,by omega,rfl,aX,aX,?_,?_,aX,aX⟩
  ·rfl
  ·rfl
def xk(v:eQ)(n)(hn:n<32):(v<<<(32 - n))|||(v>>>n)=NT.dL v n:=by unfold NT.dL;rw[BitVec.or_comm]
def apG(v:eQ)(h:ao):W.call 221 [aU v,.v (.int .i64 (-2))] h=aa (.ret (aU (NT.dL v 2)),h):=by
 have c1:∀(t:aK) (x y:bT),cZ aq .and t x y (.v (.int .u64 (IntKind.u64.wrap (-2)))) (.v (.int .u64 31))=aa (.v (.int .u64 30)):=λt x y=>by rw[sX];rfl
 have c2:∀(t:aK) (x y:bT),cZ aq .shl t x y (aU v) (.v (.int .u64 30))=aa (aU (v<<<30)):=λt x y=>rz (n:=30) aO;have c3:∀(t:aK) (x y:bT),cZ aq .shr t x y (aU v) (.v (.int .u64 (IntKind.u64.wrap (32 - 30))))=aa (aU (v>>>2)):=λt x y=>sN (n:=2) aO;have c4:=xk v 2 aO;refine cL rfl xT rfl ?_;exact wE @xq @tY @o8
def apJ(v:eQ)(h:ao):W.call 221 [aU v,.v (.int .i64 (-6))] h=aa (.ret (aU (NT.dL v 6)),h):=by
 have c1:∀(t:aK) (x y:bT),cZ aq .and t x y (.v (.int .u64 (IntKind.u64.wrap (-6)))) (.v (.int .u64 31))=aa (.v (.int .u64 26)):=λt x y=>by rw[sX];rfl
 have c2:∀(t:aK) (x y:bT),cZ aq .shl t x y (aU v) (.v (.int .u64 26))=aa (aU (v<<<26)):=λt x y=>rz (n:=26) aO;have c3:∀(t:aK) (x y:bT),cZ aq .shr t x y (aU v) (.v (.int .u64 (IntKind.u64.wrap (32 - 26))))=aa (aU (v>>>6)):=λt x y=>sN (n:=6) aO;have c4:=xk v 6 aO;refine cL rfl xT rfl ?_;exact wE @xq @tY @o8
def apK(v:eQ)(h:ao):W.call 221 [aU v,.v (.int .i64 (-7))] h=aa (.ret (aU (NT.dL v 7)),h):=by
 have c1:∀(t:aK) (x y:bT),cZ aq .and t x y (.v (.int .u64 (IntKind.u64.wrap (-7)))) (.v (.int .u64 31))=aa (.v (.int .u64 25)):=λt x y=>by rw[sX];rfl
 have c2:∀(t:aK) (x y:bT),cZ aq .shl t x y (aU v) (.v (.int .u64 25))=aa (aU (v<<<25)):=λt x y=>rz (n:=25) aO;have c3:∀(t:aK) (x y:bT),cZ aq .shr t x y (aU v) (.v (.int .u64 (IntKind.u64.wrap (32 - 25))))=aa (aU (v>>>7)):=λt x y=>sN (n:=7) aO;have c4:=xk v 7 aO;refine cL rfl xT rfl ?_;exact wE @xq @tY @o8
def apB(v:eQ)(h:ao):W.call 221 [aU v,.v (.int .i64 (-11))] h=aa (.ret (aU (NT.dL v 11)),h):=by
 have c1:∀(t:aK) (x y:bT),cZ aq .and t x y (.v (.int .u64 (IntKind.u64.wrap (-11)))) (.v (.int .u64 31))=aa (.v (.int .u64 21)):=λt x y=>by rw[sX];rfl
 have c2:∀(t:aK) (x y:bT),cZ aq .shl t x y (aU v) (.v (.int .u64 21))=aa (aU (v<<<21)):=λt x y=>rz (n:=21) aO;have c3:∀(t:aK) (x y:bT),cZ aq .shr t x y (aU v) (.v (.int .u64 (IntKind.u64.wrap (32 - 21))))=aa (aU (v>>>11)):=λt x y=>sN (n:=11) aO;have c4:=xk v 11 aO;refine cL rfl xT rfl ?_;exact wE @xq @tY @o8
def apC(v:eQ)(h:ao):W.call 221 [aU v,.v (.int .i64 (-13))] h=aa (.ret (aU (NT.dL v 13)),h):=by
 have c1:∀(t:aK) (x y:bT),cZ aq .and t x y (.v (.int .u64 (IntKind.u64.wrap (-13)))) (.v (.int .u64 31))=aa (.v (.int .u64 19)):=λt x y=>by rw[sX];rfl
 have c2:∀(t:aK) (x y:bT),cZ aq .shl t x y (aU v) (.v (.int .u64 19))=aa (aU (v<<<19)):=λt x y=>rz (n:=19) aO;have c3:∀(t:aK) (x y:bT),cZ aq .shr t x y (aU v) (.v (.int .u64 (IntKind.u64.wrap (32 - 19))))=aa (aU (v>>>13)):=λt x y=>sN (n:=13) aO;have c4:=xk v 13 aO;refine cL rfl xT rfl ?_;exact wE @xq @tY @o8
def apD(v:eQ)(h:ao):W.call 221 [aU v,.v (.int .i64 (-17))] h=aa (.ret (aU (NT.dL v 17)),h):=by
 have c1:∀(t:aK) (x y:bT),cZ aq .and t x y (.v (.int .u64 (IntKind.u64.wrap (-17)))) (.v (.int .u64 31))=aa (.v (.int .u64 15)):=λt x y=>by rw[sX];rfl
 have c2:∀(t:aK) (x y:bT),cZ aq .shl t x y (aU v) (.v (.int .u64 15))=aa (aU (v<<<15)):=λt x y=>rz (n:=15) aO;have c3:∀(t:aK) (x y:bT),cZ aq .shr t x y (aU v) (.v (.int .u64 (IntKind.u64.wrap (32 - 15))))=aa (aU (v>>>17)):=λt x y=>sN (n:=17) aO;have c4:=xk v 17 aO;refine cL rfl xT rfl ?_;exact wE @xq @tY @o8
def apE(v:eQ)(h:ao):W.call 221 [aU v,.v (.int .i64 (-18))] h=aa (.ret (aU (NT.dL v 18)),h):=by
 have c1:∀(t:aK) (x y:bT),cZ aq .and t x y (.v (.int .u64 (IntKind.u64.wrap (-18)))) (.v (.int .u64 31))=aa (.v (.int .u64 14)):=λt x y=>by rw[sX];rfl
 have c2:∀(t:aK) (x y:bT),cZ aq .shl t x y (aU v) (.v (.int .u64 14))=aa (aU (v<<<14)):=λt x y=>rz (n:=14) aO;have c3:∀(t:aK) (x y:bT),cZ aq .shr t x y (aU v) (.v (.int .u64 (IntKind.u64.wrap (32 - 14))))=aa (aU (v>>>18)):=λt x y=>sN (n:=18) aO;have c4:=xk v 18 aO;refine cL rfl xT rfl ?_;exact wE @xq @tY @o8
def apF(v:eQ)(h:ao):W.call 221 [aU v,.v (.int .i64 (-19))] h=aa (.ret (aU (NT.dL v 19)),h):=by
 have c1:∀(t:aK) (x y:bT),cZ aq .and t x y (.v (.int .u64 (IntKind.u64.wrap (-19)))) (.v (.int .u64 31))=aa (.v (.int .u64 13)):=λt x y=>by rw[sX];rfl
 have c2:∀(t:aK) (x y:bT),cZ aq .shl t x y (aU v) (.v (.int .u64 13))=aa (aU (v<<<13)):=λt x y=>rz (n:=13) aO;have c3:∀(t:aK) (x y:bT),cZ aq .shr t x y (aU v) (.v (.int .u64 (IntKind.u64.wrap (32 - 13))))=aa (aU (v>>>19)):=λt x y=>sN (n:=19) aO;have c4:=xk v 19 aO;refine cL rfl xT rfl ?_;exact wE @xq @tY @o8
def apH(v:eQ)(h:ao):W.call 221 [aU v,.v (.int .i64 (-22))] h=aa (.ret (aU (NT.dL v 22)),h):=by
 have c1:∀(t:aK) (x y:bT),cZ aq .and t x y (.v (.int .u64 (IntKind.u64.wrap (-22)))) (.v (.int .u64 31))=aa (.v (.int .u64 10)):=λt x y=>by rw[sX];rfl
 have c2:∀(t:aK) (x y:bT),cZ aq .shl t x y (aU v) (.v (.int .u64 10))=aa (aU (v<<<10)):=λt x y=>rz (n:=10) aO;have c3:∀(t:aK) (x y:bT),cZ aq .shr t x y (aU v) (.v (.int .u64 (IntKind.u64.wrap (32 - 10))))=aa (aU (v>>>22)):=λt x y=>sN (n:=22) aO;have c4:=xk v 22 aO;refine cL rfl xT rfl ?_;exact wE @xq @tY @o8
def apI(v:eQ)(h:ao):W.call 221 [aU v,.v (.int .i64 (-25))] h=aa (.ret (aU (NT.dL v 25)),h):=by
 have c1:∀(t:aK) (x y:bT),cZ aq .and t x y (.v (.int .u64 (IntKind.u64.wrap (-25)))) (.v (.int .u64 31))=aa (.v (.int .u64 7)):=λt x y=>by rw[sX];rfl
 have c2:∀(t:aK) (x y:bT),cZ aq .shl t x y (aU v) (.v (.int .u64 7))=aa (aU (v<<<7)):=λt x y=>rz (n:=7) aO;have c3:∀(t:aK) (x y:bT),cZ aq .shr t x y (aU v) (.v (.int .u64 (IntKind.u64.wrap (32 - 7))))=aa (aU (v>>>25)):=λt x y=>sN (n:=25) aO;have c4:=xk v 25 aO;refine cL rfl xT rfl ?_;exact wE @xq @tY @o8
def apM(v:eQ)(h:ao):W.call 222 [aU v,.v (.int .i64 6),.v (.int .i64 11),.v (.int .i64 25)] h=aa (.ret (aU (NT.dL v 6^^^NT.dL v 11^^^NT.dL v 25)),h):=by
 have w1:IntKind.i64.wrap (0 - 6)= -6:=by decide
 have w2:IntKind.i64.wrap (0 - 11)= -11:=by decide
 have w3:IntKind.i64.wrap (0 - 25)= -25:=by decide
 have c1:=apJ v;have c2:=apB v;have c3:=apI v;refine cL rfl acY rfl ?_;exact Vs @ZY @oI
def apL(v:eQ)(h:ao):W.call 222 [aU v,.v (.int .i64 2),.v (.int .i64 13),.v (.int .i64 22)] h=aa (.ret (aU (NT.dL v 2^^^NT.dL v 13^^^NT.dL v 22)),h):=by
 have w1:IntKind.i64.wrap (0 - 2)= -2:=by decide
 have w2:IntKind.i64.wrap (0 - 13)= -13:=by decide
 have w3:IntKind.i64.wrap (0 - 22)= -22:=by decide
 have c1:=apG v;have c2:=apC v;have c3:=apH v;refine cL rfl acY rfl ?_;exact Vs @ZY @oI
def rv:Tryz.f204.results.toList=[]:=aw
def F3:gU aq 42=aa az:=aw
def xC:dC aq 42=aa 1:=aw
def Jb:gU aq 230=aa ai:=aw
def Fe:dC aq 230=aa 8:=aw
def LV:(jf aq 242).bind AV.cD=aa (bg 64 (aU 0#32)):=aw
def abe:(jf aq 230).bind AV.cD=aa (bg 8 (aU 0#32)):=aw
abbrev b8(l:List eQ):List AV:=l.map aU
def rf{b n}{k}(hn:n<64):dG aq 242 (.ptr (.box b) 0) (.v (.int k (n:Nat)))=aa (.ptr (.box b) n):=by have hu:=ac3;unfold dG;rw[hu];simp only[xC];rw[aG ⟨ah,by omega⟩];simp
def akq{g n}{k}(hn:n<64):dG aq 242 (.ptr (.eR g) 0) (.v (.int k (n:Nat)))=aa (.ptr (.eR g) n):=by have hu:=ac3;unfold dG;rw[hu];simp only[xC];rw[aG ⟨ah,by omega⟩];simp
def yP{b n}{k}(hn:n<8):dG aq 230 (.ptr (.box b) 0) (.v (.int k (n:Nat)))=aa (.ptr (.box b) n):=by have hu:=ac2;unfold dG;rw[hu];simp only[xC];rw[aG ⟨ah,by omega⟩];simp
def rh{H}{b n}{l}(hb:H.boxes[b]?=aa (b8 l))(hn:n<l.length):aI aq Gt H 42 (.ptr (.box b) n)=aa (aU (df l n)):=by rw[mw F3 hb,IX,df,dS,ev,aT hn];rfl
def Iq{H}{b n}{l}{x:eQ}(hb:H.boxes[b]?=aa (b8 l))(hn:n<l.length):cI aq H 42 (.ptr (.box b) n) (aU x)=aa (H.put b (b8 (l.set n x))):=by
 have h1:n+1<=(b8 l).length:=by rw[bE];omega
 rw[ig (xs:=[aU x]) rfl xC hb rfl h1];congr 2;unfold eT b8;rw[A2,aG hn];simp
def akC{H}{t}(ht:t<64):aI aq Gt H 42 (.ptr (.eR 1) t)=aa (aU (yQ t)):=by
 have hl:t<Ev.length:=ht;unfold aI;rw[F3];show((HC.drop t).head?)=_;rw[IX];unfold HC yQ;rw[ev,dS,aT hl];show aa _=aa (aU (BitVec.ofNat 32 Ev[t]));unfold aU;rw[BitVec.toNat_ofNat];have:∀x∈Ev,x<2^32:=by decide
 rw[nI (this _ (iG hl))]
def E7(b):∀n,(iE b n).length=n
 |0=>rfl|n+1=>by rw[iE,dE,E7 b n];rfl
def wl(b:List UInt8)(i:Nat):List eQ:=iE b i++bg (64 - i) 0#32
def uE{b}{i}(hi:i<=64):(wl b i).length=64:=by unfold wl;rw[dE,E7,mB];omega
def aba{b}{i k}(hk:k<i):df (wl b i) k=df (iE b i) k:=by unfold wl df;rw[dS,rK (by rw[E7];exact hk),dS]
def LS{b}{i}{x}(hi:i<64)(hx:x=if i<16 then pV b (4 * i) else EC (iE b i) i):(wl b i).set i x=wl b (i+1):=by subst hx;unfold wl;have h1:=E7 b i;obtain⟨k,hk⟩:∃k,64 - i=k+1:=⟨63 - i,by omega⟩;rw[Mx _ _ ah,h1,tU,hk,A1,Sy,(ah:64 - (i+1)=k),iE,sR];rfl
def abb(b):b8 (wl b 0)=bg 64 (aU 0#32):=by show List.map aU ([]++bg 64 0#32)=_;rw[mC,xQ]
def RX(b):wl b 64=iE b 64:=by unfold wl;simp
def aun(b)(k):pV (b.drop k) 0=pV b k:=by unfold pV dz;simp only[dS,oN,A4,po]
def apN(w v)(t)(a b c d e f g i)(hv:v=[a,b,c,d,e,f,g,i]):HS w v t=
 [i+(NT.dL e 6^^^NT.dL e 11^^^NT.dL e 25)+(g^^^(e&&&(f^^^g)))+yQ t+df w t+((NT.dL a 2^^^NT.dL a 13^^^NT.dL a 22)+((a&&&b)|||(c&&&(a|||b)))),
  a,b,c,d+(i+(NT.dL e 6^^^NT.dL e 11^^^NT.dL e 25)+(g^^^(e&&&(f^^^g)))+yQ t+df w t),e,f,g]:=by
 subst hv;rw[afG,alg];rfl
def eight{l:List eQ}(h:l.length=8):∃a b c d e f g i,l=[a,b,c,d,e,f,g,i]:=by
 match l,h with
 | [a,b,c,d,e,f,g,i],_=>exact⟨a,b,c,d,e,f,g,i,rfl⟩
def vF(s:List eQ)(b:List UInt8)(t:Nat):List eQ:=(bR t).foldl (HS (iE b 64)) s
def RU(s)(b)(t):vF s b (t+1)=HS (iE b 64) (vF s b t) t:=by unfold vF;rw[nH,oM];rfl
def RT{s}(b)(hs:s.length=8):∀t,(vF s b t).length=8
 |0=>hs
 |t+1=>by rw[RU];rfl
def zf(s v:List eQ)(i:Nat):List eQ:=FO (·+·) (s.take i) (v.take i)++s.drop i
def auP{s v}(hs:s.length=8)(hv:v.length=8){i}(hi:i<=8):(zf s v i).length=8:=by unfold zf;simp;omega
def auO{s v}(hs:s.length=8)(hv:v.length=8){i}(hi:i<8):df (zf s v i) i=df s i:=by unfold zf df;rw[dS,zC (by simp;omega),oN,dS];congr 2;simp;omega
def auQ{s v}(hs:s.length=8)(hv:v.length=8){i}(hi:i<8):(zf s v i).set i (df s i+df v i)=zf s v (i+1):=by
 obtain⟨a,b,c,d,e,f,g,j,rfl⟩:=eight hs;obtain⟨a',b',c',d',e',f',g',j',rfl⟩:=eight hv;have:i=0∨i=1∨i=2∨i=3∨i=4∨i=5∨i=6∨i=7:=by omega
 rcases this with rfl|rfl|rfl|rfl|rfl|rfl|rfl|rfl<;>rfl
def auN{s b}(hs:s.length=8)(hv:b.length=8):zf s b 8=FO (·+·) s b:=by unfold zf;rw[gO ah,gO ah,pZ ah,jX]
end Go.Proofs.YtnfciiiohoafaaaGreatDoor
end
section
namespace Go.AE
section
variable {b n0:Nat} {h h':ao}
def fT.gh(m:fT b n0 h h'){c:Nat}(hc:h.boxes.length<=c)(cs:List AV):fT b n0 h (h'.put c cs):=by refine⟨λd ds hd hb=>?_,by rw[mP];exact m.len,m.loop,m.tn,m.dead,m.ok⟩;have aB:d<h.boxes.length:=(aV.1 hb).1;rw[dg ah];exact m.box d ds hd hb
def fT.push(m:fT b n0 h h')(cs:List AV):fT b n0 h (h'.push cs):=
 ⟨λd ds hd hb=>bA (m.box d ds hd hb),by rw[cX];exact Nat.le_succ_of_le m.len,m.loop,m.tn,m.dead,m.ok⟩
end
def fT.tN{b n0 n1}{h h'}(m:fT b n1 h h')(hn:n0<=n1):fT b n0 h h':=⟨m.box,m.len,m.loop,m.tn,λk hk hd=>m.dead k (mU hk hn) hd,m.ok⟩
def dD.mut{b n0 n1}{h h'}{k}(hk:dD n0 h k)(m:fT b n1 h h')(hn:h.tn<=n1):dD n0 h' k:=by
 rcases hk with q|q|⟨z,q,q2,q3⟩
 ·exact .inl q
 ·exact .inr (.inl q)
 ·refine .inr (.inr ⟨z,q,q2,?_⟩);unfold alive at q3 ⊢;simp only[bL,decide_eq_true_eq,zj,List.contains_eq_mem,decide_eq_false_iff_not] at q3 ⊢;exact⟨mU q3.1 m.tn,λhd=>q3.2 (m.dead z (mU q3.1 hn) hd)⟩
end Go.AE
end
section
namespace Go.Proofs.YtnfciiiohoafaaaGreatDoor
open Go.AE Go.NT
def xx{t}{x y}{u}:cZ aq .shr t x y (aU u) (.v (.int .u64 3))=aa (aU (u>>>3)):=sN (n:=3) aO
def xw{t}{x y}{u}:cZ aq .shr t x y (aU u) (.v (.int .u64 10))=aa (aU (u>>>10)):=sN (n:=10) aO
def Jo{s}(hs:s.length=8):(AV.agg (b8 s)).cD=aa (b8 s):=by obtain⟨a,b,c,d,e,f,g,j,rfl⟩:=eight hs;rfl
def RV(n):b8 (bg n 0#32)=bg n (aU 0#32):=by simp[b8]
def qV{R}{c}{e}{h}{I}{m}{Q0}(hq:∀Q,bM R c e h (Co I m Q)):bM R c e h (Co I m Q0):=hq Q0
def KQ{h:ao}{b}{xs ys}:(h.put b xs).put b ys=h.put b ys:=by unfold ao.put;simp only[Db]
def ldp{H:ao}{b k}{cs}(hb:b<H.boxes.length):aI aq Gt (H.put b cs) 42 (.ptr (.box b) k)=(cs.drop k).head?:=mw F3 (eP hb)
def stp{H:ao}{b k}{cs}{x:eQ}(hb:b<H.boxes.length)(hk:k+1<=cs.length):cI aq (H.put b cs) 42 (.ptr (.box b) k) (aU x)=aa (H.put b (cs.set k (aU x))):=by rw[ig (xs:=[aU x]) rfl xC (eP hb) rfl hk,KQ];congr 2;unfold eT;rw[A2,aG (show k<cs.length from hk)];simp
def ar7{b}:gY aq 230 (.ptr (.box b) 0) (aa (.v (.int .i64 1))) ar ar=aa (.arr b 1 7 7):=aw
def ar8{b}:gY aq 230 (.ptr (.box b) 0) ar (aa (.v (.int .i64 7))) ar=aa (.arr b 0 7 8):=aw
def agn{H}{b}{a0 a1 a2 a3 a4 a5 a6 a7}(hb:H.boxes[b]?=aa [a0,a1,a2,a3,a4,a5,a6,a7]):zQ aq H #[43,43] (.arr b 1 7 7) (.arr b 0 7 8)=aa (.v (.int .i64 7),H.put b [a0,a0,a1,a2,a3,a4,a5,a6]):=by
 have hn:mM H 1 (.arr b 0 7 8)=aa [[a0],[a1],[a2],[a3],[a4],[a5],[a6]]:=by show rowsOf H 1 (.arr b 0 7 8)=_;unfold rowsOf;simp only[hb];rfl
 have hi:∃i,aq.info? 42=aa i/\i.size=1:=by
  have u6:=xC;unfold dC at u6;cases hq:aq.info? 42 with
  |none=>rw[hq] at u6;cases u6
  |some i=>rw[hq] at u6;exact⟨i,rfl,by simpa using u6⟩
 obtain⟨i,h1,h2⟩:=hi;have hu:((#[43,43]:Array Nat)[0]?).bind aq.underlying=aa (.slice 42):=aw;unfold zQ;rw[hu];simp only[h1,h2,hn,hb];rfl
def MS(s:List eQ)(b:List UInt8)(sb:Nat)(x:AV)(h:ao)(hs:s.length=8)(hb:64<=b.length)(kD:h.boxes[sb]?=aa (b8 s))
 (hx:∀H,fT sb h.tn h H->dQ 1 H x (bf b)):
 ∃h',W.call 204 [.ptr (.box sb) 0,x] h=aa (.ret (.tuple []),h')/\h'.boxes[sb]?=aa (b8 (wm s b))/\fT sb h.tn h h':=by
 have kX:=al.mk hx;clear hx;have avq:=(aV.1 kD).1;have kz:=al.mk (abb b);have z242:=LV;refine iu rfl Tryz.func204 rfl ?_
 repeat' (first|simp(maxSteps:=999999)(disch:=first|exact dZ|fail)only[gW,reduceIte,aZ,aQ,rv,cX, *]|refine dX ?_ ?_<;>(intro _;try omega))
 refine cE (λm e H=>∃i:Nat,i<=16/\m=16 - i/\e.get 0=.ptr (.box sb) 0/\e.get 1=x/\e.get 4=.ptr (.box h.boxes.length) 0/\e.get 14=.v (.int .i64 i)/\e.defers=[]/\H.boxes[h.boxes.length]?=aa (b8 (wl b i))/\H.boxes[sb]?=aa (b8 s)/\fT sb h.tn h H) ?_ 16 _ _ ?_;rotate_left 1
 ·refine⟨0,cG _,rfl,?_,?_,?_,?_,?_,?_,bA kD,(fT.refl _ _ _).push _⟩
  iterate 5 (first|assumption|(exact gR))
  rw[kz.out];exact bh _ _
 clear z242 kz;rintro m e H ⟨i,hi,rfl,g0,g1,g4,g14,hd,hw,mL,hM⟩;have kM:=al.mk hM;have vd:=hM.len;clear hM;by_cases hc:i=16;rotate_left 1
 ·refine qV λQ=>?_;have aB:i<16:=by omega
  have sD:=kX.out H kM.out;obtain⟨y,y1,y2⟩:=sD.slice (t:=28) (lo:=aa (.v (.int .i64 ((4 * i:Nat):Int)))) (hi:=ar) (l:=4 * i) (m:=b.length) aO jv sO (.inl ⟨rfl,by rw[bE]⟩) (.inr ⟨.i64,rfl⟩) ah;have y3:dQ 1 H y (bf (b.drop (4 * i))):=by have e:(My b.length (bf b)).drop (4 * i)=bf (b.drop (4 * i)):=(by rw[gO (by rw[bE];exact aM _),<-aca]);rw[<-e];exact y2
  have cw:=aup _ y H y3 (by rw[hD];omega);rw[aun] at cw;have e4:IntKind.i64.wrap (4 * ((i:Nat):Int))=((4 * i:Nat):Int):=by rw[gF ah ah];omega
  have st:=λz=>Iq (x:=z) hw (n:=i) (by rw[uE ah];omega);have ct:=λz hz=>LS (b:=b) (i:=i) (x:=z) ah hz;have Eh:=ct (pV b (4 * i)) (by rw[aG aB]);have kst:=al.mk Eh;have kL:=(aV.1 hw).1;have ks:=al.mk mL;clear ct Eh sD y2 y3 hw mL kD;have ix:=rf (b:=h.boxes.length) (n:=i) (k:=.i64) ah
  repeat' (first|simp(maxSteps:=999999)(disch:=first|exact dZ|fail)only[gW,reduceIte,aZ,aQ,rv, *]|refine dX ?_ ?_<;>(intro _;try omega))
  refine⟨16 - (i+1),by omega,i+1,by omega,rfl,aX,aX,aX,rfl,aX,?_,?_,kM.out.gh (aM _) _⟩
  ·rw[kst.out];exact eP kL
  ·rw[dg ah];exact ks.out
 subst hc;have kw:=al.mk hw;have ks:=al.mk mL;clear hw mL kD
 repeat' (first|simp(maxSteps:=999999)(disch:=first|exact dZ|fail)only[gW,reduceIte,aZ,aQ,rv, *]|refine dX ?_ ?_<;>(intro _;try omega))
 refine cE (λm e H=>∃i:Nat,16<=i/\i<=64/\m=64 - i/\e.get 0=.ptr (.box sb) 0/\e.get 4=.ptr (.box h.boxes.length) 0/\e.get 6=.v (.int .i64 i)/\e.defers=[]/\H.boxes[h.boxes.length]?=aa (b8 (wl b i))/\H.boxes[sb]?=aa (b8 s)/\fT sb h.tn h H) ?_ 48 _ _ ?_;rotate_left 1
 ·refine⟨16,by decide,by decide,rfl,?_,?_,?_,?_,kw.out,ks.out,kM.out⟩<;>(first|assumption|(exact gR))
 clear kw ks kM g0 g1 g4 g14 hd vd hi;rintro m e H ⟨i,Oy,hi,rfl,g0,g4,g6,hd,hw,mL,hM⟩;have kM:=al.mk hM;have vd:=hM.len;clear hM;by_cases hc:i=64;rotate_left 1
 ·refine qV λQ=>?_;have l0:=rh hw (n:=i - 16) (by rw[uE hi];omega);have l1:=rh hw (n:=i - 15) (by rw[uE hi];omega);have l2:=rh hw (n:=i - 7) (by rw[uE hi];omega);have l3:=rh hw (n:=i - 2) (by rw[uE hi];omega);rw[aba ah] at l0 l1 l2 l3;have i0:=rf (b:=h.boxes.length) (n:=i - 16) (k:=.i64) ah;have i1:=rf (b:=h.boxes.length) (n:=i - 15) (k:=.i64) ah;have i2:=rf (b:=h.boxes.length) (n:=i - 7) (k:=.i64) ah;have i3:=rf (b:=h.boxes.length) (n:=i - 2) (k:=.i64) ah;have i4:=rf (b:=h.boxes.length) (n:=i) (k:=.i64) ah;have e0:IntKind.i64.wrap (((i:Nat):Int) - 16)=((i - 16:Nat):Int):=by rw[gF ah ah];omega
  have e1:IntKind.i64.wrap (((i:Nat):Int) - 15)=((i - 15:Nat):Int):=by rw[gF ah ah];omega
  have e2:IntKind.i64.wrap (((i:Nat):Int) - 7)=((i - 7:Nat):Int):=by rw[gF ah ah];omega
  have e3:IntKind.i64.wrap (((i:Nat):Int) - 2)=((i - 2:Nat):Int):=by rw[gF ah ah];omega
  have st:=λz=>Iq (x:=z) hw (n:=i) (by rw[uE hi];omega);have Eh:=LS (b:=b) (i:=i) (x:=EC (iE b i) i) ah (by rw[aH ah]);unfold EC at Eh;have kst:=al.mk Eh;have r7:=λH=>apK (df (iE b i) (i - 15)) H;have r18:=λH=>apE (df (iE b i) (i - 15)) H;have r17:=λH=>apD (df (iE b i) (i - 2)) H;have r19:=λH=>apF (df (iE b i) (i - 2)) H;have kw:=al.mk hw;have ks:=al.mk mL;clear Eh hw mL
  repeat' (first|simp(maxSteps:=999999)(disch:=first|exact dZ|fail)only[gW,reduceIte,aZ,aQ,rv,oI,ot,xx,xw, *]|refine dX ?_ ?_<;>(intro _;try omega))
  refine uA aw ?_
  repeat' (first|simp(maxSteps:=999999)(disch:=first|exact dZ|fail)only[gW,reduceIte,aZ,aQ,rv,oI,ot,xx,xw, *]|refine dX ?_ ?_<;>(intro _;try omega))
  refine Rk [6,8,20,22] [] aw ?_ (λp hp=>nomatch hp) ?_
  ·intro k hk;simp only[iq,List.not_mem_nil,or_false] at hk;rcases hk with rfl|rfl|rfl|rfl
   ·refine Dx (x:=aU (NT.dL (df (iE b i) (i - 15)) 7)) rfl rfl ?_ ?_
    ·simp only[gl,fm]
     repeat' (first|simp(maxSteps:=999999)(disch:=first|exact dZ|fail)only[gW,reduceIte,aZ,aQ, *]|refine dX ?_ ?_<;>(intro _;try omega))
     exact⟨by trivial,λ_=>by trivial⟩
    ·repeat' (first|simp(maxSteps:=999999)(disch:=first|exact dZ|fail)only[gW,reduceIte,aZ,aQ,oI,ot,xx,xw, *]|refine dX ?_ ?_<;>(intro _;try omega))
   ·refine Dx (x:=aU (NT.dL (df (iE b i) (i - 15)) 18)) rfl rfl ?_ ?_
    ·simp only[gl,fm]
     repeat' (first|simp(maxSteps:=999999)(disch:=first|exact dZ|fail)only[gW,reduceIte,aZ,aQ, *]|refine dX ?_ ?_<;>(intro _;try omega))
     exact⟨by trivial,λ_=>by trivial⟩
    ·repeat' (first|simp(maxSteps:=999999)(disch:=first|exact dZ|fail)only[gW,reduceIte,aZ,aQ,oI,ot,xx,xw, *]|refine dX ?_ ?_<;>(intro _;try omega))
   ·refine Dx (x:=aU (NT.dL (df (iE b i) (i - 2)) 17)) rfl rfl ?_ ?_
    ·simp only[gl,fm]
     repeat' (first|simp(maxSteps:=999999)(disch:=first|exact dZ|fail)only[gW,reduceIte,aZ,aQ,oI,ot,xx,xw, *]|refine dX ?_ ?_<;>(intro _;try omega))
     exact⟨by trivial,λ_=>by trivial⟩
    ·repeat' (first|simp(maxSteps:=999999)(disch:=first|exact dZ|fail)only[gW,reduceIte,aZ,aQ,oI,ot,xx,xw, *]|refine dX ?_ ?_<;>(intro _;try omega))
   ·refine Dx (x:=aU (NT.dL (df (iE b i) (i - 2)) 19)) rfl rfl ?_ ?_
    ·simp only[gl,fm]
     repeat' (first|simp(maxSteps:=999999)(disch:=first|exact dZ|fail)only[gW,reduceIte,aZ,aQ,oI,ot,xx,xw, *]|refine dX ?_ ?_<;>(intro _;try omega))
     exact⟨by trivial,λ_=>by trivial⟩
    ·repeat' (first|simp(maxSteps:=999999)(disch:=first|exact dZ|fail)only[gW,reduceIte,aZ,aQ,oI,ot,xx,xw, *]|refine dX ?_ ?_<;>(intro _;try omega))
  repeat' (first|simp(maxSteps:=999999)(disch:=first|exact dZ|fail)only[gW,reduceIte,aZ,aQ,rv,oI,ot,xx,xw, *]|refine dX ?_ ?_<;>(intro _;try omega))
  refine⟨64 - (i+1),by omega,i+1,by omega,by omega,rfl,aX,aX,rfl,aX,?_,?_,kM.out.gh (aM _) _⟩
  ·rw[kst.out];exact eP (aV.1 kw.out).1
  ·rw[dg ah];exact ks.out
 subst hc;rw[RX] at hw;have a230:=Jb;have s230:=Fe;have lds:aI aq Gt H 230 (.ptr (.box sb) 0)=aa (.agg (b8 s)):=by
  have h8:(b8 s).length=8:=by rw[bE];exact hs
  rw[iC Jb Fe mL (by rw[h8];exact aM _),iX,gO (by rw[h8];exact aM _)]
 have cs8:(AV.agg (b8 s)).cD=aa (b8 s):=Jo hs;have zz:(jf aq 230).bind AV.cD=aa (b8 (bg 8 0#32)):=by rw[RV];exact abe
 have spz:∀H:ao,cI aq (H.push (b8 (bg 8 0#32))) 230 (.ptr (.box H.boxes.length) 0) (.agg (b8 s))=aa (H.push (b8 s)):=λH=>l9 (Jo hs) Fe (by rw[bE];exact hs) (by rw[bE];rfl);have kL:=(aV.1 hw).1;have kw:=al.mk hw;have ks:=al.mk mL;clear hw mL;have hM:=kM.out
 repeat' (first|simp(maxSteps:=999999)(disch:=first|exact dZ|fail)only[gW,reduceIte,aZ,aQ,rv, *]|refine dX ?_ ?_<;>(intro _;try omega))
 refine cE (λm e H2=>∃i:Nat,i<=64/\m=64 - i/\e.get 0=.ptr (.box sb) 0/\e.get 4=.ptr (.box h.boxes.length) 0/\e.get 9=.ptr (.box H.boxes.length) 0/\e.get 69=.v (.int .i64 i)/\e.defers=[]/\H2.boxes[h.boxes.length]?=aa (b8 (iE b 64))/\H2.boxes[sb]?=aa (b8 s)/\H2.boxes[H.boxes.length]?=aa (b8 (vF s b i))/\fT sb h.tn h H2) ?_ 64 _ _ ?_;rotate_left 1
 ·refine⟨0,by decide,rfl,?_,?_,?_,?_,?_,bA kw.out,bA ks.out,bh _ _,kM.out.push _⟩<;>(first|assumption|(exact gR))
 clear kw ks kM g0 g4 g6 hd lds cs8 zz spz hi Oy hM;have hHL:h.boxes.length<H.boxes.length:=kL;generalize hvb:H.boxes.length=vb at *
 clear hvb kL vd;rintro m e H ⟨i,hi,rfl,g0,g4,g9,g69,hd,hw,mL,hv,hM⟩;have kM:=al.mk hM;have vd:=hM.len;clear hM;by_cases hc:i=64;rotate_left 1
 ·refine qV λQ=>?_;have aB:i<64:=by omega
  have lw:=rh hw (n:=i) (by rw[E7];exact aB);have lk:=λH=>akC (H:=H) aB;have iw:=rf (b:=h.boxes.length) (n:=i) (k:=.i64) aB;have ik:=akq (g:=1) (n:=i) (k:=.i64) aB;have kR:=al.mk (RU s b i);obtain⟨v0,v1,v2,v3,v4,v5,v6,v7,Pv⟩:=eight (RT b hs i);have kE:=al.mk (apN (iE b 64) _ i _ _ _ _ _ _ _ _ Pv);rw[Pv] at hv;have r1:=λH=>apM v4 H;have r2:=λH=>apL v0 H;have qx:H.boxes[vb]?=aa [aU v0,aU v1,aU v2,aU v3,aU v4,aU v5,aU v6,aU v7]:=hv;have kw:=al.mk hw;have ks:=al.mk mL;clear hw mL hv Pv;have j0:dG aq 230 (.ptr (.box vb) 0) (.v (.int .i64 0))=aa (.ptr (.box vb) 0):=yP (n:=0) aO;have j1:dG aq 230 (.ptr (.box vb) 0) (.v (.int .i64 1))=aa (.ptr (.box vb) 1):=yP (n:=1) aO;have j2:dG aq 230 (.ptr (.box vb) 0) (.v (.int .i64 2))=aa (.ptr (.box vb) 2):=yP (n:=2) aO;have j4:dG aq 230 (.ptr (.box vb) 0) (.v (.int .i64 4))=aa (.ptr (.box vb) 4):=yP (n:=4) aO;have j5:dG aq 230 (.ptr (.box vb) 0) (.v (.int .i64 5))=aa (.ptr (.box vb) 5):=yP (n:=5) aO;have j6:dG aq 230 (.ptr (.box vb) 0) (.v (.int .i64 6))=aa (.ptr (.box vb) 6):=yP (n:=6) aO;have j7:dG aq 230 (.ptr (.box vb) 0) (.v (.int .i64 7))=aa (.ptr (.box vb) 7):=yP (n:=7) aO;have pN:=(aV.1 qx).1;have a42:=F3;have s42:=xC;have cp:=agn qx;have sla:=ar7 (b:=vb);have slb:=ar8 (b:=vb)
  repeat' (first|simp(maxSteps:=999999)(disch:=first|exact dZ|fail)only[gW,reduceIte,aZ,aQ,rv,oI,ot,Dp,o8,zA,iX,AY, *]|refine dX ?_ ?_<;>(intro _;try omega))
  refine Rk [4] [] aw ?_ (λp hp=>nomatch hp) ?_
  ·intro k hk;simp only[lu] at hk;subst hk;refine Dx (x:=aU (NT.dL v4 6^^^NT.dL v4 11^^^NT.dL v4 25)) rfl rfl ?_ ?_
   ·simp only[gl,fm]
    repeat' (first|simp(maxSteps:=999999)(disch:=first|exact dZ|fail)only[gW,reduceIte,aZ,aQ,zA,iX,AY, *]|refine dX ?_ ?_<;>(intro _;try omega))
    exact⟨by trivial,λ_=>by trivial⟩
   ·repeat' (first|simp(maxSteps:=999999)(disch:=first|exact dZ|fail)only[gW,reduceIte,aZ,aQ,oI,ot,Dp,o8,zA,iX,AY, *]|refine dX ?_ ?_<;>(intro _;try omega))
  repeat' (first|simp(maxSteps:=999999)(disch:=first|exact dZ|fail)only[gW,reduceIte,aZ,aQ,rv,oI,ot,Dp,o8,zA,iX,AY, *]|refine dX ?_ ?_<;>(intro _;try omega))
  refine Rk [2] [] aw ?_ (λp hp=>nomatch hp) ?_
  ·intro k hk;simp only[lu] at hk;subst hk;refine Dx (x:=aU (NT.dL v0 2^^^NT.dL v0 13^^^NT.dL v0 22)) rfl rfl ?_ ?_
   ·simp only[gl,fm]
    repeat' (first|simp(maxSteps:=999999)(disch:=first|exact dZ|fail)only[gW,reduceIte,aZ,aQ,zA,iX,AY, *]|refine dX ?_ ?_<;>(intro _;try omega))
    exact⟨by trivial,λ_=>by trivial⟩
   ·repeat' (first|simp(maxSteps:=999999)(disch:=first|exact dZ|fail)only[gW,reduceIte,aZ,aQ,oI,ot,Dp,o8,zA,iX,AY, *]|refine dX ?_ ?_<;>(intro _;try omega))
  repeat' (first|simp(maxSteps:=999999)(disch:=first|exact dZ|fail)only[gW,reduceIte,aZ,aQ,rv,oI,ot,Dp,o8,zA,iX,AY, *]|refine dX ?_ ?_<;>(intro _;try omega))
  refine uA aw ?_;clear qx
  repeat' (first|simp(maxSteps:=999999)(disch:=first|exact dZ|fail)only[gW,reduceIte,aZ,aQ,rv,ldp,stp,KQ,ot,zA,iX,AY,Sy,List.set_cons_succ, *]|refine dX ?_ ?_<;>(intro _;try omega))
  refine⟨64 - (i+1),by omega,i+1,by omega,rfl,aX,aX,aX,rfl,aX,?_,?_,?_,kM.out.gh ah _⟩
  ·rw[dg ah];exact kw.out
  ·rw[dg ah];exact ks.out
  ·rw[eP pN,kR.out,kE.out];rfl
 subst hc;have VU:wm s b=FO (·+·) s (vF s b 64):=rfl;rw[VU];have h8:=RT b hs 64;generalize vF s b 64=v at *
 have pN:=(aV.1 hv).1;have ks:=al.mk mL;have kv:=al.mk hv;clear hw mL hv VU
 repeat' (first|simp(maxSteps:=999999)(disch:=first|exact dZ|fail)only[gW,reduceIte,aZ,aQ,rv, *]|refine dX ?_ ?_<;>(intro _;try omega))
 refine cE (λm e H2=>∃i:Nat,i<=8/\m=8 - i/\e.get 0=.ptr (.box sb) 0/\e.get 9=.ptr (.box vb) 0/\e.get 129=.v (.int .i64 i)/\e.defers=[]/\H2.boxes[sb]?=aa (b8 (zf s v i))/\H2.boxes[vb]?=aa (b8 v)/\fT sb h.tn h H2) ?_ 8 _ _ ?_;rotate_left 1
 ·refine⟨0,by decide,rfl,?_,?_,?_,?_,ks.out,kv.out,kM.out⟩<;>(first|assumption|(exact gR))
 clear ks kv kM g0 g4 g9 g69 hd vd hi;rintro m e H ⟨i,hi,rfl,g0,g9,g129,hd,mL,hv,hM⟩;have kM:=al.mk hM;clear hM;by_cases hc:i=8;rotate_left 1
 ·refine qV λQ=>?_;have aB:i<8:=by omega
  have hz:=auP hs h8 hi;have l1:=rh mL (n:=i) ah;have l2:=rh hv (n:=i) ah;rw[auO hs h8 aB] at l1;have j1:=yP (b:=sb) (n:=i) (k:=.i64) aB;have j2:=yP (b:=vb) (n:=i) (k:=.i64) aB;have st:=Iq (x:=df s i+df v i) mL (n:=i) ah;rw[auQ hs h8 aB] at st;have kK:=(aV.1 mL).1;have kv:=al.mk hv;clear mL hv
  repeat' (first|simp(maxSteps:=999999)(disch:=first|exact dZ|fail)only[gW,reduceIte,aZ,aQ,rv, *]|refine dX ?_ ?_<;>(intro _;try omega))
  refine uA aw ?_
  repeat' (first|simp(maxSteps:=999999)(disch:=first|exact dZ|fail)only[gW,reduceIte,aZ,aQ,rv,ot, *]|refine dX ?_ ?_<;>(intro _;try omega))
  refine⟨8 - (i+1),by omega,i+1,by omega,rfl,aX,aX,rfl,aX,eP kK,?_,kM.out.trans (.put _ _ _ _)⟩;rw[dg ah];exact kv.out
 subst hc;rw[auN hs h8] at mL;have ks:=al.mk mL;clear mL hv
 repeat' (first|simp(maxSteps:=999999)(disch:=first|exact dZ|fail)only[gW,reduceIte,aZ,aQ,rv, *]|refine dX ?_ ?_<;>(intro _;try omega))
 exact⟨_,rfl,ks.out,kM.out⟩
def Q3:Tryz.f205.results.toList=[]:=aw
def agF(n)(h):nm aq h 42 216 (.v (.int .u32 n))=aa (.v (.int .u64 (IntKind.u64.wrap n)),h):=aw
def qR(n)(h):nm aq h 3 216 (.v (.int .i64 n))=aa (.v (.int .u64 (IntKind.u64.wrap n)),h):=aw
def DD(n)(h):nm aq h 216 5 (.v (.int .u64 n))=aa (.v (.int .u8 (IntKind.u8.wrap n)),h):=aw
def cq(b:UInt8):AV:=.v (.int .u8 b.toNat)
abbrev b7(l:List UInt8):List AV:=l.map cq
def uS(n k:Nat):List UInt8:=(bR k).map λi=>UInt8.ofNat (n/256^(k - 1 - i))
def M8(n k):(uS n k).length=k:=by simp[uS]
def vK(cs:List AV)(off len n i:Nat):List AV:=cs.take (off+len - i)++b7 ((uS n len).drop (len - i))++cs.drop (off+len)
def anD{cs}{off len n}:vK cs off len n 0=cs:=by unfold vK;rw[SH,SH,pZ (by rw[M8];exact aM _)];show My (off+len) cs++[]++_=_;rw[jX,xR]
def anB{cs}{off len n i}(hi:i<=len)(hl:off+len<=cs.length):(vK cs off len n i).length=cs.length:=by unfold vK;simp only[dE,fj,bE,hD,M8];omega
def anC{cs}{off len n i}(hi:i<len)(hl:off+len<=cs.length):(vK cs off len n i).set (off+(len - 1 - i)) (cq (UInt8.ofNat (n/256^i)))=vK cs off len n (i+1):=by
 unfold vK;have e1:off+len - i=(off+(len - 1 - i))+1:=by omega
 have e2:off+len - (i+1)=off+(len - 1 - i):=by omega
 have aB:off+(len - 1 - i)<cs.length:=by omega
 have e3:(uS n len).drop (len - (i+1))=UInt8.ofNat (n/256^i)::(uS n len).drop (len - i):=by
  rw[xP (by rw[M8];omega)];congr 1
  ·unfold uS;rw[qN,AX];congr 3;omega
  ·congr 1;omega
 rw[e1,e2,e3,aco aB];generalize he:cs[off+(len - 1 - i)]=z;rw[sR,sR,Mx _ _ (by rw[fj];omega),fj,show off+(len - 1 - i) - min (off+(len - 1 - i)) cs.length=0 by omega];simp
def Cv(cs:List AV)(off len n:Nat):List AV:=cs.take off++b7 (uS n len)++cs.drop (off+len)
def anA{cs}{off len n}:vK cs off len n len=Cv cs off len n:=by unfold vK Cv;rw[tU,iX,Nat.add_sub_cancel]
def XC{b off len aC n}{k}(hn:n<len):dG aq 28 (.arr b off len aC) (.v (.int k (n:Nat)))=aa (.ptr (.box b) (off+n)):=by rw[Ep jv sO ah ah,dK,oo]
def LG{H}{b k}{cs}{v}(hb:H.boxes[b]?=aa cs)(hk:k<cs.length):cI aq H 5 (.ptr (.box b) k) (cq v)=aa (H.put b (cs.set k (cq v))):=by rw[ig (xs:=[cq v]) rfl sO hb rfl hk];congr 2;unfold eT;rw[A2,aG (show k<cs.length from hk)];simp
def RQ(m):AV.v (.int .u8 (IntKind.u8.wrap ((m:Nat):Int)))=cq (UInt8.ofNat m):=by unfold cq;rw[show(UInt8.ofNat m).toNat=m%256 from UInt8.toNat_ofNat'];unfold IntKind.wrap;simp[IntKind.signed,IntKind.bits]
def QI(b off len aC n:Nat)(cs:List AV)(h:ao)(hl:len<=8)(hn:n<18446744073709551616)(hb:h.boxes[b]?=aa cs)(hc:off+len<=cs.length):
 W.call 205 [.arr b off len aC,.v (.int .u64 (n:Nat))] h=aa (.ret (.tuple []),h.put b (Cv cs off len n)):=by
 have u28:=jv;have Oc:=(aV.1 hb).1;have k0:=al.mk (sM hb);clear hb;refine cL rfl Tryz.func205 rfl ?_;refine oy @Q3 ?_;refine cE (λm e H=>∃i:Nat,i<=len/\m=len - i/\e.get 0=.arr b off len aC/\e.get 1=.v (.int .u64 (n:Nat))/\e.get 6=.v (.int .i64 (len:Nat))/\e.get 7=.v (.int .i64 i)/\e.defers=[]/\H=h.put b (vK cs off len n i)) ?_ len _ _ ?_;rotate_left 1
 ·refine⟨0,cG _,rfl,?_,?_,?_,?_,?_,by rw[anD];exact k0.out.symm⟩<;>(first|assumption|(exact gR))
 rintro m e H ⟨i,hi,rfl,g0,g1,g6,g7,hd,rfl⟩;by_cases BJ:i=len
 ·subst BJ;rw[anA];exact jh @Q3
 ·refine qV λQ=>?_;have aB:i<len:=by omega
  have e1:IntKind.i64.wrap (8 * ((i:Nat):Int))=((8 * i:Nat):Int):=by rw[gF ah ah];omega
  have e2:IntKind.i64.wrap (((len:Nat):Int) - 1)=((len - 1:Nat):Int):=by rw[gF ah ah];omega
  have e3:IntKind.i64.wrap (((len - 1:Nat):Int) - ((i:Nat):Int))=((len - 1 - i:Nat):Int):=by rw[gF ah ah];omega
  have sh:∀(t:aK) (x y:bT),cZ aq .shr t x y (.v (.int .u64 (n:Nat))) (.v (.int .i64 ((8 * i:Nat):Int)))=aa (.v (.int .u64 ((n/256^i:Nat):Int))):=λt x y=>by rw[Bg ah,dK,show IntKind.u64.bits=64 from rfl,De ah];congr 3;rw[Fz _ (by have:(0:Int)<2^(8 * i):=abN aO;omega)];have e8:(2:Int)^(8 * i)=((256^i:Nat):Int):=(by rw[FB];simp);rw[e8];rfl
  have uv:=RQ (n/256^i);have ix:=XC (b:=b) (off:=off) (aC:=aC) (k:=.i64) (ah:len - 1 - i<len);have st:=LG (H:=h.put b (vK cs off len n i)) (v:=UInt8.ofNat (n/256^i)) (k:=off+(len - 1 - i)) (eP Oc) (by rw[anB ah hc];omega);rw[anC aB hc,KQ] at st;refine NZ @Q3 @DD ?_;refine⟨len - (i+1),by omega,i+1,by omega,rfl,aX,aX,aX,rfl,aX,rfl⟩
def Ga:∀(i:Nat) (s:List eQ) (b:List UInt8),gJ (i+1) s b=wm (gJ i s b) ((b.drop (64 * i)).take 64)
 |0,s,b=>rfl
 |i+1,s,b=>by rw[gJ,Ga i,gJ,xO];congr 3;omega
def TE:∀(i j:Nat) (s:List eQ) (b:List UInt8),gJ (i+j) s b=gJ j (gJ i s b) (b.drop (64 * i))
 |0,j,s,b=>by rw[po];rfl
 |i+1,j,s,b=>by rw[(ah:i+1+j=(i+j)+1),gJ,TE i j,gJ,xO];congr 2;omega
def Nh:∀(i:Nat) (s:List eQ) (a b:List UInt8),64 * i<=a.length->gJ i s (a++b)=gJ i s a
 |0,_,_,_,_=>rfl
 |i+1,s,a,b,h=>by rw[gJ,gJ,List.take_append_of_le_length ah,abU ah];exact Nh i _ _ b (by rw[hD];omega)
def aeO{s}{b}(hs:s.length=8):(wm s b).length=8:=by have:=RT b hs 64;unfold vF at this;unfold wm;simp[hs,this]
def uT:∀(i:Nat) (s:List eQ) (b:List UInt8),s.length=8->(gJ i s b).length=8
 |0,_,_,h=>h
 |i+1,s,b,h=>uT i _ _ (aeO h)
def ou(r:Nat):Nat:=if r>55 then 128 else 64
def np(rest:List UInt8)(n:Nat):List UInt8:=rest++0x80::bg (ou rest.length - 9 - rest.length) 0++oD n
def UQ{rest}{n}(hr:rest.length<64):(np rest n).length=ou rest.length:=by
 unfold np ou;simp only[dE,jn,mB];have:(oD n).length=8:=by simp[oD]
 rw[this];split<;>omega
def amp(b):qD b=b.take (64 * (b.length/64))++np (b.drop (64 * (b.length/64))) b.length:=by
 unfold qD np;have e:oJ b.length=ou (b.drop (64 * (b.length/64))).length - 9 - (b.drop (64 * (b.length/64))).length:=by unfold oJ ou;rw[hD];split<;>omega
 rw[e,<-sR,<-sR,xR]
def arM(b):eV b=jE (gJ (ou (b.drop (64 * (b.length/64))).length/64) (gJ (b.length/64) NT.start b) (np (b.drop (64 * (b.length/64))) b.length)):=by
 unfold eV;have hr:(b.drop (64 * (b.length/64))).length<64:=by rw[hD];omega
 have bZ:(b.take (64 * (b.length/64))).length=64 * (b.length/64):=by rw[fj];omega
 rw[amp,dE,UQ hr,bZ,show(64 * (b.length/64)+ou (b.drop (64 * (b.length/64))).length)/64=b.length/64+ou (b.drop (64 * (b.length/64))).length/64 by rw[Nat.mul_add_div aO]];have h2:gJ (b.length/64) NT.start (b.take (64 * (b.length/64)))=gJ (b.length/64) NT.start b:=by have:=Nh (b.length/64) NT.start (b.take (64 * (b.length/64))) (b.drop (64 * (b.length/64))) (by rw[bZ];exact aM _);rw[xR] at this;exact this.symm
 have h1:(b.take (64 * (b.length/64))).drop (64 * (b.length/64))=[]:=pZ (by rw[bZ];exact aM _);rw[TE,abU (by rw[bZ];exact aM _),h1,mC];rw[Nh _ _ _ _ (by rw[bZ];exact aM _),h2]
def akJ(n):uS (n * 8) 8=oD n:=by unfold uS oD;apply IY;intro i hi;rw[gB] at hi;congr 2;rw[show(256:Nat)=2^8 from rfl,<-FY]
def aed(x:eQ):uS x.toNat 4=[UInt8.ofNat (x.toNat/16777216),UInt8.ofNat (x.toNat/65536),UInt8.ofNat (x.toNat/256),UInt8.ofNat x.toNat]:=by show[UInt8.ofNat (x.toNat/256^3),UInt8.ofNat (x.toNat/256^2),UInt8.ofNat (x.toNat/256^1),UInt8.ofNat (x.toNat/256^0)]=_;simp
def amf{s:List eQ}{i}{x}(hi:s[i]?=aa x):jE (s.take (i+1))=jE (s.take i)++uS x.toNat 4:=by rw[fW hi,aed];unfold jE;rw[List.flatMap_append];simp
def Cu(s):(jE s).length=4 * s.length:=by
 unfold jE
 induction s with
 |nil=>rfl|cons a s ih=>rw[List.flatMap_cons,dE,ih];simp;omega
def ma(l):(b7 l).length=l.length:=bE _
def ahn{rest}{n}(hr:rest.length<64):
 Cv ((b7 rest++(bg 128 (cq 0)).drop rest.length).set rest.length (cq 0x80)) (ou rest.length - 8) 8 (n * 8)=b7 (np rest n)++bg (128 - ou rest.length) (cq 0):=by
 have hL:ou rest.length=64∨ou rest.length=128:=by unfold ou;split<;>omega
 have DR:rest.length+9<=ou rest.length:=by unfold ou;split<;>omega
 rw[Sr];obtain⟨k,hk⟩:∃k,128 - rest.length=k+1:=⟨127 - rest.length,by omega⟩;rw[hk,A1,Mx _ _ (by rw[ma];exact aM _),ma,tU,Sy];unfold Cv np;rw[akJ];generalize ou rest.length=L at *
 have e1:My (L - 8) (b7 rest++cq 0x80::bg k (cq 0))=b7 (rest++0x80::bg (L - 9 - rest.length) 0):=by rw[List.take_append,ma,gO (by rw[ma];omega)];obtain⟨j,hj⟩:∃j,L - 8 - rest.length=j+1:=⟨L - 9 - rest.length,by omega⟩;rw[hj,gl,List.take_replicate,De ah];unfold b7;rw[mT,eK,xQ,(ah:L - 9 - rest.length=j)]
 have e2:List.drop (L - 8+8) (b7 rest++cq 0x80::bg k (cq 0))=bg (128 - L) (cq 0):=by rw[Da,ma,pZ (by rw[ma];omega),mC];obtain⟨j,hj⟩:∃j,L - 8+8 - rest.length=j+1:=⟨L - 1 - rest.length,by omega⟩;rw[hj,zA,Sr];congr 1;omega
 rw[e1,e2];unfold b7;rw[<-mT]
def ux:Tryz.f181.results.toList=[.cell 2 177]:=aw
def Dn:gU aq 177=aa ai:=aw
def qH:dC aq 177=aa 32:=aw
def Fi:(jf aq 177).bind AV.cD=aa (bg 32 (cq 0)):=aw
def akB(H):aI aq Gt H 229 (.ptr (.eR 0) 0)=aa (.agg (b8 NT.start)):=aw
def zd(l):(AV.agg (b7 l)).cD=aa (b7 l):=by
 have:(b7 l).all AV.ek=ai:=by rw[ej];intro x hx;obtain⟨b,-,rfl⟩:=ju.1 hx;rfl
 unfold AV.cD;simp[this]
def Yi(H):yS aq H 28 (.v (.int .i64 64)) (.v (.int .i64 128))=aa (.arr H.boxes.length 0 64 128,H.push (bg 128 (cq 0))):=aw
def IA(l):(bf l).flatten=b7 l:=by rw[Nl];rfl
def agm{H}{eb len aC}{x}{rest}{cs}(s:dQ 1 H x (bf rest))(hb:H.boxes[eb]?=aa cs)(h1:len<=cs.length)(h2:len<=aC)(h3:rest.length<=len):
 zQ aq H #[28,28] (.arr eb 0 len aC) x=aa (.v (.int .i64 (rest.length:Nat)),H.put eb (b7 rest++cs.drop rest.length)):=by
 have hi:∃i,aq.info? 5=aa i/\i.size=1:=by
  have u6:=sO;unfold dC at u6;cases hq:aq.info? 5 with
  |none=>rw[hq] at u6;cases u6
  |some i=>rw[hq] at u6;exact⟨i,rfl,by simpa using u6⟩
 obtain⟨i,q1,q2⟩:=hi;have hu:((#[28,28]:Array Nat)[0]?).bind aq.underlying=aa (.slice 5):=aw;unfold zQ;rw[hu];simp only[q1,q2,s.news,hb];rw[aG ⟨ah,h2⟩];have hm:Nat.min (bf rest).length len=rest.length:=by rw[bE];exact De h3
 rw[hm,gO (by rw[bE];exact aM _),IA];have e:eT cs 0 (b7 rest)=b7 rest++cs.drop rest.length:=by unfold eT;rw[fm,mC,po,ma]
 rw[e];rfl
def Rs{R:ao->Prop}{H0}{x}{l}(hx:∀H,R H->dQ 1 H x (bf l))(h0:R H0)(hl:64<=l.length):
 ∃y z,gY aq 28 x ar (aa (.v (.int .i64 64))) ar=aa y/\gY aq 28 x (aa (.v (.int .i64 64))) ar ar=aa z/\
  (∀H,R H->dQ 1 H y (bf (l.take 64)))/\∀H,R H->dQ 1 H z (bf (l.drop 64)):=by
 have A:∀H,R H->∃y,gY aq 28 x ar (aa (.v (.int .i64 64))) ar=aa y/\dQ 1 H y (bf (l.take 64)):=λH hH=>by obtain⟨y,y1,y2⟩:=(hx H hH).slice (t:=28) (lo:=ar) (hi:=aa (.v (.int .i64 64))) (l:=0) (m:=64) aO jv sO (.inr ⟨.i64,rfl,by rw[bE];exact hl⟩) (.inl ⟨rfl,rfl⟩) aO;rw[iX,<-List.map_take] at y2;exact⟨y,y1,y2⟩
 have B:∀H,R H->∃y,gY aq 28 x (aa (.v (.int .i64 64))) ar ar=aa y/\dQ 1 H y (bf (l.drop 64)):=λH hH=>by obtain⟨y,y1,y2⟩:=(hx H hH).slice (t:=28) (lo:=aa (.v (.int .i64 64))) (hi:=ar) (l:=64) (m:=l.length) aO jv sO (.inl ⟨rfl,by rw[bE]⟩) (.inr ⟨.i64,rfl⟩) hl;rw[gO (by rw[bE];exact aM _),<-aca] at y2;exact⟨y,y1,y2⟩
 obtain⟨y,y1,-⟩:=A H0 h0;obtain⟨z,z1,-⟩:=B H0 h0;refine⟨y,z,y1,z1,λH hH=>?_,λH hH=>?_⟩
 ·obtain⟨y',q1,q2⟩:=A H hH;rw[y1] at q1;cases q1;exact q2
 ·obtain⟨y',q1,q2⟩:=B H hH;rw[z1] at q1;cases q1;exact q2
def XB{l}{i}{k}(hl:l.length=8)(hi:i<8):Ck aq 230 (.agg (b8 l)) (.v (.int k (i:Nat)))=aa (aU (df l i)):=by
 have hu:=ac2;unfold Ck;rw[hu];simp only[xC];rw[aG ⟨ah,by omega⟩];unfold HH;rw[F3];simp only[xC];rw[dK,oo];have ku:i<l.length:=by omega
 show(b8 l)[i]?=_;rw[ev,df,dS,aT ku];rfl
def aan{b i}(hi:i<8):gY aq 177 (.ptr (.box b) 0) (aa (.v (.int .i64 ((4 * i:Nat):Int)))) (aa (.v (.int .i64 ((4 * i+4:Nat):Int)))) ar=aa (.arr b (4 * i) 4 (32 - 4 * i)):=by
 have hu:=Tryz.underlying177;unfold gY;rw[hu];have h1:gE 32 ar 32=aa 32:=rfl;have h2:gE 32 (aa (.v (.int .i64 ((4 * i+4:Nat):Int)))) 32=aa (4 * i+4):=by show(if _ then _ else _)=_;rw[aG ⟨ah,by omega⟩,dK]
 have h3:gE (4 * i+4) (aa (.v (.int .i64 ((4 * i:Nat):Int)))) 0=aa (4 * i):=by show(if _ then _ else _)=_;rw[aG ⟨ah,by omega⟩,dK]
 simp only[sO,h1,h2,h3];rw[aH bH,aH ah,po,oo,(ah:4 * i+4 - 4 * i=4)]
def UE{v:eQ}{H}:nm aq H 42 216 (aU v)=aa (.v (.int .u64 (v.toNat:Nat)),H):=by unfold aU;rw[agF];congr 4;unfold IntKind.wrap;simp[IntKind.signed,IntKind.bits];have:=v.isLt;omega
def aav(cs):eT cs 0 cs=cs:=by unfold eT;simp
def YC{s}(hs:s.length=8){i}(hi:i<8):Cv (b7 (jE (s.take i))++bg (32 - 4 * i) (cq 0)) (4 * i) 4 (df s i).toNat=b7 (jE (s.take (i+1)))++bg (32 - 4 * (i+1)) (cq 0):=by
 have hl:(b7 (jE (s.take i))).length=4 * i:=by rw[ma,Cu,fj];omega
 have hx:s[i]?=aa (df s i):=by unfold df;rw[dS,aT ah];rfl
 unfold Cv;rw[amf hx,I4 hl,Da,hl,pZ ah,mC,Sr,(ah:32 - 4 * i - (4 * i+4 - 4 * i)=32 - 4 * (i+1))];unfold b7;rw[mT]
def agZ(b)(i):wm (gJ i NT.start b) ((b.drop (64 * i)).take 64)=gJ (i+1) NT.start b:=(Ga i _ b).symm
def aah(b:List UInt8)(x:AV)(h:ao)(s:dQ 1 h x (bf b))(hb:b.length<=1152921504606846975):
 ∃h',W.call 181 [x] h=aa (.ret (.agg (b7 (eV b))),h')/\Ext h h':=by
 have u28:=jv;have z177:=Fi;have zz:(jf aq 230).bind AV.cD=aa (b8 (bg 8 0#32)):=by rw[RV];exact abe
 have cs8:(AV.agg (b8 NT.start)).cD=aa (b8 NT.start):=Jo rfl;have spz:∀H:ao,cI aq (H.push (b8 (bg 8 0#32))) 230 (.ptr (.box H.boxes.length) 0) (.agg (b8 NT.start))=aa (H.push (b8 NT.start)):=λH=>l9 (Jo rfl) Fe rfl rfl;have spz2:∀H:ao,∀y,cI aq ((H.push y).push (b8 (bg 8 0#32))) 230 (.ptr (.box (H.boxes.length+1)) 0) (.agg (b8 NT.start))=aa ((H.push y).push (b8 NT.start)):=λH y=>by rw[<-cX H y];exact spz _
 have lx:=s.len jv;rw[bE] at lx;have kS:=al.mk s;have kSs:=al.mk (arM b);clear s;refine iu rfl Tryz.func181 rfl ?_;refine cR @ux @cX @akB ?_;generalize ua:(h.push (bg 32 (cq 0))).push (b8 NT.start)=H0;generalize kD:h.boxes.length+1=sb;have kx:al (∀H',fT sb h.tn H0 H'->dQ 1 H' x (bf b)):=⟨λH' m=>kS.out.mono λc cs hc=>by have aB:=(aV.1 hc).1;refine m.box c cs ah ?_;rw[<-ua];exact bA (bA hc)⟩;have bD:H0.boxes[h.boxes.length]?=aa (bg 32 (cq 0)):=by rw[<-ua];exact bA (bh _ _)
 have vp:H0.boxes[sb]?=aa (b8 (gJ 0 NT.start b)):=by rw[<-ua,<-kD];exact nb (by rw[cX])
 have Vw:Ext h H0:=by rw[<-ua];exact(Ext.push _ _).trans (.push _ _)
 have avp:h.boxes.length<sb:=by omega
 have N4:H0.boxes.length=sb+1:=by rw[<-ua,<-kD,cX,cX]
 have kd:=al.mk bD;have kE:=al.mk Vw;have ks:=al.mk vp;clear bD Vw vp ua kD z177 zz cs8 spz spz2 kS;refine cE (λm e H=>∃(i:Nat) (y:AV),64 * i<=b.length/\m=b.length - 64 * i/\e.get 0=x/\e.get 2=.ptr (.box h.boxes.length) 0/\e.get 3=.ptr (.box sb) 0/\e.get 4=.func (.func 204) [.ptr (.box sb) 0] []/\e.get 5=y/\e.defers=[]/\(∀H',fT sb h.tn H0 H'->dQ 1 H' y (bf (b.drop (64 * i))))/\H.boxes[sb]?=aa (b8 (gJ i NT.start b))/\fT sb h.tn H0 H) ?_ b.length _ _ ?_;rotate_left 1
 ·refine⟨0,x,cG _,rfl,?_,?_,?_,?_,?_,?_,kx.out,ks.out,fT.refl _ _ _⟩<;>(first|assumption|(exact gR))
 clear ks;rintro m e H ⟨i,y,hi,rfl,g0,g2,g3,g4,g5,hd,hy,kD,hM⟩;have ly:=(hy H hM).len jv;rw[bE,hD] at ly;by_cases hc:64<=b.length - 64 * i
 ·refine qV λQ=>?_;obtain⟨y1,y2,q1,q2,q3,q4⟩:=Rs hy hM (by rw[hD];exact hc);obtain⟨H2,c1,c2,c3⟩:=MS _ _ sb y1 H (uT i NT.start b rfl) (by rw[fj,hD];omega) kD (λH' m=>q3 H' (hM.trans (m.tN (fJ kE.out.tn hM.tn))));rw[agZ] at c2;have kM:=al.mk (hM.trans (c3.tN (fJ kE.out.tn hM.tn)));have kq:=al.mk q4;have k2:=al.mk c2;clear hM c2 c3 q3 q4 hy kD;refine cR @ux @lN.{0} @mC.{0} ?_;refine⟨b.length - 64 * (i+1),by omega,i+1,y2,by omega,rfl,aX,aX,aX,aX,rfl,aX,?_,k2.out,kM.out⟩;rw[(ah:64 * (i+1)=64 * i+64),<-xO];exact kq.out
 have oW:b.length/64=i:=by omega
 have kSh:=al.mk kSs.out;rw[oW] at kSh;have cS:(b.drop (64 * i)).length<64:=by rw[hD];omega
 have vn:b.length - 64 * i=(b.drop (64 * i)).length:=by rw[hD]
 rw[vn] at ly hc;have h8:=uT i NT.start b rfl;generalize gJ i NT.start b=s1 at *
 generalize b.drop (64 * i)=r at *
 clear vn kSs;have kM:=al.mk hM;have vd:=hM.len;have Xr:=hy (H.push (bg 128 (cq 0))) (hM.push _);have cp:=agm (len:=64) (aC:=128) Xr (bh _ _) (by rw[mB];decide) aO ah;rw[pg] at cp;have e1:IntKind.u64.wrap ((b.length:Nat):Int)=((b.length:Nat):Int):=by unfold IntKind.wrap;simp[IntKind.signed,IntKind.bits];omega
 have e2:IntKind.u64.wrap (((b.length:Nat):Int) * 8)=((b.length * 8:Nat):Int):=by unfold IntKind.wrap;simp[IntKind.signed,IntKind.bits];omega
 have ix:=XC (b:=H.boxes.length) (off:=0) (aC:=128) (k:=.i64) cS;rw[po] at ix;have N3:(b7 r++(bg 128 (cq 0)).drop r.length).length=128:=by rw[dE,ma,hD,mB];omega
 have st:cI aq (H.push (b7 r++(bg 128 (cq 0)).drop r.length)) 5 (.ptr (.box H.boxes.length) r.length) (.v (.int .u8 128))=aa (H.push ((b7 r++(bg 128 (cq 0)).drop r.length).set r.length (cq 0x80))):=by have:=LG (H:=H.push (b7 r++(bg 128 (cq 0)).drop r.length)) (v:=0x80) (bh _ _) (k:=r.length) (by rw[N3];omega);rw[pg] at this;exact this
 have hE:=ahn (n:=b.length) cS;have Vv:((b7 r++(bg 128 (cq 0)).drop r.length).set r.length (cq 0x80)).length=128:=by rw[mS,N3]
 generalize b7 r++(bg 128 (cq 0)).drop r.length=C1 at *
 generalize C1.set r.length (cq 0x80)=C2 at *
 have kEl:=al.mk (UQ (n:=b.length) cS);have pe:=λ(off aC:Nat) (ho:off+8<=128)=>QI H.boxes.length off 8 aC (b.length * 8) C2 (H.push C2) aO ah (bh _ _) (by rw[Vv];exact ho);simp only[pg] at pe;have ks:=al.mk kD;clear Xr hy hM kD N3 Vv hi oW;have hL:(r.length<=55/\ou r.length=64)∨(55<r.length/\ou r.length=128):=by unfold ou;split<;>omega
 rcases hL with⟨hr,hL⟩|⟨hr,hL⟩
 ·rw[hL] at hE kEl kSh;have p1:=pe 56 72 aO;rw[hE] at p1;have sl:gY aq 28 (.arr H.boxes.length 0 64 128) (aa (.v (.int .i64 (((64:Nat):Int) - 8)))) ar ar=aa (.arr H.boxes.length 56 8 72):=aw;clear pe hE hL;refine cR @ux @Yi @qR ?_;have bZ:=kEl.out;generalize jJ:H.push (b7 (np r b.length)++bg (128 - 64) (cq 0))=H1;generalize hz:H.boxes.length=eb;have wJ:H1.boxes[eb]?=aa (b7 (np r b.length)++bg (128 - 64) (cq 0)):=by rw[<-jJ,<-hz];exact bh _ _
  have Gv:fT sb h.tn H0 H1:=by rw[<-jJ];exact kM.out.push _
  have bF:H1.boxes[sb]?=aa (b8 s1):=by rw[<-jJ];exact bA ks.out
  have bO:eb≠sb:=by omega
  have hR:∀H',fT sb h.tn H1 H'->dQ 1 H' (.arr eb 0 64 128) (bf ((np r b.length).drop (64 * 0))):=λH' m=>by
   rw[acA,iX];refine⟨zL _,.inr ⟨eb,0,128,_,by rw[bE,bZ],by rw[bE,bZ];decide,m.box _ _ bO wJ,?_,?_⟩⟩
   ·rw[IA,bE,oo,iX,I4 (ma _)]
   ·rw[bE,dE,ma,bZ,mB];decide
  have kR:=al.mk hR;have kB:=al.mk wJ;have kM1:=al.mk Gv;have kS1:=al.mk bF;clear wJ Gv bF hR jJ hz kM ks cp st p1 sl ix;refine cE (λm e H=>∃(i:Nat) (y:AV),64 * i<=64/\m=64 - 64 * i/\e.get 2=.ptr (.box h.boxes.length) 0/\e.get 3=.ptr (.box sb) 0/\e.get 4=.func (.func 204) [.ptr (.box sb) 0] []/\e.get 6=y/\e.defers=[]/\(∀H',fT sb h.tn H1 H'->dQ 1 H' y (bf ((np r b.length).drop (64 * i))))/\H.boxes[sb]?=aa (b8 (gJ i s1 (np r b.length)))/\fT sb h.tn H1 H) ?_ 64 _ _ ?_;rotate_left 1
  ·refine⟨0,.arr eb 0 64 128,cG _,rfl,?_,?_,?_,?_,?_,kR.out,kS1.out,fT.refl _ _ _⟩<;>(first|assumption|(exact gR))
  clear kR kS1 g0 g2 g3 g4 g5 hd ly hc;rintro m e H ⟨i,y,hi,rfl,g2,g3,g4,g6,hd,hy,kD,hM⟩;have ly:=(hy H hM).len jv;rw[bE,hD,bZ] at ly;by_cases hc:0<64 - 64 * i
  ·refine qV λQ=>?_;obtain⟨y1,y2,q1,q2,q3,q4⟩:=Rs hy hM (by rw[hD,bZ];omega);obtain⟨H2,c1,c2,c3⟩:=MS _ _ sb y1 H (uT i s1 _ h8) (by rw[fj,hD,bZ];omega) kD (λH' m=>q3 H' (hM.trans (m.tN (fJ kE.out.tn (fJ kM1.out.tn hM.tn)))));rw[<-Ga] at c2;have kM:=al.mk (hM.trans (c3.tN (fJ kE.out.tn (fJ kM1.out.tn hM.tn))));have kq:=al.mk q4;have k2:=al.mk c2;clear hM c2 c3 q3 q4 hy kD;refine cR @ux @lN.{0} @mC.{0} ?_;refine⟨64 - 64 * (i+1),by omega,i+1,y2,by omega,rfl,aX,aX,aX,rfl,aX,?_,k2.out,kM.out⟩;rw[(ah:64 * (i+1)=64 * i+64),<-xO];exact kq.out
  have oW:i=64/64:=by omega
  subst oW;have Gm:=uT (64/64) s1 (np r b.length) h8;generalize gJ (64/64) s1 (np r b.length)=s2 at *
  have hX:Ext h H:=kE.out.mut (kM1.out.trans hM) ah;have lQ:=(kM1.out.trans hM).box _ _ ah kd.out;have yj:s2.length=8:=Gm;have lds:aI aq Gt H 230 (.ptr (.box sb) 0)=aa (.agg (b8 s2)):=by have Hk:(b8 s2).length=8:=(by rw[bE];exact yj);rw[iC Jb Fe kD (by rw[Hk];exact aM _),iX,gO (by rw[Hk];exact aM _)]
  have kX:=al.mk hX;have kdb:=al.mk lQ;clear hX lQ kD hM hy kM1 kd kB kE Gm;have kSh2:al (eV b=jE s2):=⟨kSh.out⟩;clear kSh;refine bI @ux ?_;refine cE (λm e H=>∃(i:Nat),i<=8/\m=8 - i/\e.get 2=.ptr (.box h.boxes.length) 0/\e.get 53=.agg (b8 s2)/\e.get 54=.v (.int .i64 i)/\e.defers=[]/\H.boxes[h.boxes.length]?=aa (b7 (jE (s2.take i))++bg (32 - 4 * i) (cq 0))/\Ext h H) ?_ 8 _ _ ?_;rotate_left 1
  ·refine⟨0,by decide,rfl,?_,?_,?_,?_,kdb.out,kX.out⟩<;>(first|assumption|(exact gR))
  clear kdb kX lds g2 g3 g4 g6 hd ly hc;rintro m e H ⟨i,hi,rfl,g2,g53,g54,hd,lQ,hX⟩;by_cases hc:i=8
  ·subst hc;rw[gO ah] at lQ;have e0:b7 (jE s2)++bg (32 - 4 * 8) (cq 0)=b7 (jE s2):=jX _;rw[e0,<-kSh2.out] at lQ;have yk:(b7 (eV b)).length=32:=(by rw[ma,kSh2.out,Cu,yj]);have l177:aI aq Gt H 177 (.ptr (.box h.boxes.length) 0)=aa (.agg (b7 (eV b))):=(by rw[iC Dn qH lQ (by rw[yk];exact aM _),iX,gO (by rw[yk];exact aM _)]);have s177:cI aq H 177 (.ptr (.box h.boxes.length) 0) (.agg (b7 (eV b)))=aa H:=(by rw[ig (zd _) qH lQ yk (by rw[yk];exact aM _),aav,sM lQ]);have kX:=al.mk hX;clear lQ hX;refine bI @ux ?_;exact⟨_,rfl,kX.out⟩
  ·refine qV λQ=>?_;have aB:i<8:=(by omega);have iv:=XB (k:=.i64) yj aB;have e4:IntKind.i64.wrap (4 * ((i:Nat):Int))=((4 * i:Nat):Int):=(by rw[gF ah ah];omega);have e5:IntKind.i64.wrap (((4 * i:Nat):Int)+4)=((4 * i+4:Nat):Int):=(by rw[gF ah ah];omega);have sl:=aan (b:=h.boxes.length) aB;have pe:=QI h.boxes.length (4 * i) 4 (32 - 4 * i) (df s2 i).toNat _ H aO (by have:=(df s2 i).isLt;omega) lQ (by rw[dE,ma,Cu,fj,mB];omega);rw[YC yj aB] at pe;have nx:=(aV.1 lQ).1;have kX:=al.mk hX;clear lQ hX;refine bV @ux @UE ?_;refine⟨8 - (i+1),by omega,i+1,by omega,rfl,aX,aX,rfl,aX,eP nx,kX.out.gh (aM _) _⟩
 ·rw[hL] at hE kEl kSh;have p1:=pe 120 8 aO;rw[hE] at p1;have sl0:gY aq 28 (.arr H.boxes.length 0 64 128) ar (aa (.v (.int .i64 128))) ar=aa (.arr H.boxes.length 0 128 128):=aw;have sl:gY aq 28 (.arr H.boxes.length 0 128 128) (aa (.v (.int .i64 (((128:Nat):Int) - 8)))) ar ar=aa (.arr H.boxes.length 120 8 8):=aw;clear pe hE hL;refine cR @ux @Yi @qR ?_;have bZ:=kEl.out;generalize jJ:H.push (b7 (np r b.length)++bg (128 - 128) (cq 0))=H1;generalize hz:H.boxes.length=eb;have wJ:H1.boxes[eb]?=aa (b7 (np r b.length)++bg (128 - 128) (cq 0)):=by rw[<-jJ,<-hz];exact bh _ _
  have Gv:fT sb h.tn H0 H1:=by rw[<-jJ];exact kM.out.push _
  have bF:H1.boxes[sb]?=aa (b8 s1):=by rw[<-jJ];exact bA ks.out
  have bO:eb≠sb:=by omega
  have hR:∀H',fT sb h.tn H1 H'->dQ 1 H' (.arr eb 0 128 128) (bf ((np r b.length).drop (64 * 0))):=λH' m=>by
   rw[acA,iX];refine⟨zL _,.inr ⟨eb,0,128,_,by rw[bE,bZ],by rw[bE,bZ];decide,m.box _ _ bO wJ,?_,?_⟩⟩
   ·rw[IA,bE,oo,iX,I4 (ma _)]
   ·rw[bE,dE,ma,bZ,mB];decide
  have kR:=al.mk hR;have kB:=al.mk wJ;have kM1:=al.mk Gv;have kS1:=al.mk bF;clear wJ Gv bF hR jJ hz kM ks cp st p1 sl ix;refine cE (λm e H=>∃(i:Nat) (y:AV),64 * i<=128/\m=128 - 64 * i/\e.get 2=.ptr (.box h.boxes.length) 0/\e.get 3=.ptr (.box sb) 0/\e.get 4=.func (.func 204) [.ptr (.box sb) 0] []/\e.get 6=y/\e.defers=[]/\(∀H',fT sb h.tn H1 H'->dQ 1 H' y (bf ((np r b.length).drop (64 * i))))/\H.boxes[sb]?=aa (b8 (gJ i s1 (np r b.length)))/\fT sb h.tn H1 H) ?_ 128 _ _ ?_;rotate_left 1
  ·refine⟨0,.arr eb 0 128 128,cG _,rfl,?_,?_,?_,?_,?_,kR.out,kS1.out,fT.refl _ _ _⟩<;>(first|assumption|(exact gR))
  clear kR kS1 g0 g2 g3 g4 g5 hd ly hc;rintro m e H ⟨i,y,hi,rfl,g2,g3,g4,g6,hd,hy,kD,hM⟩;have ly:=(hy H hM).len jv;rw[bE,hD,bZ] at ly;by_cases hc:0<128 - 64 * i
  ·refine qV λQ=>?_;obtain⟨y1,y2,q1,q2,q3,q4⟩:=Rs hy hM (by rw[hD,bZ];omega);obtain⟨H2,c1,c2,c3⟩:=MS _ _ sb y1 H (uT i s1 _ h8) (by rw[fj,hD,bZ];omega) kD (λH' m=>q3 H' (hM.trans (m.tN (fJ kE.out.tn (fJ kM1.out.tn hM.tn)))));rw[<-Ga] at c2;have kM:=al.mk (hM.trans (c3.tN (fJ kE.out.tn (fJ kM1.out.tn hM.tn))));have kq:=al.mk q4;have k2:=al.mk c2;clear hM c2 c3 q3 q4 hy kD;refine cR @ux @lN.{0} @mC.{0} ?_;refine⟨128 - 64 * (i+1),by omega,i+1,y2,by omega,rfl,aX,aX,aX,rfl,aX,?_,k2.out,kM.out⟩;rw[(ah:64 * (i+1)=64 * i+64),<-xO];exact kq.out
  have oW:i=128/64:=by omega
  subst oW;have Gm:=uT (128/64) s1 (np r b.length) h8;generalize gJ (128/64) s1 (np r b.length)=s2 at *
  have hX:Ext h H:=kE.out.mut (kM1.out.trans hM) ah;have lQ:=(kM1.out.trans hM).box _ _ ah kd.out;have yj:s2.length=8:=Gm;have lds:aI aq Gt H 230 (.ptr (.box sb) 0)=aa (.agg (b8 s2)):=by have Hk:(b8 s2).length=8:=(by rw[bE];exact yj);rw[iC Jb Fe kD (by rw[Hk];exact aM _),iX,gO (by rw[Hk];exact aM _)]
  have kX:=al.mk hX;have kdb:=al.mk lQ;clear hX lQ kD hM hy kM1 kd kB kE Gm;have kSh2:al (eV b=jE s2):=⟨kSh.out⟩;clear kSh;refine bI @ux ?_;refine cE (λm e H=>∃(i:Nat),i<=8/\m=8 - i/\e.get 2=.ptr (.box h.boxes.length) 0/\e.get 53=.agg (b8 s2)/\e.get 54=.v (.int .i64 i)/\e.defers=[]/\H.boxes[h.boxes.length]?=aa (b7 (jE (s2.take i))++bg (32 - 4 * i) (cq 0))/\Ext h H) ?_ 8 _ _ ?_;rotate_left 1
  ·refine⟨0,by decide,rfl,?_,?_,?_,?_,kdb.out,kX.out⟩<;>(first|assumption|(exact gR))
  clear kdb kX lds g2 g3 g4 g6 hd ly hc;rintro m e H ⟨i,hi,rfl,g2,g53,g54,hd,lQ,hX⟩;by_cases hc:i=8
  ·subst hc;rw[gO ah] at lQ;have e0:b7 (jE s2)++bg (32 - 4 * 8) (cq 0)=b7 (jE s2):=jX _;rw[e0,<-kSh2.out] at lQ;have yk:(b7 (eV b)).length=32:=(by rw[ma,kSh2.out,Cu,yj]);have l177:aI aq Gt H 177 (.ptr (.box h.boxes.length) 0)=aa (.agg (b7 (eV b))):=(by rw[iC Dn qH lQ (by rw[yk];exact aM _),iX,gO (by rw[yk];exact aM _)]);have s177:cI aq H 177 (.ptr (.box h.boxes.length) 0) (.agg (b7 (eV b)))=aa H:=(by rw[ig (zd _) qH lQ yk (by rw[yk];exact aM _),aav,sM lQ]);have kX:=al.mk hX;clear lQ hX;refine bI @ux ?_;exact⟨_,rfl,kX.out⟩
  ·refine qV λQ=>?_;have aB:i<8:=(by omega);have iv:=XB (k:=.i64) yj aB;have e4:IntKind.i64.wrap (4 * ((i:Nat):Int))=((4 * i:Nat):Int):=(by rw[gF ah ah];omega);have e5:IntKind.i64.wrap (((4 * i:Nat):Int)+4)=((4 * i+4:Nat):Int):=(by rw[gF ah ah];omega);have sl:=aan (b:=h.boxes.length) aB;have pe:=QI h.boxes.length (4 * i) 4 (32 - 4 * i) (df s2 i).toNat _ H aO (by have:=(df s2 i).isLt;omega) lQ (by rw[dE,ma,Cu,fj,mB];omega);rw[YC yj aB] at pe;have nx:=(aV.1 lQ).1;have kX:=al.mk hX;clear lQ hX;refine bV @ux @UE ?_;refine⟨8 - (i+1),by omega,i+1,by omega,rfl,aX,aX,rfl,aX,eP nx,kX.out.gh (aM _) _⟩
end Go.Proofs.YtnfciiiohoafaaaGreatDoor
end
