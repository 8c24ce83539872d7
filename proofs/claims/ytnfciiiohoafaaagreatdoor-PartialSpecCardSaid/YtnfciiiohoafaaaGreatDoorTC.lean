/-
  The engine, part 39: a call that makes memory that nobody sees again may be taken as one that makes none.
-/
import Derived.Test.YtnfciiiohoafaaaGreatDoorTB
import Derived.KernelRfl
import Derived.Test.YtnfciiiohoafaaaGreatDoorChecked
open True renaming intro->aQ
open Bool renaming true->ah,and_assoc->ZS,and_eq_true->bC,false_and->zL,false_eq_true->jG,false->av,eq_iff_iff->Ek,not_eq_true'->yk,true_and->rP
open List renaming cons_append->kj,flatten_cons->nX,getElem?_eq_some_iff->aP,getElem?_take->nC,map_cons->eo,map_nil->tR,getElem?_toArray->jc,getElem?_cons_zero->jv,getElem?_cons_succ->oD,append_nil->jH,nil_append->lV,length_cons->iW,length_append->dk,drop_zero->iC,take_length->fA,drop_take->Q7,take_take->Rd,drop_drop->wM,mem_of_mem_take->oa,length_drop->gE,length_take->eP,take_zero->fB,ext_getElem->HE,getElem_map->qa,getElem_range->zS,getElem?_eq_getElem->aO,replicate->aY,mem_cons->gO,mem_cons_self->fR,mem_cons_of_mem->fi,all_cons->Ez,all_eq_true->dU,nodup_cons->EH,mem_map->jo,map_map->zU,map_append->lU,map_congr_left->HI,zipWith->EJ,range->bO,getD_eq_getElem?_getD->dP,getElem_mem->iD,getElem?_eq_none->sZ,length_zipWith->aaC,getElem_zipWith->aaz,getElem?_append_left->qM,getElem?_append_right->yu,getElem?_drop->nZ,length_map->bu,getElem_drop->Q9,mem_range->fY,getElem_set_self->K7,getElem_set_ne->K6,getElem_set->EE,mem_or_eq_of_mem_set->u0,mem_iff_getElem->zV,length_singleton->aaB,getElem?_set_ne->HG,getElem?_map->dW,range_succ->ob,foldl_append->nY,foldl_cons->wN,foldl_nil->EB,getElem?_replicate->K4,length_set->mn,getElem?_set->lR,take_append_drop->wP,drop_eq_getElem_cons->zR,getElem_zipIdx->aay,append_assoc->rR,take_succ_eq_append_getElem->aaQ,set_append_right->Ld,set_eq_of_length_le->aaM,ext_getElem?->p8,set_set->Ch,take->Lf,head?_drop->HH,set_eq_take_append_cons_drop->zX,length_replicate->lT,replicate_succ->zW,set_cons_zero->Rc,map_replicate->wO,take_of_length_le->gm,drop_of_length_le->pc,map_drop->aaE,take_succ_cons->hJ,drop_succ_cons->yr,head?_cons->zT,mem_singleton->mo,drop_append_of_le_length->aao,drop_replicate->Q6,drop_append->Cf,take_left'->HL
open Option renaming some->aa,map_some->eJ,bind_some->ph,none->aq,isSome_none->Af,some.injEq->dA,getD_some->HN
open And renaming intro->ar
open Nat renaming sub_zero->Rl,zero_mul->EU,add_zero->zZ,le_refl->aJ,mul_le_mul_right->nF,add_mul->gg,min_eq_left->Ck,shiftLeft_eq->Ae,add_comm->aaS,Coprime->nE,Coprime.symm->Lj,dvd_of_mod_eq_zero->EM,le_of_dvd->Cj,mod_lt->mr,eq_zero_or_pos->EN,mul_add->Rg,add_mod->HM,mul_assoc->Ln,mul_mod_mod->aa0,mul_le_mul_left->aaZ,mod_eq_of_lt->nb,one_mul->Cl,mod_mul_mod->Rf,div_add_mod->Re,mul_mod->rT,mul_one->nG,mul_comm->Lo,mod_two_eq_zero_or_one->Ac,pow_pos->Lr,mul_add_mod->aaX,Coprime.coprime_mul_left->aaR,pow_succ->Ad,lt_or_ge->dI,mul_le_mul->pg,pow_mod->ES,pow_mul->ET,pow_two->Rh,pow_succ'->aa7,eq_of_beq_eq_true->jw,one_pow->aa3,pow_add->aa5,zero_le->cr,lt_trans->oE,reduceEqDiff->aX,le_of_lt->mJ,lt_of_lt_of_le->mq,sub_self->s9,zero_add->oF,le_trans->fe,mul_zero->aa1
open Int renaming toNat_natCast->dL,fdiv_eq_ediv_of_nonneg->Eu,pow_pos->aah,natCast_mul->wK,mul_left_comm->Cb,pow_succ->wL,mul_assoc->wJ,mul_comm->yo,pow_add->QY,sub_mul->KX,mul_sub->yp,dvd_add->wI,dvd_mul_of_dvd_right->Et,natAbs_dvd_natAbs->aac,natAbs_natCast->QU,natCast_add->aad,mul_add->KU,mul_one->HA,pow_zero->KW,one_mul->Ev,pow_mul->Ew,natCast_dvd_natCast->QV,emod_nonneg->QR,emod_lt_of_pos->QQ,emod_eq_of_lt->KS,add_emod->Z7,mul_emod->zQ,mul_zero->KV,zero_mul->HC,sub_emod->aai,emod_emod_of_dvd->Ca,dvd_refl->B9,neg_zero->aaf,neg_mul->aae,zero_add->Ex,ofNat_lt->aag,natCast_emod->QW,sub_self->QZ,emod_add_mul_ediv->Z9,dvd_sub->QP,dvd_zero->Z8,tmod_eq_emod_of_nonneg->HB,mul_nonneg->QT,mul_le_mul->QS,tdiv_eq_ediv_of_nonneg->aaj,natCast_zero->rQ,natCast_one->QX
open Decidable renaming not_not->Hz
open Go.Proofs.Tryz renaming prog->al,underlying23->dJ,func201->abj,func46->RE,func194->abi,func94->RG,func69->RF,func30->abn,underlying28->iO,func221->wR,func222->abm,underlying242->abq,underlying230->abp
set_option maxHeartbeats 64000000
set_option maxRecDepth 100000
set_option linter.unusedSimpArgs false
set_option linter.unusedVariables false
set_option linter.constructorNameAsVariable false
set_option linter.defProp false
section
namespace Go.AE
mutual
def mU(n:Nat):AV->Bool
 | .list _ _ es=>Gf n es
 | .arr b _ _ _=>decide (b<n)
 | .agg cs=>ox n cs
 | .tuple cs=>ox n cs
 | .ptr (.box b) _=>decide (b<n)
 | .elem _ es _ _=>Gf n es
 | .func _ a b=>ox n a&&ox n b
 | .iface _ x=>mU n x
 |_=>ah
def ox(n:Nat):List AV->Bool
 | []=>ah
 |x::r=>mU n x&&ox n r
def Gf(n:Nat):List (List AV)->Bool
 | []=>ah
 |r::rs=>ox n r&&Gf n rs
end
def Wj(n):∀(a b:List AV),ox n (a++b)=(ox n a&&ox n b)
 | [],b=>by simp[ox]
 |x::a,b=>by rw[kj,ox,ox,Wj n a b,ZS]
def Gg(n):∀es:List (List AV),ox n es.flatten=Gf n es
 | []=>rfl
 |r::es=>by rw[nX,Wj,Gf,Gg n es]
def aS.low(K:aS)(n:Nat):aS:={K with β:=K.β.take n}
section
variable {K:aS}
def KJ{b g:Nat}(h:K.β[b]?=aa g):b<K.β.length:=(aP.1 h).1
mutual
def aT.low:∀{x:AV} {c:Value},aT K x c->mU K.β.length x=ah
 |_,_,.bad _=>rfl
 |_,_,.v _ _=>rfl
 |_,_,.nil _=>rfl
 |_,_,.jb _ _=>rfl
 |_,_,.list _ _ es _ _ _ _ _ _ _ hv _ _ _=>by rw[mU,<-Gg];exact aM.low hv
 |_,_,.arr _ _ _ _ _ _ _ hb _ _ _ _=>by rw[mU];exact bX (KJ hb)
 |_,_,.agg _ _ hv=>by rw[mU];exact aM.low hv
 |_,_,.tuple _ _ hv=>by rw[mU];exact aM.low hv
 |_,_,.box _ _ _ hb=>by rw[mU];exact bX (KJ hb)
 |_,_,.eD _ _=>rfl
 |_,_,.elem _ es _ _ _ _ _ _ _ hv _ _ _ _=>by rw[mU,<-Gg];exact aM.low hv
 |_,_,.func _ _ _ _ _ h1 h2=>by rw[mU,aM.low h1,aM.low h2];rfl
 |_,_,.yield _ _ _=>rfl
 |_,_,.iface _ _ _ hx=>by rw[mU];exact aT.low hx
def aM.low:∀{xs:List AV} {cs:List Value},aM K xs cs->ox K.β.length xs=ah
 |_,_,.nil=>rfl
 |_,_,.cons _ _ _ _ hx hs=>by rw[ox,aT.low hx,aM.low hs];rfl
end
def Wk{n b g:Nat}(hb:K.β[b]?=aa g)(hn:b<n):(K.low n).β[b]?=aa g:=by show(K.β.take n)[b]?=aa g;rw[nC,aF hn,hb]
def vf.low{n:Nat}{k:Tok}{g off sz m aB:Nat}(h:vf K k g off sz m aB):vf (K.low n) k g off sz m aB:=h
mutual
def aT.cut{n:Nat}:∀{x:AV} {c:Value},aT K x c->mU n x=ah->aT (K.low n) x c
 |_,_,.bad c,_=>.bad c
 |_,_,.v x hx,_=>.v x hx
 |_,_,.nil sz,_=>.nil sz
 |_,_,.jb sz a,_=>.jb sz a
 |_,_,.list k sz es g off m aB cells hn hr hv hc ht ha,h=>.list k sz es g off m aB cells hn hr (aM.cut hv (by rw[Gg];rw[mU] at h;exact h)) hc ht.low ha
 |_,_,.arr b g off len aB fa hY hb hl hc ho hr,h=>.arr b g off len aB fa hY (Wk hb (by rw[mU] at h;exact of_decide_eq_true h)) hl hc ho hr
 |_,_,.agg cs vs hv,h=>.agg cs vs (aM.cut hv (by rw[mU] at h;exact h))
 |_,_,.tuple cs vs hv,h=>.tuple cs vs (aM.cut hv (by rw[mU] at h;exact h))
 |_,_,.box b g off hb,h=>.box b g off (Wk hb (by rw[mU] at h;exact of_decide_eq_true h))
 |_,_,.eD g off,_=>.eD g off
 |_,_,.elem sz es i off g o p cells hr hv hc hi hp ha,h=>.elem sz es i off g o p cells hr (aM.cut hv (by rw[Gg];rw[mU] at h;exact h)) hc hi hp ha
 |_,_,.func fn first aB fs cs h1 h2,h=>.func fn first aB fs cs (aM.cut h1 (by rw[mU,bC] at h;exact h.1)) (aM.cut h2 (by rw[mU,bC] at h;exact h.2))
 |_,_,.yield l g hl,_=>.yield l g hl
 |_,_,.iface t x c hx,h=>.iface t x c (aT.cut hx (by rw[mU] at h;exact h))
def aM.cut{n:Nat}:∀{xs:List AV} {cs:List Value},aM K xs cs->ox n xs=ah->aM (K.low n) xs cs
 |_,_,.nil,_=>.nil
 |_,_,.cons x c xs cs hx hs,h=>.cons x c xs cs (aT.cut hx (by rw[ox,bC] at h;exact h.1)) (aM.cut hs (by rw[ox,bC] at h;exact h.2))
end
end
section
variable {P:Program} {G:Nat->Option (List AV)} {w0 w w':World} {K K':aS} {h h':ak} {ok:FuncId->Nat->Code->Bool}
end
end Go.AE
end
section
namespace Go.AE
section
universe u
set_option linter.defProp false in
def goT:=ar @eJ.{0,0} (ar @Option.map_none.{0,0} (ar @ph.{0,0} (ar @eo.{0,0} (ar @tR.{0,0} (ar @List.getD_cons_zero.{0} (ar @List.getD_cons_succ.{0} (ar @jc.{0} (ar @jv.{0} @oD.{0}))))))))
set_option linter.defProp false in
def goU:=ar @jH.{0} @lV.{0}
set_option linter.defProp false in
def Wb:=ar @cK (ar @mh @Wc)
set_option linter.defProp false in
def ai7:=ar @iW.{0} (ar @List.length_nil.{0} (ar @dk.{0} (ar @cK (ar @mh @Wc))))
set_option linter.defProp false in
def agj:=ar @agl (ar @mB (ar @IC (ar @agm (ar @agn @agk))))
set_option linter.defProp false in
def adI:=ar @CA @CB
set_option linter.defProp false in
def anL:=ar @YS (ar @Tb @Xg)
end
set_option linter.defProp false in
def Z4:=@agM
set_option linter.defProp false in
def Z6:=@agQ
set_option linter.defProp false in
def ZP:=@adl
set_option linter.defProp false in
def ZR:=@ado
set_option linter.defProp false in
def Z5:=@agP
set_option linter.defProp false in
def ZQ:=@adn
set_option linter.defProp false in
def Z2:=@agL
set_option linter.defProp false in
def ZO:=@adk
def dZ{p:Prop}(h:p:=by first|assumption|(exact Nat.le_refl _)|omega|(simp only[ai7]<;>omega)|(simp(disch:=(first|assumption|omega|(exact(cK _ _).symm)|(simp only[Wb];omega)|(refine Nat.le_antisymm ?_ ?_<;>simp only[Wb]<;>omega)|fail)) only[agj]<;>first|assumption|rfl)|(simp only[adI];assumption)|(exact Qh _ _)|(simp only[anL];first|assumption|exact Qh _ _)):p:=h
def dX{a b p:Prop}(x:a)(y:b)(f:a->b->p:=by first|exact Z4|exact Z6|exact ZP|exact ZR|exact Z5|exact ZQ|exact Z2|exact ZO):p:=f x y
end Go.AE
end
section
namespace Go.AE
section
variable {P:Program} {t0 t1 t elem:TypeId} {i:TypeInfo} {h:ak} {k k':Tok} {sz:Nat} {es new:List (List AV)}
def Kz(h0:P.underlying t0=aa (.slice elem))(h1:P.underlying t1=aa (.slice elem))(hi:P.info? elem=aa i)(dH:0<i.size)(hz:(i.zero.map λz=>z.cells.size)=aa i.size)(kK:new≠[])
 (hb:(es.length+new.length) * i.bytes<=140737488355328) (hl:es.length+new.length<=9223372036854775807) (hs:sz=i.size∨es=[]) (hk:k=.nil∨k=.tight) {x:AV} (hx:me h i.size x=aa new):
 qI P h #[t0,t1] (.list k sz es) x=aa (.arr h.boxes.length 0 (es.length+new.length) (es.length+new.length),h.push (es++new).flatten):=by
 unfold qI;simp only[jc,jv,oD,ph,h0,h1,hi,hx];rw[aF ⟨dH,hz⟩,aF hs,aG kK,aF ⟨hb,hl⟩];rcases hk with rfl|rfl<;>rfl
def Qu{b len:Nat}{cs:List AV}(h0:P.underlying t0=aa (.slice elem))(h1:P.underlying t1=aa (.slice elem))(hi:P.info? elem=aa i)(dH:0<i.size)(hz:(i.zero.map λz=>z.cells.size)=aa i.size)(kK:new≠[])
 (hb:(len+new.length) * i.bytes<=140737488355328) (hl:len+new.length<=9223372036854775807) (Fw:h.boxes[b]?=aa cs) (h2:0<len) (h3:len * i.size=cs.length) {x:AV} (hx:me h i.size x=aa new):
 qI P h #[t0,t1] (.arr b 0 len len) x=aa (.arr h.boxes.length 0 (len+new.length) (len+new.length),(h.put b []).push (cs++new.flatten)):=by
 have hn:0<new.length:=by cases new with|nil=>exact absurd rfl kK|cons _ _=>simp
 unfold qI;simp only[jc,jv,oD,ph,h0,h1,hi,hx,Fw];rw[aF ⟨dH,hz⟩,aG ag,aF ⟨aQ,h2,aQ,h3,hb,hl⟩];rfl
def OP:me h sz (.list k sz es)=aa es:=by unfold me rowsOf;simp
def YI{b off len aB n:Nat}{m:Int}{kk:IntKind}(h0:P.underlying t=aa (.slice elem))(hs:dm P elem=aa n)(hn:n≠0)(h1:0<=m)(h2:m<=aB)(h3:0<aB):gC P t (.arr b off len aB) aq (aa (.v (.int kk m))) aq=aa (.arr b off m.toNat aB):=by
 have e1:ga aB aq aB=aa aB:=rfl;have e2:ga aB (aa (.v (.int kk m))) len=aa m.toNat:=by show(if 0<=m/\m<=(aB:Int) then aa m.toNat else aq)=_;rw[aF ⟨h1,h2⟩]
 have e3:ga m.toNat aq 0=aa 0:=rfl;unfold gC;simp only[h0,hs,e1,e2,e3,Af,zL,jG,false_and,if_false,hn,Rl,EU,zZ,ite_self]
end
end Go.AE
end
section
namespace Go.AE
def dE(sz:Nat)(h:ak)(x:AV)(ae:List (List AV)):Prop:=
 (∀r∈ae,r.length=sz)/\
 ((∃k s,x=.list k s ae/\(ae≠[]->s=sz))∨
  (∃b off aB cs,x=.arr b off ae.length aB/\ae.length<=aB/\h.boxes[b]?=aa cs/\(cs.drop off).take (ae.length * sz)=ae.flatten/\off+ae.length * sz<=cs.length))
section
variable {P:Program} {G:Nat->Option (List AV)} {h h':ak} {t e:TypeId} {sz:Nat} {x:AV} {ae:List (List AV)}
def dE.list{k:Tok}{s:Nat}(hr:∀r∈ae,r.length=sz)(hs:ae≠[]->s=sz):dE sz h (.list k s ae) ae:=⟨hr,.inl ⟨k,s,rfl,hs⟩⟩
def dE.box{b n:Nat}(hr:∀r∈ae,r.length=sz)(hn:n=ae.length)(hb:h.boxes[b]?=aa ae.flatten):dE sz h (.arr b 0 n n) ae:=by
 subst hn;refine⟨hr,.inr ⟨b,0,ae.length,ae.flatten,rfl,aJ _,hb,?_,?_⟩⟩
 ·rw[iC,<-mM hr,fA]
 ·rw[mM hr];omega
def dE.mono(s:dE sz h x ae)(m:∀(b:Nat) (cs:List AV),h.boxes[b]?=aa cs->h'.boxes[b]?=aa cs):dE sz h' x ae:=by
 obtain⟨hr,s⟩:=s;refine⟨hr,?_⟩;rcases s with s|⟨b,off,aB,cs,h1,h2,h3,h4⟩
 ·exact .inl s
 ·exact .inr ⟨b,off,aB,cs,h1,h2,m _ _ h3,h4⟩
def dE.ext(s:dE sz h x ae)(m:Ext h h'):dE sz h' x ae:=s.mono m.box
def dE.len(s:dE sz h x ae)(hu:P.underlying t=aa (.slice e)):ej P t x=aa (.v (.int .i64 ae.length)):=by
 rcases s.2 with⟨k,s,rfl,-⟩|⟨b,off,aB,cs,rfl,-⟩
 ·exact OC hu
 ·exact OB hu
def dE.index(s:dE sz h x ae)(hp:0<sz)(hu:P.underlying t=aa (.slice e))(hs:dm P e=aa sz){i:Nat}{row:List AV}(hi:ae[i]?=aa row):
 ∃p,(∀kk,dy P t x (.v (.int kk (i:Int)))=aa p)/\(gx P e=aa av->aI P G h e p=row.head?)/\(gx P e=aa ah->aI P G h e p=aa (.agg row)):=by
 have aA:=(aP.1 hi).1;have cO:=s.1 row (List.mem_of_getElem? hi);rcases s.2 with⟨k,s',rfl,hk⟩|⟨b,off,aB,cs,rfl,h2,h3,h4,h5⟩
 ·have:s'=sz:=hk (by rintro rfl;simp at aA);subst this;refine⟨.elem s' ae i 0,λkk=>?_,λha=>?_,λha=>?_⟩
  ·rw[a8 hu hs ag ag,dL]
  ·rw[qw ha hi,iC]
  ·rw[Jr ha hs hi ag,iC,<-cO,fA]
 ·have dF:(cs.drop (off+i * sz)).take sz=row:=by have:=Mw s.1 hi;rw[<-h4,Q7,Rd,wM] at this;rw[<-this];congr 1;have:(i+1) * sz<=ae.length * sz:=nF _ aA;rw[gg] at this;omega
  have pH:off+i * sz+sz<=cs.length:=by have:(i+1) * sz<=ae.length * sz:=nF _ aA;rw[gg] at this;omega
  refine⟨.ptr (.box b) (off+i * sz),λkk=>?_,λha=>?_,λha=>?_⟩
  ·rw[Du hu hs ag ag,dL]
  ·rw[lP ha h3,<-dF];obtain⟨n,rfl⟩:∃n,sz=n+1:=⟨sz - 1,by omega⟩;cases cs.drop (off+i * (n+1)) with|nil=>rfl|cons a l=>rfl
  ·rw[ja ha hs h3 pH,dF]
def dE.slice(s:dE sz h x ae)(hp:0<sz)(hu:P.underlying t=aa (.slice e))(hs:dm P e=aa sz){lo hi:Option AV}{l m:Nat}
 (sD:(hi=aq/\m=ae.length)∨∃kk,hi=aa (.v (.int kk (m:Int)))/\m<=ae.length) (pI:(lo=aq/\l=0)∨∃kk,lo=aa (.v (.int kk (l:Int)))) (A5:l<=m):
 ∃y,gC P t x lo hi aq=aa y/\dE sz h y ((ae.take m).drop l):=by
 have hm:m<=ae.length:=by rcases sD with⟨-,q⟩|⟨_,-,q⟩<;>omega
 have bound:∀top,ae.length<=top->ga top hi ae.length=aa m:=λtop VC=>by
  rcases sD with⟨rfl,rfl⟩|⟨kk,rfl,q⟩
  ·rfl
  ·show(if 0<=(m:Int)/\(m:Int)<=(top:Int) then aa (m:Int).toNat else aq)=_;rw[aF ⟨ag,by omega⟩,dL]
 have bound0:ga m lo 0=aa l:=by
  rcases pI with⟨rfl,rfl⟩|⟨kk,rfl⟩
  ·rfl
  ·show(if 0<=(l:Int)/\(l:Int)<=(m:Int) then aa (l:Int).toNat else aq)=_;rw[aF ⟨ag,by omega⟩,dL]
 have iS:∀r∈(ae.take m).drop l,r.length=sz:=λr hr=>s.1 r (oa (List.mem_of_mem_drop hr));rcases s.2 with⟨k,s',rfl,hk⟩|⟨b,off,aB,cs,rfl,h2,h3,h4,h5⟩
 ·have jM:ga ae.length aq ae.length=aa ae.length:=rfl;have bA:sz=s'∨ae=[]:=by
   by_cases q:ae=[]
   ·exact .inr q
   ·exact .inl (hk q).symm
  refine⟨.list (py k (decide (m=ae.length)) av (m - l)) s' ((ae.take m).drop l),?_,iS,.inl ⟨_,_,rfl,λq=>hk (by rintro rfl;simp at q)⟩⟩;unfold gC;simp only[hu,hs,jM,bound ae.length (aJ _),bound0,Af,zL,jG,if_false,aF bA,Option.isNone_none,Bool.and_true]
 ·have jM:ga aB aq aB=aa aB:=rfl;have hlen:((ae.take m).drop l).length=m - l:=by rw[gE,eP];omega
  refine⟨.arr b (if aB=l then off else off+l * sz) (m - l) (aB - l),?_,iS,.inr ⟨b,_,aB - l,cs,by rw[hlen],by omega,h3,?_,?_⟩⟩
  ·unfold gC;simp only[hu,hs,jM,bound aB h2,bound0,Af,zL,jG,if_false,false_and];rw[aG ag]
  ·rw[hlen];by_cases q:aB=l
   ·have:m - l=0:=(by omega);rw[aF q,this,EU,fB];have:(ae.take m).drop l=[]:=(by apply List.eq_nil_of_length_eq_zero;rw[hlen];omega);rw[this];rfl
   ·rw[aG q,TC (λr hr=>s.1 r (oa hr)),Mx s.1,<-h4,Rd,<-wM];have e1:min (m * sz) (ae.length * sz)=m * sz:=Ck (nF _ hm);rw[e1,Q7,<-Nat.sub_mul]
  ·rw[hlen];have e1:m * sz<=ae.length * sz:=nF _ hm;have e2:(m - l) * sz+l * sz=m * sz:=(by rw[<-gg,Nat.sub_add_cancel A5]);split<;>omega
def dE.got(s:dE sz h x ae):rowsOf h sz x=aa ae:=by
 rcases s.2 with⟨k,s',rfl,hk⟩|⟨b,off,aB,cs,rfl,h2,h3,h4,h5⟩
 ·unfold rowsOf;by_cases q:ae=[]
  ·simp[q]
  ·simp[hk q]
 ·unfold rowsOf;simp only[h3,aF h5,dA];apply HE
  ·simp
  ·intro i h1 h6;rw[qa,zS];have:=Mw s.1 (aO h6);rw[<-h4,Q7,Rd,wM] at this;rw[<-this];congr 1;have:(i+1) * sz<=ae.length * sz:=nF _ h6;rw[gg] at this;omega
def dE.news(s:dE sz h x ae):me h sz x=aa ae:=by have:=s.got;rcases s.2 with⟨k,s',rfl,-⟩|⟨b,off,aB,cs,rfl,-⟩<;>exact this
end
end Go.AE
end
section
namespace Go.AE
section
variable {P:Program} {G:Nat->Option (List AV)} {t:TypeId} {x y:Operand} {k k':IntKind} {a b:Int}
def rX:cN P .and t x y (.v (.int k a)) (.v (.int k b))=aa (.v (.int k (k.wrap (BitVec.ofInt k.bits a&&&BitVec.ofInt k.bits b).toNat))):=qQ (v:=.int k (k.wrap (BitVec.ofInt k.bits a&&&BitVec.ofInt k.bits b).toNat)) (by simp[binOp,Op.intBits];rfl)
def LQ:cN P .or t x y (.v (.int k a)) (.v (.int k b))=aa (.v (.int k (k.wrap (BitVec.ofInt k.bits a|||BitVec.ofInt k.bits b).toNat))):=qQ (v:=.int k (k.wrap (BitVec.ofInt k.bits a|||BitVec.ofInt k.bits b).toNat)) (by simp[binOp,Op.intBits];rfl)
def Sf:cN P .xor t x y (.v (.int k a)) (.v (.int k b))=aa (.v (.int k (k.wrap (BitVec.ofInt k.bits a^^^BitVec.ofInt k.bits b).toNat))):=qQ (v:=.int k (k.wrap (BitVec.ofInt k.bits a^^^BitVec.ofInt k.bits b).toNat)) (by simp[binOp,Op.intBits];rfl)
def LR(h:0<=b):cN P .shl t x y (.v (.int k a)) (.v (.int k' b))=aa (.v (.int k (k.wrap (a * 2^min b.toNat k.bits)))):=by
 have hn:¬b<0:=by omega
 show(gy P (do eqGuard .shl t x y (.int k a) (.int k' b);binOp .shl t (.int k a) (.int k' b))).bind oB=_;rw[By];have hg:gy P (eqGuard .shl t x y (.int k a) (.int k' b))=aa ():=rfl;rw[hg];simp[binOp,Op.shift,hn];rfl
def Am(h:0<=b):cN P .shr t x y (.v (.int k a)) (.v (.int k' b))=aa (.v (.int k (a.fdiv (2^min b.toNat k.bits)))):=by
 have hn:¬b<0:=by omega
 show(gy P (do eqGuard .shr t x y (.int k a) (.int k' b);binOp .shr t (.int k a) (.int k' b))).bind oB=_;rw[By];have hg:gy P (eqGuard .shr t x y (.int k a) (.int k' b))=aa ():=rfl;rw[hg];simp[binOp,Op.shift,hn];rfl
end
def aN(v:BitVec 32):AV:=.v (.int .u32 (v.toNat:Int))
section
variable {P:Program} {t:TypeId} {x y:Operand} {k':IntKind} {u v:BitVec 32}
def wrap32(n):IntKind.u32.wrap n=n%4294967296:=by unfold IntKind.wrap;simp[IntKind.signed,IntKind.bits]
def ofInt32(v):BitVec.ofInt 32 (v.toNat:Int)=v:=by apply BitVec.eq_of_toNat_eq;rw[BitVec.toNat_ofInt];have:=v.isLt;simp;omega
def KF(v:BitVec 32):IntKind.u32.wrap (v.toNat:Int)=(v.toNat:Int):=by rw[wrap32];have:=v.isLt;omega
def Ct:cN P .and t x y (aN u) (aN v)=aa (aN (u&&&v)):=by unfold aN;rw[rX,show IntKind.u32.bits=32 from rfl,ofInt32,ofInt32,KF]
def oz:cN P .or t x y (aN u) (aN v)=aa (aN (u|||v)):=by unfold aN;rw[LQ,show IntKind.u32.bits=32 from rfl,ofInt32,ofInt32,KF]
def nV:cN P .xor t x y (aN u) (aN v)=aa (aN (u^^^v)):=by unfold aN;rw[Sf,show IntKind.u32.bits=32 from rfl,ofInt32,ofInt32,KF]
def nI:cN P .add t x y (aN u) (aN v)=aa (aN (u+v)):=by unfold aN;rw[Se,wrap32,BitVec.toNat_add];congr 3
def rM{n:Nat}(hn:n<32):cN P .shr t x y (aN u) (.v (.int k' (n:Int)))=aa (aN (u>>>n)):=by unfold aN;rw[Am ag,dL,show IntKind.u32.bits=32 from rfl,Ck ag,BitVec.toNat_ushiftRight,Nat.shiftRight_eq_div_pow];congr 3;rw[Eu _ (by have:(0:Int)<2^n:=aah aK;omega)];simp
def qF{n:Nat}(hn:n<32):cN P .shl t x y (aN u) (.v (.int k' (n:Int)))=aa (aN (u<<<n)):=by unfold aN;rw[LR ag,dL,show IntKind.u32.bits=32 from rfl,Ck ag,wrap32,BitVec.toNat_shiftLeft,Ae];congr 3
end
end Go.AE
end
section
namespace Go.AE
section
variable {P:Program} {h:ak} {t0 t1 elem:TypeId} {kn k:IntKind} {i:TypeInfo} {zero:List AV} {sz n:Nat}
def R2(h0:P.underlying t0=aa (.slice elem))(h1:P.underlying t1=aa (.int kn))(hi:P.info? elem=aa i)(hz:(iN P elem).bind AV.b8=aa zero)(hn:0<n)(hb:n * i.bytes<=140737488355328)(hm:n<=9223372036854775807)(hs:0<i.size)(hl:zero.length=i.size):
 gq P h #[t0,t1] (.list .nil sz []) (.v (.int k (n:Nat)))=aa (.arr h.boxes.length 0 n n,h.push (aY n zero).flatten):=by
 unfold gq KI;have fk:((n:Nat):Int) * i.bytes<=140737488355328:=by
  have:((n * i.bytes:Nat):Int)<=140737488355328:=Int.ofNat_le.2 hb
  rwa [wK] at this
 simp only[jc,jv,oD,ph,h0,h1,hi,hz];rw[aF ⟨rfl,by omega,fk,by omega,hs,hl⟩,dL];rfl
def RZ{b off len aB:Nat}{cs:List AV}{new:List (List AV)}{x:AV}(h0:P.underlying t0=aa (.slice elem))(h1:P.underlying t1=aa (.slice elem))(hi:P.info? elem=aa i)(hs:0<i.size)(hz:(i.zero.map λz=>z.cells.size)=aa i.size)
 (hx:me h i.size x=aa new) (hb:h.boxes[b]?=aa cs) (h2:len+new.length<=aB) (h3:off+aB * i.size<=cs.length):
 gq P h #[t0,t1] (.arr b off len aB) x=aa (.arr b off (len+new.length) aB,h.put b (eE cs (off+len * i.size) new.flatten)):=by
 unfold gq;simp only[jc,jv,oD,ph,h0,h1,hi,hx,hb];rw[aF ⟨hs,hz⟩,aF ⟨h2,h3⟩];rfl
end
end Go.AE
end
section
namespace Go.AE
def qJ(t:Nat):Tok->Bool
 | .free i=>decide (i<t)
 |_=>ah
mutual
def aL(n l t:Nat):AV->Bool
 | .list k _ es=>qJ t k&&gj n l t es
 | .arr b _ _ _=>decide (b<n)
 | .agg cs=>aU n l t cs
 | .tuple cs=>aU n l t cs
 | .ptr (.box b) _=>decide (b<n)
 | .elem _ es _ _=>gj n l t es
 | .func _ a b=>aU n l t a&&aU n l t b
 | .yield i=>decide (i<l)
 | .iface _ x=>aL n l t x
 |_=>ah
def aU(n l t:Nat):List AV->Bool
 | []=>ah
 |x::r=>aL n l t x&&aU n l t r
def gj(n l t:Nat):List (List AV)->Bool
 | []=>ah
 |r::rs=>aU n l t r&&gj n l t rs
end
def Tr(n l t):∀(a b:List AV),aU n l t (a++b)=(aU n l t a&&aU n l t b)
 | [],b=>by simp[aU]
 |x::a,b=>by rw[kj,aU,aU,Tr n l t a b,ZS]
def r9(n l t):∀es:List (List AV),aU n l t es.flatten=gj n l t es
 | []=>rfl
 |r::es=>by rw[nX,Tr,gj,r9 n l t es]
def bR:Tok->Tok
 | .free _=>.held
 |k=>k
mutual
def aC:AV->AV
 | .list k sz es=>.list (bR k) sz (eH es)
 | .tuple cs=>.tuple (bV cs)
 | .agg cs=>.agg (bV cs)
 | .iface t x=>.iface t (aC x)
 |x=>x
def bV:List AV->List AV
 | []=>[]
 |x::r=>aC x::bV r
def eH:List (List AV)->List (List AV)
 | []=>[]
 |r::rs=>bV r::eH rs
end
def Vf:∀a b:List AV,bV (a++b)=bV a++bV b
 | [],b=>rfl
 |x::a,b=>by rw[kj,bV,Vf a b,bV,kj]
def Dg:∀es:List (List AV),(eH es).flatten=bV es.flatten
 | []=>rfl
 |r::es=>by rw[eH,nX,nX,Vf,Dg es]
def Vg:∀a:List AV,(bV a).length=a.length
 | []=>rfl
 |x::a=>by rw[bV,iW,Vg a,iW]
def FT:∀a:List (List AV),(eH a).length=a.length
 | []=>rfl
 |x::a=>by rw[eH,iW,FT a,iW]
def I7{sz}:∀{es:List (List AV)},(∀r∈es,r.length=sz)->∀r∈eH es,r.length=sz
 | [],_,r,h=>by cases h
 |a::es,h,r,hr=>by
  rw[eH] at hr;rcases gO.1 hr with rfl|hr
  ·rw[Vg];exact h a fR
  ·exact I7 (λr hr=>h r (fi _ hr)) r hr
def ah3(x):(aC x).dN=x.dN:=by cases x<;>rfl
def NH:∀a:List AV,(bV a).all AV.dN=a.all AV.dN
 | []=>rfl
 |x::a=>by rw[bV,Ez,ah3,NH a,Ez]
section
variable {K:aS}
def asR{b g:Nat}(h:K.γ[b]?=aa g):b<K.γ.length:=(aP.1 h).1
mutual
def aT.fit:∀{x:AV} {c:Value},aT K x c->aL K.β.length K.γ.length K.tn x=ah
 |_,_,.bad _=>rfl
 |_,_,.v _ _=>rfl
 |_,_,.nil _=>rfl
 |_,_,.jb _ _=>rfl
 |_,_,.list k _ es _ _ _ _ _ _ _ hv _ ht _=>by
  rw[aL,bC,<-r9];refine⟨?_,aM.fit hv⟩;cases k with|free i=>exact bX ht.2.1|_=>rfl
 |_,_,.arr _ _ _ _ _ _ _ hb _ _ _ _=>by rw[aL];exact bX (KJ hb)
 |_,_,.agg _ _ hv=>by rw[aL];exact aM.fit hv
 |_,_,.tuple _ _ hv=>by rw[aL];exact aM.fit hv
 |_,_,.box _ _ _ hb=>by rw[aL];exact bX (KJ hb)
 |_,_,.eD _ _=>rfl
 |_,_,.elem _ es _ _ _ _ _ _ _ hv _ _ _ _=>by rw[aL,<-r9];exact aM.fit hv
 |_,_,.func _ _ _ _ _ h1 h2=>by rw[aL,aM.fit h1,aM.fit h2];rfl
 |_,_,.yield _ _ hl=>by rw[aL];exact bX (asR hl)
 |_,_,.iface _ _ _ hx=>by rw[aL];exact aT.fit hx
def aM.fit:∀{xs:List AV} {cs:List Value},aM K xs cs->aU K.β.length K.γ.length K.tn xs=ah
 |_,_,.nil=>rfl
 |_,_,.cons _ _ _ _ hx hs=>by rw[aU,aT.fit hx,aM.fit hs];rfl
end
mutual
def aT.vR{K2:aS}{n l t:Nat}(hβ:∀b g:Nat,b<n->K.β[b]?=aa g->K2.β[b]?=aa g)(hγ:∀b g:Nat,b<l->K.γ[b]?=aa g->K2.γ[b]?=aa g)(ir:∀g j c,K.ic g j=aa c->K2.ic g j=aa c)(uz:K2.tk=K.tk)(sJ:K2.tn=t)(mR:∀b,b<n->K2.lb b=K.lb b):
 ∀{x:AV} {c:Value},aT K x c->aL n l t x=ah->aT K2 x c
 |_,_,.bad c,_=>.bad c
 |_,_,.v x hx,_=>.v x hx
 |_,_,.nil sz,_=>.nil sz
 |_,_,.jb sz a,_=>.jb sz a
 |_,_,.list k sz es g off m aB cells hn hr hv hc ht ha,h=>by
  rw[aL,bC] at h;refine .list k sz es g off m aB cells hn hr (aM.vR hβ hγ ir uz sJ mR hv (by rw[r9];exact h.2)) (λj c hj=>ir _ _ _ (hc j c hj)) ⟨ht.1,?_⟩ ha;have h1:=h.1;have h2:=ht.2;cases k with|free i=>simp only at h2 ⊢;rw[uz,sJ];exact⟨of_decide_eq_true h1,h2.2⟩|_=>exact h2
 |_,_,.arr b g off len aB fa hY hb hl hc ho hr,h=>by rw[aL] at h;have aA:=of_decide_eq_true h;exact .arr b g off len aB fa hY (hβ _ _ aA hb) hl hc ho (by rw[mR b aA];exact hr)
 |_,_,.agg cs vs hv,h=>.agg cs vs (aM.vR hβ hγ ir uz sJ mR hv (by rw[aL] at h;exact h))
 |_,_,.tuple cs vs hv,h=>.tuple cs vs (aM.vR hβ hγ ir uz sJ mR hv (by rw[aL] at h;exact h))
 |_,_,.box b g off hb,h=>.box b g off (hβ _ _ (by rw[aL] at h;exact of_decide_eq_true h) hb)
 |_,_,.eD g off,_=>.eD g off
 |_,_,.elem sz es i off g o p cells hr hv hc hi hp ha,h=>.elem sz es i off g o p cells hr (aM.vR hβ hγ ir uz sJ mR hv (by rw[r9];rw[aL] at h;exact h)) (λj c hj=>ir _ _ _ (hc j c hj)) hi hp ha
 |_,_,.func fn first aB fs cs h1 h2,h=>.func fn first aB fs cs (aM.vR hβ hγ ir uz sJ mR h1 (by rw[aL,bC] at h;exact h.1)) (aM.vR hβ hγ ir uz sJ mR h2 (by rw[aL,bC] at h;exact h.2))
 |_,_,.yield i g hl,h=>.yield i g (hγ _ _ (by rw[aL] at h;exact of_decide_eq_true h) hl)
 |_,_,.iface t x c hx,h=>.iface t x c (aT.vR hβ hγ ir uz sJ mR hx (by rw[aL] at h;exact h))
def aM.vR{K2:aS}{n l t:Nat}(hβ:∀b g:Nat,b<n->K.β[b]?=aa g->K2.β[b]?=aa g)(hγ:∀b g:Nat,b<l->K.γ[b]?=aa g->K2.γ[b]?=aa g)(ir:∀g j c,K.ic g j=aa c->K2.ic g j=aa c)(uz:K2.tk=K.tk)(sJ:K2.tn=t)(mR:∀b,b<n->K2.lb b=K.lb b):
 ∀{xs:List AV} {cs:List Value},aM K xs cs->aU n l t xs=ah->aM K2 xs cs
 |_,_,.nil,_=>.nil
 |_,_,.cons x c xs cs hx hs,h=>.cons x c xs cs (aT.vR hβ hγ ir uz sJ mR hx (by rw[aU,bC] at h;exact h.1)) (aM.vR hβ hγ ir uz sJ mR hs (by rw[aU,bC] at h;exact h.2))
end
mutual
def aT.hold:∀{x:AV} {c:Value},aT K x c->aT K (aC x) c
 |_,_,.bad c=>.bad c
 |_,_,.v x hx=>.v x hx
 |_,_,.nil sz=>.nil sz
 |_,_,.jb sz a=>.jb sz a
 |_,_,.list k sz es g off m aB cells hn hr hv hc ht ha=>by
  have pP:aM K (eH es).flatten cells:=by rw[Dg];exact aM.hold hv
  have mC:(eH es).flatten.all AV.dN=ah:=by rw[Dg,NH];exact ha
  have De:m=(eH es).length:=by rw[FT];exact hn
  cases k with|free i=>exact .list .held sz _ g off m aB cells De (I7 hr) pP hc ⟨ht.1,aQ⟩ mC|_=>exact .list _ sz _ g off m aB cells De (I7 hr) pP hc ht mC
 |_,_,.arr b g off len aB fa hY hb hl hc ho hr=>.arr b g off len aB fa hY hb hl hc ho hr
 |_,_,.agg cs vs hv=>.agg _ vs (aM.hold hv)
 |_,_,.tuple cs vs hv=>.tuple _ vs (aM.hold hv)
 |_,_,.box b g off hb=>.box b g off hb
 |_,_,.eD g off=>.eD g off
 |_,_,.elem sz es i off g o p cells hr hv hc hi hp ha=>.elem sz es i off g o p cells hr hv hc hi hp ha
 |_,_,.func fn first aB fs cs h1 h2=>.func fn first aB fs cs h1 h2
 |_,_,.yield l g hl=>.yield l g hl
 |_,_,.iface t x c hx=>.iface t _ c (aT.hold hx)
def aM.hold:∀{xs:List AV} {cs:List Value},aM K xs cs->aM K (bV xs) cs
 |_,_,.nil=>.nil
 |_,_,.cons x c xs cs hx hs=>.cons _ c _ cs (aT.hold hx) (aM.hold hs)
end
end
section
variable {P:Program} {G:Nat->Option (List AV)} {w0 w w':World} {K K':aS} {h h':ak} {ok:FuncId->Nat->Code->Bool}
end
end Go.AE
end
section
namespace Go.AE
section
variable {P:Program} {G:Nat->Option (List AV)} {w0:World} {prims:FuncId->Option (List AV->ak->Option (AV × ak))}
def td{L:List FuncId}(h:(L.all λg=>match P.funcs[g]? with|some fn=>fn.body.isSome|none=>av)=ah):∀g∈L,∃fn,P.funcs[g]?=aa fn/\fn.body.isSome=ah:=by
 intro g hg;have:=dU.1 h g hg;split at this
 ·rename_i fn gG;exact⟨fn,gG,this⟩
 ·cases this
variable {L:List FuncId} {R:Rec} {g:FuncId} {args:List AV} {h h2:ak} {x y:AV}
end
end Go.AE
end
section
namespace Go.NT
def ek:List Nat->Nat
 | []=>0
 |x::l=>x+ek l
def mg:List Int->Int
 | []=>1
 |x::l=>x * mg l
def Zi{l m}(h:l.Perm m):ek l=ek m:=by
 induction h with
 |nil=>rfl|cons x _ ih=>simp only[ek,ih]|swap x y l=>simp only[ek];omega|trans _ _ h1 h2=>exact h1.trans h2
def alC{l m}(h:l.Perm m):mg l=mg m:=by
 induction h with
 |nil=>rfl|cons x _ ih=>simp only[mg,ih]|swap x y l=>simp only[mg];rw[Cb]|trans _ _ h1 h2=>exact h1.trans h2
def Zh(l m):ek (l++m)=ek l+ek m:=by
 induction l with
 |nil=>simp[ek]|cons x l ih=>simp only[kj,ek,ih];omega
def fb(h:Nat):List Nat:=List.range' 1 h
def uE{k h}:k∈fb h↔1<=k/\k<=h:=by
 unfold fb;rw[List.mem_range'];constructor
 ·rintro⟨i,hi,rfl⟩;omega
 ·rintro⟨h1,h2⟩;exact⟨k - 1,by omega,by omega⟩
def XK(h):fb (h+1)=fb h++[h+1]:=by unfold fb;rw[List.range'_1_concat,aaS 1 h]
def Pw(h):(fb h).length=h:=by simp[fb]
def anM(h):(fb h).Nodup:=List.nodup_range' 1
def akZ:∀{l m:List Nat},l.Nodup->(∀x∈l,x∈m)->m.length<=l.length->l.Perm m:=by
 intro l
 induction l with
 |nil=>
  intro m _ _ hlen;have:m=[]:=by cases m with|nil=>rfl|cons _ _=>simp at hlen
  subst this;exact .nil
 |cons x l ih=>
  intro m hl hs hlen;have hx:=hs x fR;have hp:=List.perm_cons_erase hx;rw[EH] at hl;refine List.Perm.trans (.cons x (ih hl.2 (λy hy=>?_) ?_)) hp.symm
  ·have bH:y≠x:=(by rintro rfl;exact hl.1 hy);exact(List.mem_erase_of_ne bH).2 (hs y (fi _ hy))
  ·rw[List.length_erase_of_mem hx];simp at hlen;omega
def aj8{f:Nat->Nat}:∀{l:List Nat},l.Nodup->(∀x∈l,∀y∈l,f x=f y->x=y)->(l.map f).Nodup:=by
 intro l
 induction l with
 |nil=>intro _ _;exact List.nodup_nil|cons x l ih=>intro h hf;rw[EH] at h;rw[eo,EH];refine⟨λhm=>?_,ih h.2 λa ha b hb=>hf a (fi _ ha) b (fi _ hb)⟩;obtain⟨y,hy,he⟩:=jo.1 hm;have:=hf y (fi _ hy) x fR he;subst this;exact h.1 hy
def fl(a n k:Nat):Nat:=if n<2 * (a * k%n) then 1 else 0
def ab(a n k:Nat):Nat:=if n<2 * (a * k%n) then n - a * k%n else a * k%n
def mu(a n:Nat):Nat:=ek ((fb (n/2)).map (fl a n))
section
variable {a b n h:Nat}
def XE(hc:nE a n){k:Nat}(h0:0<k)(h1:k<n):a * k%n≠0:=λq=>by have:n∣k:=(Lj hc).dvd_of_dvd_mul_left (EM q);have:=Cj h0 this;omega
def RH(hn:n=2 * h+1)(hc:nE a n){k:Nat}(hk:1<=k/\k<=h):1<=ab a n k/\ab a n k<=h:=by have h1:=XE hc (k:=k) ag ag;have h2:=mr (a * k) (ag:0<n);unfold ab;split<;>omega
def abv(hn:n=2 * h+1)(hc:nE a n){k l:Nat}(hk:1<=k/\k<=h)(hl:1<=l/\l<=h)(he:ab a n k=ab a n l):k=l:=by
 have y9:=mr (a * k) (ag:0<n);have oO:=mr (a * l) (ag:0<n);have key:∀{x y:Nat},x<=y->y<n->a * x%n=a * y%n->x=y:=by
  intro x y VO hy q;have hd:n∣a * y - a * x:=EM (Nat.sub_mod_eq_zero_of_mod_eq q.symm);rw[<-Nat.mul_sub] at hd;have:=(Lj hc).dvd_of_dvd_mul_left hd;rcases EN (y - x) with q|q
  ·omega
  ·have:=Cj q this;omega
 have key2:a * k%n+a * l%n≠n:=λq=>by
  have hd:n∣a * (k+l):=by rw[Rg];apply EM;rw[HM,q,Nat.mod_self]
  have:=(Lj hc).dvd_of_dvd_mul_left hd;have:=Cj ag this;omega
 have same:a * k%n=a * l%n->k=l:=λq=>by
  rcases Nat.le_total k l with p|p
  ·exact key p ag q
  ·exact(key p ag q.symm).symm
 unfold ab at he;split at he<;>split at he
 ·exact same ag
 ·exact absurd ag key2
 ·exact absurd ag key2
 ·exact same he
def O8(hn:n=2 * h+1)(hc:nE a n):((fb h).map (ab a n)).Perm (fb h):=by refine akZ (aj8 (anM h) λx hx y hy he=>abv hn hc (uE.1 hx) (uE.1 hy) he) (λx hx=>?_) bh;obtain⟨y,hy,rfl⟩:=jo.1 hx;exact uE.2 (RH hn hc (uE.1 hy))
def Zl{f g q}:∀{l:List Nat},(∀k∈l,f k%2=(g k+q k)%2)->ek (l.map f)%2=(ek (l.map g)+ek (l.map q))%2:=by
 intro l
 induction l with
 |nil=>intro _;rfl|cons x l ih=>intro hf;have h1:=hf x fR;have h2:=ih λk hk=>hf k (fi _ hk);simp only[eo,ek];omega
def af3(hn:n=2 * h+1)(ha:nE a n)(hb:nE b n){k:Nat}(hk:1<=k/\k<=h):fl (a * b) n k%2=(fl b n k+fl a n (ab b n k))%2:=by
 have hbr:=RH hn hb hk;have hx0:=XE ha (k:=ab b n k) ag ag;have dx:=mr (a * ab b n k) (ag:0<n);have cO:=mr (b * k) (ag:0<n);have e1:a * b * k%n=a * (b * k%n)%n:=by rw[Ln,aa0]
 unfold fl;rw[e1];by_cases hr:n<2 * (b * k%n)
 ·have CV:ab b n k=n - b * k%n:=by unfold ab;rw[aF hr]
  rw[aF hr];have xG:=mr (a * (b * k%n)) (ag:0<n);have hs:(a * (b * k%n)%n+a * ab b n k%n)%n=0:=by rw[<-HM,<-Rg,CV,(ag:b * k%n+(n - b * k%n)=n),Nat.mul_mod_left]
  have zl:a * (b * k%n)%n+a * ab b n k%n=n:=by
   have hd:=EM hs;obtain⟨c,hc⟩:=hd;rcases c with _|_|c
   ·omega
   ·omega
   ·exfalso;have:n * 2<=n * (c+1+1):=aaZ n ag;omega
  split<;>split<;>omega
 ·have CV:ab b n k=b * k%n:=by unfold ab;rw[aG hr]
  rw[aG hr,CV];simp
def ajU(hn:n=2 * h+1)(ha:nE a n)(hb:nE b n):mu (a * b) n%2=(mu a n+mu b n)%2:=by
 have hh:n/2=h:=by omega
 unfold mu;rw[hh,Zl (g:=fl b n) (q:=λk=>fl a n (ab b n k)) λk hk=>af3 hn ha hb (uE.1 hk)];have e:(fb h).map (λk=>fl a n (ab b n k))=((fb h).map (ab b n)).map (fl a n):=by rw[zU];rfl
 rw[e,Zi ((O8 hn hb).map (fl a n))];omega
def Zj(c):∀m:Nat,ek ((fb m).map λk=>if c<k then 1 else 0)=m - c:=by
 intro m
 induction m with
 |zero=>simp[fb,ek]|succ m ih=>rw[XK,lU,Zh,ih];simp only[eo,tR,ek];split<;>omega
def arh(c):∀m:Nat,ek ((fb m).map λk=>if k<=c then 1 else 0)=min c m:=by
 intro m
 induction m with
 |zero=>simp[fb,ek]|succ m ih=>rw[XK,lU,Zh,ih];simp only[eo,tR,ek];split<;>omega
def Kx{f g}:∀{l:List Nat},(∀k∈l,f k=g k)->ek (l.map f)=ek (l.map g):=by
 intro l
 induction l with
 |nil=>intro _;rfl|cons x l ih=>intro hf;simp only[eo,ek];rw[hf x fR,ih λk hk=>hf k (fi _ hk)]
def ajW(hn:n=2 * h+1):mu 2 n=h - h/2:=by
 have hh:n/2=h:=by omega
 unfold mu;rw[hh,<-Zj (h/2) h];refine Kx λk hk=>?_;have:=uE.1 hk;unfold fl;rw[nb ag];split<;>split<;>omega
def ajV(hn:n=2 * h+1):mu 1 n=0:=by
 have hh:n/2=h:=by omega
 unfold mu;rw[hh];have:(fb h).map (fl 1 n)=(fb h).map λk=>if h<k then 1 else 0:=by apply HI;intro k hk;have:=uE.1 hk;unfold fl;rw[Cl,nb ag];split<;>split<;>omega
 rw[this,Zj];omega
def ajT:mu (a%n) n=mu a n:=by unfold mu;refine Kx λk _=>?_;unfold fl;rw[Rf]
def Wr(hn:n=2 * h+1)(hc:nE a n)(ha:a%2=1):mu a n%2=ek ((fb h).map λk=>a * k/n)%2:=by
 have hh:n/2=h:=by omega
 have step:∀k∈fb h,fl a n k%2=((a * k/n)+(ab a n k+k))%2:=by
  intro k _;have hd:=Re (a * k) n;have hr:=mr (a * k) (ag:0<n);have p1:a * k%2=k%2:=by rw[rT,ha];simp
  have p2:n * (a * k/n)%2=(a * k/n)%2:=by rw[rT,(ag:n%2=1)];simp
  generalize n * (a * k/n)=u at *
  generalize a * k/n=v at *
  unfold fl ab;generalize a * k%n=r at *
  split<;>omega
 unfold mu;rw[hh,Zl step];have e:ek ((fb h).map λk=>ab a n k+k)=ek ((fb h).map (ab a n))+ek ((fb h).map λk=>k):=by
  generalize fb h=l
  induction l with
  |nil=>rfl|cons x l ih=>simp only[eo,ek];rw[ih];omega
 rw[e,Zi (O8 hn hc),List.map_id'];omega
end
def agf(f:Nat->Nat->Nat):∀(l m:List Nat),ek (l.map λk=>ek (m.map λj=>f k j))=ek (m.map λj=>ek (l.map λk=>f k j)):=by
 intro l m
 induction l with
 |nil=>
  simp only[tR,ek]
  induction m with
  |nil=>rfl|cons x m ih=>simp only[eo,ek];rw[<-ih]
 |cons x l ih=>
  simp only[eo,ek];rw[ih];clear ih
  induction m with
  |nil=>rfl|cons y m ih=>simp only[eo,ek];rw[<-ih];omega
def TF{m n g h k}(hn:n=2 * h+1)(hm:m=2 * g+1)(hk:k<=h):m * k/n=ek ((fb g).map λl=>if n * l<=m * k then 1 else 0):=by
 have eg:m * k/n<=g:=by
  have:m * k/n<g+1:=by rw[Nat.div_lt_iff_lt_mul ag];have h1:m * k<=m * h:=aaZ m hk;have h2:(g+1) * n=m * h+(g+1+h):=(by subst hn hm;simp only[gg,Rg,nG,Cl];have:g * (2 * h)=2 * g * h:=(by rw[Lo 2 g,Ln]);omega);omega
  omega
 have:(fb g).map (λl=>if n * l<=m * k then 1 else 0)=(fb g).map λl=>if l<=m * k/n then 1 else 0:=by
  apply HI;intro l _;have:(n * l<=m * k)↔l<=m * k/n:=by rw[Nat.le_div_iff_mul_le ag,Lo]
  simp only[this]
 rw[this,arh];omega
def aiQ{m n g h}(hn:n=2 * h+1)(hm:m=2 * g+1)(hc:nE m n):
 ek ((fb h).map λk=>m * k/n)+ek ((fb g).map λl=>n * l/m)=h * g:=by
 have e1:ek ((fb h).map λk=>m * k/n)=ek ((fb h).map λk=>ek ((fb g).map λl=>if n * l<=m * k then 1 else 0)):=
  Kx λk hk=>TF hn hm (uE.1 hk).2
 have e2:ek ((fb g).map λl=>n * l/m)=ek ((fb g).map λl=>ek ((fb h).map λk=>if m * k<=n * l then 1 else 0)):=
  Kx λl hl=>TF hm hn (uE.1 hl).2
 rw[e1,e2,agf (λl k=>if m * k<=n * l then 1 else 0)];have one:∀k∈fb h,∀l∈fb g,(if n * l<=m * k then 1 else 0)+(if m * k<=n * l then 1 else 0)=1:=by
  intro k hk l hl;have hk:=uE.1 hk;have bH:m * k≠n * l:=λq=>by have hd:n∣m * k:=⟨l,q⟩;have:=(Lj hc).dvd_of_dvd_mul_left hd;have:=Cj ag this;omega
  split<;>split<;>omega
 have inner:∀(k:Nat) (ls:List Nat),k∈fb h->(∀l∈ls,l∈fb g)->ek (ls.map λl=>if n * l<=m * k then 1 else 0)+ek (ls.map λl=>if m * k<=n * l then 1 else 0)=ls.length:=by
  intro k ls hk
  induction ls with
  |nil=>intro _;rfl|cons x ls ih=>intro hs;have h1:=one k hk x (hs x fR);have h2:=ih λl hl=>hs l (fi _ hl);simp only[eo,ek,iW];omega
 have outer:∀(ks:List Nat),(∀k∈ks,k∈fb h)->ek (ks.map λk=>ek ((fb g).map λl=>if n * l<=m * k then 1 else 0))+ek (ks.map λk=>ek ((fb g).map λl=>if m * k<=n * l then 1 else 0))=ks.length * g:=by
  intro ks
  induction ks with
  |nil=>intro _;simp[ek]|cons x ks ih=>intro hs;have h1:=inner x (fb g) (hs x fR) (λ_ h=>h);rw[Pw] at h1;have h2:=ih λl hl=>hs l (fi _ hl);simp only[eo,ek,iW,gg,Cl];omega
 have:=outer (fb h) (λ_ h=>h);rw[Pw] at this;exact this
def amb{m n g h}(hn:n=2 * h+1)(hm:m=2 * g+1)(hc:nE m n):(mu m n+mu n m)%2=h * g%2:=by have e1:=Wr hn hc ag;have e2:=Wr hm hc.symm ag;have:=aiQ hn hm hc;rw[HM,e1,e2,<-HM,this]
end Go.NT
end
section
namespace Go.NT
def OV:∀c:Nat,(1:Int)^c=1:=by
 intro c
 induction c with
 |zero=>rfl|succ c ih=>rw[wL,ih];rfl
def xL(p:Nat):Prop:=2<=p/\∀d,d∣p->d=1∨d=p
def xL.coprime{p k}(hp:xL p)(h0:0<k)(h1:k<p):Nat.Coprime k p:=by
 have hd:Nat.gcd k p∣p:=Nat.gcd_dvd_right k p;rcases hp.2 _ hd with q|q
 ·exact q
 ·have:=Cj h0 (Nat.gcd_dvd_left k p);omega
def alE(a):∀l:List Nat,mg (l.map λ(k:Nat)=>a * (k:Int))=a^l.length * mg (l.map λ(k:Nat)=>(k:Int)):=by
 intro l
 induction l with
 |nil=>simp[mg]|cons x l ih=>simp only[eo,mg,ih,iW,wL];rw[wJ,wJ,Cb (x:Int),<-wJ a,yo a,wJ]
def alF(f)(g):∀l:List Nat,mg (l.map λk=>(-1)^f k * g k)=(-1)^ek (l.map f) * mg (l.map g):=by
 intro l
 induction l with
 |nil=>simp[mg,ek]|cons x l ih=>simp only[eo,mg,ek,ih,QY];rw[wJ,wJ,Cb (g x)]
def alD{p}{f g}:∀{l:List Nat},(∀k∈l,p∣f k - g k)->p∣mg (l.map f) - mg (l.map g):=by
 intro l
 induction l with
 |nil=>intro _;simp[mg]|cons x l ih=>
  intro h;have h1:=h x fR;have h2:=ih λk hk=>h k (fi _ hk);simp only[eo,mg];generalize mg (l.map f)=F at *
  generalize mg (l.map g)=G at *
  have e:f x * F - g x * G=(f x - g x) * F+g x * (F - G):=by rw[KX,yp];omega
  rw[e];exact wI (Int.dvd_mul_of_dvd_left h1) (Et h2)
def cancel{p}(hp:xL p):∀(l:List Nat) (x:Int),(∀k∈l,0<k/\k<p)->(p:Int)∣x * mg (l.map λ(k:Nat)=>(k:Int))->(p:Int)∣x:=by
 intro l
 induction l with
 |nil=>intro x _ h;simpa [mg] using h|cons k l ih=>
  intro x hk h;obtain⟨h0,h1⟩:=hk k fR;refine ih x (λj hj=>hk j (fi _ hj)) ?_;simp only[eo,mg] at h;rw[Cb] at h;generalize x * mg (l.map λ(k:Nat)=>(k:Int))=y at *
  have hn:=aac.2 h;rw[Int.natAbs_mul,QU,QU] at hn;have:=(hp.coprime h0 h1).symm.dvd_of_dvd_mul_left hn;exact aac.1 (by rw[QU];exact this)
def TS{p h a}(hp:xL p)(hn:p=2 * h+1)(hc:Nat.Coprime a p):(p:Int)∣(a:Int)^h - (-1)^mu a p:=by
 have hh:p/2=h:=by omega
 have step:∀k∈fb h,(p:Int)∣(a:Int) * (k:Int) - (-1)^fl a p k * (ab a p k:Int):=by
  intro k _;have hd:=Re (a * k) p;have hr:=mr (a * k) (ag:0<p);have gu:(a:Int) * (k:Int)=(p:Int) * ((a * k/p:Nat):Int)+((a * k%p:Nat):Int):=by rw[<-wK,<-wK,<-aad,hd]
  unfold fl ab;by_cases q:p<2 * (a * k%p)
  ·rw[aF q,aF q,gu];have e:((p - a * k%p:Nat):Int)=(p:Int) - ((a * k%p:Nat):Int):=(by omega);rw[e];refine⟨((a * k/p:Nat):Int)+1,?_⟩;rw[KU];simp only[HA,Int.pow_one];omega
  ·rw[aG q,aG q,gu];refine⟨((a * k/p:Nat):Int),?_⟩;simp only[KW,Ev];omega
 have h1:=alD step;rw[alE,alF,Pw] at h1;have e1:(fb h).map (λk=>(ab a p k:Int))=((fb h).map (ab a p)).map λ(k:Nat)=>(k:Int):=by rw[zU];rfl
 rw[e1,alC ((O8 hn hc).map λ(k:Nat)=>(k:Int)),<-KX] at h1;have:=cancel hp (fb h) _ (λk hk=>by have:=uE.1 hk;omega) h1;unfold mu;rw[hh];exact this
def afI{p h a}(hp:xL p)(hn:p=2 * h+1)(h0:0<a)(h1:a<p):(a^h%p=1)↔mu a p%2=0:=by
 have hg:=TS hp hn (hp.coprime h0 h1);have mF:=hp.1;have NP:((a^h:Nat):Int)=(a:Int)^h:=by simp
 rw[<-NP] at hg;constructor
 ·intro q;rcases Ac (mu a p) with r|r
  ·exact r
  ·exfalso;have:((-1:Int))^mu a p= -1:=(by obtain⟨c,hc⟩:∃c,mu a p=2 * c+1:=⟨mu a p/2,by omega⟩;rw[hc,wL,Ew];simp[OV]);rw[this] at hg;have hd:p∣a^h+1:=(by have e:((a^h:Nat):Int) - -1=((a^h+1:Nat):Int):=(by omega);rw[e] at hg;exact QV.1 hg);have:=Nat.mod_eq_zero_of_dvd hd;rw[HM,q] at this;have h3:1%p=1:=nb ag;rw[h3] at this;have:p∣2:=EM this;have:=Cj ag this;omega
 ·intro r;have:((-1:Int))^mu a p=1:=by obtain⟨c,hc⟩:∃c,mu a p=2 * c:=⟨mu a p/2,by omega⟩;rw[hc,Ew];simp[OV]
  rw[this] at hg;have jW:0<a^h:=Lr h0;have hd:p∣a^h - 1:=by have e:((a^h:Nat):Int) - 1=((a^h - 1:Nat):Int):=(by omega);rw[e] at hg;exact QV.1 hg
  obtain⟨c,hc⟩:=hd;have:a^h=p * c+1:=by omega
  rw[this,aaX,nb ag]
def aqP{x n}(ho:n%2=1)(hc:nE (2 * x) n):mu (2 * x) n%2=(mu x n+(if n%8=3∨n%8=5 then 1 else 0))%2:=by
 have hn:n=2 * (n/2)+1:=by omega
 have h2:nE 2 n:=Nat.Coprime.coprime_mul_right hc;have hx:nE x n:=aaR hc;rw[ajU hn h2 hx,ajW hn];split<;>omega
def aqR{x n}(ho:n%2=1)(hx:x%2=1)(hc:nE x n):mu x n%2=(mu (n%x) x+(if x%4=3/\n%4=3 then 1 else 0))%2:=by
 have hn:n=2 * (n/2)+1:=by omega
 have hm:x=2 * (x/2)+1:=by omega
 have h:=amb hn hm hc;rw[ajT];have e:(n/2) * (x/2)%2=(if x%4=3/\n%4=3 then 1 else 0):=by rw[rT];rcases Ac (n/2) with p|p<;>rcases Ac (x/2) with q|q<;>rw[p,q]<;>split<;>omega
 rw[e] at h;split at h<;>split<;>omega
def aeJ{x n}(hc:nE x n):nE (n%x) x:=by
 unfold nE at *
 rw[<-Nat.gcd_rec,hc]
def DK(p:Nat):Nat->Nat->Bool
 |0,lo=>Nat.blt 0 (p%lo)
 |k+1,lo=>DK p k lo&&DK p k (lo+2^k)
def aj7{p}:∀{k lo:Nat},DK p k lo=ah->∀d,lo<=d->d<lo+2^k->p%d≠0:=by
 intro k
 induction k with
 |zero=>
  intro lo h d h1 h2;have:d=lo:=by simp at h2;omega
  subst this;unfold DK at h;have:1<=p%d:=by simpa [Nat.blt] using h
  omega
 |succ k ih=>
  intro lo h d h1 h2;unfold DK at h;rw[bC] at h;rw[Ad] at h2;rcases dI d (lo+2^k) with q|q
  ·exact ih h.1 d h1 q
  ·exact ih h.2 d q ag
def VX{p k}(h2:2<=p)(h:DK p k 2=true)(hk:p<(2^k+2) * (2^k+2)):xL p:=by
 refine⟨h2,λd hd=>?_⟩;obtain⟨e,he⟩:=hd;have bI:d≠0:=by rintro rfl;simp at he;omega
 have aD:e≠0:=by rintro rfl;simp at he;omega
 by_cases eL:d=1
 ·exact .inl eL
 by_cases ia:e=1
 ·right;rw[he,ia,nG]
 exfalso;have key:∀{x y:Nat},p=x * y->2<=x->x<2+2^k->False:=by intro x y VO hx aA;exact aj7 h x hx aA (by rw[VO,Nat.mul_mod_right])
 rcases dI d (2+2^k) with q|q
 ·exact key he ag q
 ·rcases dI e (2+2^k) with r|r
  ·exact key (by rw[he,Lo]) ag r
  ·have:=pg q r;rw[<-he] at this;rw[aaS (2^k) 2] at hk;omega
def P:Nat:=2147483579
def Q:Nat:=1073741789
def Ro:xL P:=VX (k:=16) aK (by decide+kernel) aK
def abb:xL Q:=VX (k:=15) aK (by decide+kernel) aK
end Go.NT
end
section
namespace Go.NT
def CN:Nat->Nat->Nat->Nat->Nat->Nat
 |0,_,_,_,c=>c
 |k+1,m,a,n,c=>if n=0 then c else CN k m (a * a%m) (n/2) (if n%2=1 then c * a%m else c)
def Is{m}(hm:0<m):∀{k a n c:Nat},n<2^k->c<m->CN k m a n c=c * a^n%m:=by
 intro k
 induction k with
 |zero=>
  intro a n c hn hc;have:n=0:=by simp at hn;exact hn
  subst this;simp[CN,nb hc]
 |succ k ih=>
  intro a n c hn hc;unfold CN;by_cases h0:n=0
  ·subst h0;simp[nb hc]
  ·rw[aG h0];have sF:n/2<2^k:=(by rw[Ad] at hn;omega);have Vz:∀e,(a * a%m)^e%m=a^(2 * e)%m:=λe=>(by rw[<-ES,ET,Rh]);split
   ·rename_i ho;rw[ih sF (mr _ hm),rT,Vz,Nat.mod_mod,<-rT,Ln,<-aa7,show(2 * (n/2)).succ=n by omega]
   ·rename_i ho;rw[ih sF hc,rT,Vz,<-rT,(ag:2 * (n/2)=n)]
def rK(a n:Nat):Nat:=CN 31 P a n 1
def Pa{a n}(hn:n<2^31):rK a n=a^n%P:=by unfold rK;rw[Is aK hn aK,Cl]
def elem(x:Nat):Bool:=decide (1<=x)&&decide (x<P)&&Nat.beq (rK x Q) 1
def elem_iff{x}:elem x=ah↔1<=x/\x<P/\x^Q%P=1:=by unfold elem;rw[Pa aK];simp only[bC,decide_eq_true_eq];exact⟨λh=>⟨h.1.1,h.1.2,jw h.2⟩,λh=>⟨⟨h.1,h.2.1⟩,by rw[h.2.2];rfl⟩⟩
def afp{x}(h0:1<=x)(h1:x<P):elem x=decide (mu x P%2=0):=by have:=afI Ro (h:=Q) (a:=x) aK ag h1;rw[Ek,elem_iff,decide_eq_true_eq,<-this];exact⟨λh=>h.2.2,λh=>⟨h0,h1,h⟩⟩
def yK:elem 1=ah:=by rw[elem_iff];exact⟨aK,by decide,by rw[aa3];rfl⟩
def Ff{x y}(hx:elem x=ah)(hy:elem y=ah):elem (x * y%P)=ah:=by
 rw[elem_iff] at *
 obtain⟨x1,x2,x3⟩:=hx;obtain⟨y1,y2,y3⟩:=hy;have hp:(x * y%P)^Q%P=1:=by rw[<-ES,Nat.mul_pow,rT,x3,y3];rfl
 refine⟨?_,mr _ aK,hp⟩;rcases EN (x * y%P) with q|q
 ·rw[q] at hp;have:(0:Nat)^Q=0:=Nat.zero_pow aK;rw[this] at hp;cases hp
 ·exact q
def afq{x}(hx:elem x=ah)(n):elem (x^n%P)=ah:=by
 induction n with
 |zero=>exact yK|succ n ih=>
  have:=Ff ih hx
  rwa [Rf,<-Ad] at this
def alx{x}(hx:elem x=ah)(n):x^(n%Q)%P=x^n%P:=by obtain⟨-,-,h⟩:=elem_iff.1 hx;have e:n=Q * (n/Q)+n%Q:=(Re n Q).symm;rw[show x^n=x^(Q * (n/Q)+n%Q) by rw[<-e],aa5,ET,rT,ES (x^Q),h,aa3];simp
end Go.NT
end
section
namespace Go.NT
def Qi:Int:=1073741789
def fmod(n:Int):Int:=n%Qi
def cP(a b:Int):Int:=(fmod a+fmod b)%Qi
def b9(a b:Int):Int:=fmod a * fmod b%Qi
def dV(n:Int):Int:=((CN 31 Q (fmod n).toNat (Q - 2) 1:Nat):Int)
def okF(x:Int):Prop:=0<=x/\x<Qi
def Lw:(0:Int)<Qi:=by decide
def Ag:Qi=(Q:Int):=rfl
def CP(n):okF (fmod n):=⟨QR _ aK,QQ _ Lw⟩
def AH{x}(h:okF x):fmod x=x:=KS h.1 h.2
def w8(a b):cP a b=(a+b)%Qi:=by unfold cP fmod;rw[<-Z7]
def rh(a b):b9 a b=a * b%Qi:=by unfold b9 fmod;rw[<-zQ]
def Fg(a b):okF (cP a b):=⟨QR _ aK,QQ _ Lw⟩
def Fh(a b):okF (b9 a b):=⟨QR _ aK,QQ _ Lw⟩
def zx:okF 0:=by unfold okF;decide
def Tm{x}(h:okF x):cP x 0=x:=by rw[w8,Int.add_zero,<-fmod];exact AH h
def af8(n):b9 n 0=0:=by rw[rh,KV];rfl
def asJ(n):b9 0 n=0:=by rw[rh,HC];rfl
def jA(n x y:Int):Int:=cP x (-(b9 n y))
def Iw(n x y):jA n x y=(x - n * y)%Qi:=by unfold jA;rw[w8,rh,<-Int.sub_eq_add_neg,aai,Ca _ (B9 _),<-aai]
def af5(n x y):okF (jA n x y):=Fg _ _
def My{n x}(h:okF x):jA n x 0=x:=by unfold jA;rw[af8,aaf];exact Tm h
def af7{x y}(h:okF x):jA 0 x y=x:=by unfold jA;rw[asJ,aaf];exact Tm h
def af6(n y):jA (-n) 0 y=b9 y n:=by rw[Iw,rh,aae,Int.sub_neg,Ex,yo]
def afN{p h a}(hp:xL p)(hn:p=2 * h+1)(h0:0<a)(h1:a<p):a^(p - 1)%p=1:=by
 have hg:=TS hp hn (hp.coprime h0 h1);have mF:=hp.1;have h2:(p:Int)∣(a:Int)^(2 * h) - 1:=by
  obtain⟨c,hc⟩:=hg;have e:((-1:Int)^mu a p) * ((-1:Int)^mu a p)=1:=by rw[<-QY,(ag:mu a p+mu a p=2 * mu a p),Ew];simp[OV]
  have e2:(a:Int)^(2 * h)=(a:Int)^h * (a:Int)^h:=by rw[<-QY,(ag:2 * h=h+h)]
  refine⟨c * ((a:Int)^h+(-1)^mu a p),?_⟩;rw[<-wJ,<-hc,KX,KU,KU,e2,yo ((-1)^mu a p) ((a:Int)^h),e];omega
 rw[(ag:p - 1=2 * h)];have jW:0<a^(2 * h):=Lr h0;have NP:((a^(2 * h):Nat):Int)=(a:Int)^(2 * h):=by simp
 rw[<-NP] at h2;have hd:p∣a^(2 * h) - 1:=by
  have e:((a^(2 * h):Nat):Int) - 1=((a^(2 * h) - 1:Nat):Int):=by omega
  rw[e] at h2;exact QV.1 h2
 obtain⟨c,hc⟩:=hd;have:a^(2 * h)=p * c+1:=by omega
 rw[this,aaX,nb ag]
def Mp(n):okF (dV n):=by unfold dV okF;rw[Is aK aK aK];exact⟨ag,by rw[Ag];exact aag.2 (mr _ aK)⟩
def MA{x}(h:okF x)(h0:x≠0):b9 x (dV x)=1:=by
 obtain⟨n,rfl⟩:∃n:Nat,x=n:=⟨x.toNat,by have:=h.1;omega⟩;have hn:n<Q:=by have:=h.2;rw[Ag] at this;exact aag.1 this
 have hf:=afN (h:=536870894) abb aK (ag:0<n) hn;unfold dV;rw[AH h,dL,Is aK aK aK,Cl,rh,Ag,<-wK,<-QW,aa0,Lo,<-Ad,
  (aK:(Q - 2).succ=Q - 1),hf]
 rfl
def ai(l:List Int)(i:Nat):Int:=l.getD i 0
def iI(n:Int)(a b:List Int):List Int:=EJ (jA n) a b
def uc(c:Nat)(a own:List Int):List Int:=if ai a c=0 then a else a.take c++iI (ai a c) (a.drop c) (own.drop c)
def gX(c:Nat)(a:List Int)(n:Int):List Int:=a.take c++(a.drop c).map (b9 · n)
def scaleB(a:List Int)(n:Int):List Int:=iI (-n) (aY a.length 0) a
def nK(t:List (List Int))(r c:Nat):Option Nat:=(bO t.length).find? λk=>decide (r<=k)&& !(decide (ai (t.getD k []) c=0))
def wy(st:List (List Int) × List Nat)(c:Nat):List (List Int) × List Nat:=
 match nK st.1 st.2.length c with
 |none=>st
 |some k=>
  let own:=gX c (st.1.getD k []) (dV (ai (st.1.getD k []) c))
  let t1:=(st.1.set k (st.1.getD st.2.length [])).set st.2.length own
  (t1.mapIdx λi a=>if i=st.2.length then own else uc c a own,st.2++[c])
def mY(st:List (List Int) × List Nat)(c:Nat):List (List Int) × List Nat:=
 match nK st.1 st.2.length c with
 |none=>st
 |some k=>
  let own:=scaleB (st.1.getD k []) (dV (ai (st.1.getD k []) c))
  let t1:=st.1.set k (st.1.getD st.2.length [])
  ((t1.map λa=>iI (ai a c) a own).set st.2.length own,st.2++[c])
def DV(t:List (List Int))(many:Nat):List (List Int) × List Nat:=(bO many).foldl wy (t,[])
def iK(t:List (List Int))(many:Nat):List (List Int) × List Nat:=(bO many).foldl mY (t,[])
structure vd(w c:Nat)(st:List (List Int) × List Nat):Prop where
 len:∀a∈st.1,a.length=w
 ok:∀a∈st.1,∀x∈a,okF x
 zero:∀i a,st.2.length<=i->st.1[i]?=aa a->∀j,j<c->ai a j=0
def fI{l}{i}(h):ai l i=l[i]:=by unfold ai;rw[dP,aO h];rfl
def pk{l}(h:∀x∈l,okF x)(i):okF (ai l i):=by
 unfold ai;rw[dP];rcases dI i l.length with q|q
 ·rw[aO q];exact h _ (iD q)
 ·rw[sZ q];exact zx
def wc{a b}(hl:a.length=b.length)(h:∀i,i<a.length->ai a i=ai b i):a=b:=by apply HE hl;intro i h1 h2;rw[<-fI h1,<-fI h2];exact h i h1
def vi{n}{a b}(hl:a.length=b.length){i}(hi:i<a.length):ai (iI n a b) i=jA n (ai a i) (ai b i):=by
 unfold iI;have h1:i<(EJ (jA n) a b).length:=by rw[aaC];omega
 rw[fI h1,aaz,fI hi,fI ag]
def uD{n}{a b}(hl:a.length=b.length):(iI n a b).length=a.length:=by unfold iI;rw[aaC];omega
def Cw{a x}{c}(hc:c<=a.length)(i):ai (a.take c++x) i=if i<c then ai a i else ai x (i - c):=by
 unfold ai;simp only[dP];split
 ·rename_i h;rw[qM (by rw[eP];omega),nC,aF h]
 ·rename_i h;rw[yu (by rw[eP];omega),eP,Ck hc]
def HX(a)(c i):ai (a.drop c) i=ai a (c+i):=by unfold ai;simp only[dP,nZ]
def aef{c}{a own}(hl:a.length=own.length)(hc:c<a.length)(ha:∀x∈a,okF x)(hz:∀j,j<c->ai own j=0):uc c a own=iI (ai a c) a own:=by
 unfold uc;split
 ·rename_i h;rw[h];refine(wc (uD hl) λi hi=>?_).symm;rw[uD hl] at hi;rw[vi hl hi,af7 (pk ha i)]
 ·have hd:(a.drop c).length=(own.drop c).length:=by simp[hl]
  refine wc ?_ λi hi=>?_
  ·rw[dk,uD hd,uD hl,eP,gE];omega
  ·have ot:i<a.length:=(by rw[dk,uD hd,eP,gE] at hi;omega);rw[Cw ag,vi hl ot];split
   ·rename_i q;rw[hz i q,My (pk ha i)]
   ·rename_i q;rw[vi hd (by rw[gE];omega),HX,HX,(ag:c+(i - c)=i)]
def Kk{c}{a}{n}(hc:c<=a.length)(hz:∀j,j<c->ai a j=0):gX c a n=scaleB a n:=by
 unfold gX scaleB;have hr:(aY a.length (0:Int)).length=a.length:=by simp
 refine wc ?_ λi hi=>?_
 ·rw[uD hr,dk,bu,eP,gE,hr];omega
 ·have ot:i<a.length:=by rw[dk,bu,eP,gE] at hi;omega
  have h0:ai (aY a.length (0:Int)) i=0:=by rw[fI (by simpa using ot)];simp
  rw[Cw hc,vi hr (by rw[hr];exact ot),h0,af6];split
  ·rename_i q;rw[hz i q,rh,HC];rfl
  ·rename_i q;have hm:i - c<((a.drop c).map (b9 · n)).length:=(by rw[bu,gE];omega);rw[fI hm,qa,Q9,<-fI (ag:c+(i - c)<a.length),(ag:c+(i - c)=i)]
end Go.NT
end
section
namespace Go.NT
def AB{t}{r c k}(h:nK t r c=aa k):k<t.length/\r<=k/\ai (t.getD k []) c≠0:=by unfold nK at h;have h1:=List.find?_some h;have h2:=List.mem_of_find?_eq_some h;rw[fY] at h2;simp only[bC,decide_eq_true_eq,yk,decide_eq_false_iff_not] at h1;exact⟨h2,h1⟩
def Tq{t}{r c}(h:nK t r c=aq){k}(hk:k<t.length)(hr:r<=k):ai (t.getD k []) c=0:=by unfold nK at h;rw[List.find?_eq_none] at h;have:=h k (fY.2 hk);simp only[bC,decide_eq_true_eq,yk,decide_eq_false_iff_not,not_and,Hz] at this;exact this hr
def jV{t:List (List Int)}{k}(hk):t.getD k []=t[k]:=by rw[dP,aO hk];rfl
section
variable {w c:Nat} {st:List (List Int) × List Nat}
structure Own(w c:Nat)(own:List Int):Prop where
 len:own.length=w
 ok:∀x∈own,okF x
 zero:∀j,j<c->ai own j=0
 one:ai own c=1
def JE{a:List Int}(hl:a.length=w)(hc:c<w)(ha:∀x∈a,okF x)(hz:∀j,j<c->ai a j=0)(h0:ai a c≠0):Own w c (gX c a (dV (ai a c))):=by
 refine⟨?_,?_,?_,?_⟩
 ·unfold gX;rw[dk,bu,eP,gE];omega
 ·intro x hx;unfold gX at hx;rcases List.mem_append.1 hx with q|q
  ·exact ha x (oa q)
  ·obtain⟨y,-,rfl⟩:=jo.1 q;exact Fh _ _
 ·intro j hj;unfold gX;rw[Cw ag,aF hj];exact hz j hj
 ·unfold gX;rw[Cw ag,aG ag];have hm:c - c<((a.drop c).map (b9 · (dV (ai a c)))).length:=by rw[bu,gE];omega
  rw[fI hm,qa,Q9];have e:a[c+(c - c)]' ag=ai a c:=by rw[fI ag];congr 1;omega
  rw[e];exact MA (pk ha c) h0
def Y1(R:vd w c st)(hc:c<w):wy st c=mY st c:=by
 unfold wy mY;cases hf:nK st.1 st.2.length c with
 |none=>rfl|some k=>
  obtain⟨k1,k2,k3⟩:=AB hf;rw[jV k1] at k3;have hk:=R.len _ (iD k1);have ze:=R.ok _ (iD k1);have uu:=R.zero k _ k2 (aO k1);simp only[jV k1];have O:=JE hk hc ze uu k3;rw[<-Kk ag uu];generalize gX c st.1[k] (dV (ai st.1[k] c))=own at *
  congr 1;apply HE
  ·simp
  ·intro i h1 h2;rw[List.getElem_mapIdx];by_cases hi:i=st.2.length
   ·rw[aF hi];subst hi;rw[K7]
   ·rw[aG hi,K6 (λq=>hi q.symm),K6 (λq=>hi q.symm),qa];have aA:i<st.1.length:=(by simpa using h1);have hm:(st.1.set k (st.1.getD st.2.length []))[i]'(by simpa using aA)∈st.1:=by
     rw[EE];split
     ·rw[jV ag];exact iD _
     ·exact iD _
    exact aef ((R.len _ hm).trans O.len.symm) (by rw[R.len _ hm];exact hc) (R.ok _ hm) O.zero
def Kr(R:vd w c st)(hc:c<w):vd w (c+1) (mY st c):=by
 unfold mY;cases hf:nK st.1 st.2.length c with
 |none=>
  refine⟨R.len,R.ok,λi a hi ha j hj=>?_⟩;rcases dI j c with q|q
  ·exact R.zero i a hi ha j q
  ·have:j=c:=(by omega);subst this;have aA:=(aP.1 ha).1;have:=Tq hf aA hi;rw[jV aA] at this;rw[<-(aP.1 ha).2];exact this
 |some k=>
  obtain⟨k1,k2,k3⟩:=AB hf;rw[jV k1] at k3;have hk:=R.len _ (iD k1);have ze:=R.ok _ (iD k1);have uu:=R.zero k _ k2 (aO k1);simp only[jV k1];have O:=JE hk hc ze uu k3;rw[<-Kk ag uu];generalize gX c st.1[k] (dV (ai st.1[k] c))=own at *
  have cO:st.2.length<st.1.length:=by omega
  have oP:∀a∈st.1.set k (st.1.getD st.2.length []),a∈st.1:=λa ha=>by
   rcases u0 ha with q|q
   ·exact q
   ·rw[q,jV cO];exact iD _
  refine⟨λa ha=>?_,λa ha=>?_,λi a hi ha j hj=>?_⟩
  ·rcases u0 ha with q|q
   ·obtain⟨b,hb,rfl⟩:=jo.1 q;have:=R.len _ (oP b hb);rw[uD (this.trans O.len.symm)];exact this
   ·rw[q];exact O.len
  ·rcases u0 ha with q|q
   ·obtain⟨b,hb,rfl⟩:=jo.1 q;intro x hx;unfold iI at hx;obtain⟨i,h1,rfl⟩:=zV.1 hx;rw[aaz];exact af5 _ _ _
   ·rw[q];exact O.ok
  ·simp only[dk,aaB] at hi;have bH:st.2.length≠i:=(by omega);rw[HG bH,dW] at ha;have aA:i<st.1.length:=by
    rcases dI i st.1.length with q|q
    ·exact q
    ·rw[sZ (by simpa using q)] at ha;cases ha
   rw[aO (by simpa using aA),eJ,dA] at ha;have hb:∃b,(st.1.set k (st.1.getD st.2.length []))[i]'(by simpa using aA)=b/\b.length=w/\(∀x∈b,okF x)/\∀j,j<c->ai b j=0:=by
    refine⟨_,rfl,R.len _ (oP _ (iD _)),R.ok _ (oP _ (iD _)),λj hj=>?_⟩;rw[EE];split
    ·rw[jV cO];exact R.zero st.2.length _ (aJ _) (aO cO) j hj
    ·exact R.zero i _ ag (aO aA) j hj
   obtain⟨b,e,b1,b2,b3⟩:=hb;rw[e] at ha;subst ha;rw[vi (b1.trans O.len.symm) ag];rcases dI j c with q|q
   ·rw[b3 j q,O.zero j q,My zx]
   ·have:j=c:=(by omega);subst this;rw[O.one,Iw,HA,QZ];rfl
end
def amf{t}{w many}(hl:∀a∈t,a.length=w)(ho:∀a∈t,∀x∈a,okF x)(hm:many<=w):DV t many=iK t many:=by
 unfold DV iK;have key:∀n,n<=w->(bO n).foldl wy (t,[])=(bO n).foldl mY (t,[])/\vd w n ((bO n).foldl mY (t,[])):=by
  intro n
  induction n with
  |zero=>intro _;exact⟨rfl,hl,ho,λ_ _ _ _ j hj=>by omega⟩|succ n ih=>intro hn;obtain⟨h1,h2⟩:=ih ag;rw[ob,nY,nY,h1];simp only[wN,EB];exact⟨Y1 h2 ag,Kr h2 ag⟩
 exact(key many hm).1
end Go.NT
end
section
namespace Go.NT
def cz:List Int->Int
 | []=>0
 |x::l=>x+cz l
def aq9(l m):cz (l++m)=cz l+cz m:=by
 induction l with
 |nil=>simp[cz]|cons x l ih=>simp only[kj,cz,ih];omega
def dot(y row:List Int):Int:=cz ((bO y.length).map λi=>ai y i * ai row i)
def res(y row:List Int):Int:=dot y row - ai row y.length
def Sat(y row:List Int):Prop:=Qi∣res y row
def ari{f g q}{n}:∀{l:List Nat},(∀i∈l,Qi∣f i - (g i - n * q i))->Qi∣cz (l.map f) - (cz (l.map g) - n * cz (l.map q)):=by
 intro l
 induction l with
 |nil=>intro _;simp[cz]|cons x l ih=>
  intro h;have h1:=h x fR;have h2:=ih λi hi=>h i (fi _ hi);simp only[eo,cz,KU];have e:f x+cz (l.map f) - (g x+cz (l.map g) - (n * q x+n * cz (l.map q)))=(f x - (g x - n * q x))+(cz (l.map f) - (cz (l.map g) - n * cz (l.map q))):=by omega
  rw[e];exact wI h1 h2
def TD(n x y):Qi∣jA n x y - (x - n * y):=by rw[Iw];have:=Z9 (x - n * y) Qi;refine⟨-((x - n * y)/Qi),?_⟩;rw[Int.mul_neg];omega
def XH{n}{y a b}(hl:a.length=b.length)(hy:y.length<a.length):Qi∣res y (iI n a b) - (res y a - n * res y b):=by
 have h1:Qi∣dot y (iI n a b) - (dot y a - n * dot y b):=by
  unfold dot;refine ari λi hi=>?_;have hi:=fY.1 hi;rw[vi hl ag];obtain⟨c,hc⟩:=TD n (ai a i) (ai b i);refine⟨ai y i * c,?_⟩;have:ai y i * jA n (ai a i) (ai b i) - (ai y i * ai a i - n * (ai y i * ai b i))=ai y i * (jA n (ai a i) (ai b i) - (ai a i - n * ai b i)):=by rw[yp,yp,Cb n]
  rw[this,hc,Cb]
 have h2:Qi∣ai (iI n a b) y.length - (ai a y.length - n * ai b y.length):=by rw[vi hl hy];exact TD _ _ _
 unfold res;have e:dot y (iI n a b) - ai (iI n a b) y.length - (dot y a - ai a y.length - n * (dot y b - ai b y.length))=(dot y (iI n a b) - (dot y a - n * dot y b)) - (ai (iI n a b) y.length - (ai a y.length - n * ai b y.length)):=by rw[yp];omega
 rw[e];exact QP h1 h2
def apC{n}{y a b}(hl:a.length=b.length)(hy:y.length<a.length)(h1:Sat y (iI n a b))(h2:Sat y b):Sat y a:=by
 unfold Sat at *
 have h3:=XH (n:=n) hl hy;have e:res y a=res y (iI n a b) - (res y (iI n a b) - (res y a - n * res y b))+n * res y b:=by omega
 rw[e];exact wI (QP h1 h3) (Et h2)
def ams(y)(n):res y (aY n 0)=0:=by
 have hz:∀i,ai (aY n (0:Int)) i=0:=λi=>by unfold ai;rw[dP,K4];split<;>rfl
 unfold res dot;simp only[hz,KV];generalize bO y.length=l
 induction l with
 |nil=>rfl|cons x l ih=>simp only[eo,cz];omega
def apD{y a}{x}(hy:y.length<a.length)(hx:okF x)(h0:x≠0)(h:Sat y (scaleB a (dV x))):Sat y a:=by
 unfold Sat scaleB at *
 have h1:=XH (n:= -(dV x)) (y:=y) (a:=aY a.length (0:Int)) (b:=a) bh (by simpa using hy);rw[ams] at h1;have h2:Qi∣dV x * res y a:=by
  have e:dV x * res y a=res y (iI (-(dV x)) (aY a.length 0) a) - (res y (iI (-(dV x)) (aY a.length 0) a) - (0 - -(dV x) * res y a)):=by rw[aae];omega
  rw[e];exact QP h h1
 have h3:Qi∣x * dV x - 1:=by have:=MA hx h0;rw[rh] at this;have h4:=Z9 (x * dV x) Qi;rw[this] at h4;exact⟨x * dV x/Qi,by omega⟩
 obtain⟨c,hc⟩:=h2;obtain⟨d,hd⟩:=h3;refine⟨x * c - d * res y a,?_⟩;have e1:x * (dV x * res y a)=x * (Qi * c):=by rw[hc]
 have e2:(x * dV x - 1) * res y a=Qi * d * res y a:=by rw[hd]
 rw[<-wJ] at e1;rw[KX,Ev,e1] at e2;rw[yp,<-wJ Qi d,Cb Qi x];omega
section
variable {w c:Nat} {st:List (List Int) × List Nat}
def aqW{y:List Int}(R:vd w c st)(hc:c<w)(hy:y.length<w)(h:∀a∈(mY st c).1,Sat y a):∀a∈st.1,Sat y a:=by
 unfold mY at h;cases hf:nK st.1 st.2.length c with
 |none=>rw[hf] at h;exact h|some k=>
  rw[hf] at h;obtain⟨k1,k2,k3⟩:=AB hf;rw[jV k1] at k3;simp only[jV k1] at h;have hk:=R.len _ (iD k1);have ze:=R.ok _ (iD k1);have uu:=R.zero k _ k2 (aO k1);have O:=JE hk hc ze uu k3;have cO:st.2.length<st.1.length:=by omega
  have tB:=Kk (n:=dV (ai st.1[k] c)) (ag:c<=st.1[k].length) uu;rw[jV cO] at h;have ho:Sat y (scaleB st.1[k] (dV (ai st.1[k] c))):=h _ (zV.2 ⟨st.2.length,by simpa using cO,by rw[K7]⟩);have mS:∀i (hi:i<st.1.length),i≠st.2.length->Sat y ((st.1.set k st.1[st.2.length])[i]'(by simpa using hi)):=λi hi bH=>by
   have hm:=h ((((st.1.set k st.1[st.2.length]).map λa=>iI (ai a c) a (scaleB st.1[k] (dV (ai st.1[k] c)))).set st.2.length (scaleB st.1[k] (dV (ai st.1[k] c))))[i]'(by simpa using hi)) (iD _);rw[K6 (λq=>bH q.symm),qa] at hm;have mE:((st.1.set k st.1[st.2.length])[i]'(by simpa using hi)).length=w:=by
    rw[EE];split
    ·exact R.len _ (iD _)
    ·exact R.len _ (iD _)
   refine apC ?_ (by rw[mE];exact hy) hm ho;rw[mE,<-tB,O.len]
  intro a ha;obtain⟨i,hi,rfl⟩:=zV.1 ha;by_cases e1:i=k
  ·subst e1;exact apD ag (pk ze c) k3 ho
  ·by_cases e2:i=st.2.length
   ·subst e2;have:=mS k k1 (λq=>e1 q.symm);rw[K7] at this;exact this
   ·have:=mS i hi e2;rw[K6 (λq=>e1 q.symm)] at this;exact this
end
end Go.NT
end
section
namespace Go.NT
structure Cn(c:Nat)(st:List (List Int) × List Nat):Prop where
 lt:∀k p:Nat,st.2[k]?=aa p->p<c
 inc:∀j k p q:Nat,j<k->st.2[j]?=aa p->st.2[k]?=aa q->p<q
 val:∀k p:Nat,st.2[k]?=aa p->∀(i:Nat) (a:List Int),st.1[i]?=aa a->ai a p=if i=k then 1 else 0
 len:st.2.length<=st.1.length
section
variable {w c:Nat} {st:List (List Int) × List Nat}
def aqS(R:vd w c st)(V:Cn c st)(hc:c<w):Cn (c+1) (mY st c):=by
 unfold mY;cases hf:nK st.1 st.2.length c with
 |none=>exact⟨λk p h=>by have:=V.lt k p h;omega,V.inc,V.val,V.len⟩
 |some k=>
  obtain⟨k1,k2,k3⟩:=AB hf;rw[jV k1] at k3;have hk:=R.len _ (iD k1);have ze:=R.ok _ (iD k1);have uu:=R.zero k _ k2 (aO k1);simp only[jV k1];have O:=JE hk hc ze uu k3;have cO:st.2.length<st.1.length:=by omega
  rw[<-Kk ag uu,jV cO];generalize gX c st.1[k] (dV (ai st.1[k] c))=own at *
  refine⟨λj p h=>?_,λj l p q ou hp hq=>?_,λj p hp i a ha=>?_,?_⟩
  ·rcases AK h with h|⟨-,rfl⟩
   ·have:=V.lt j p h;omega
   ·omega
  ·rcases AK hq with hq|⟨rfl,rfl⟩
   ·rcases AK hp with hp|⟨rfl,-⟩
    ·exact V.inc j l p q ou hp hq
    ·have:=(aP.1 hq).1;omega
   ·rcases AK hp with hp|⟨rfl,-⟩
    ·exact V.lt j p hp
    ·omega
  ·-- the row at i
   have cH:i<st.1.length:=(by have:=(aP.1 ha).1;simpa using this);by_cases hi:i=st.2.length
   ·subst hi;rw[aO (by simpa using cO),K7,dA] at ha;subst ha;rcases AK hp with hp|⟨rfl,rfl⟩
    ·have h1:=V.lt j p hp;have h2:=(aP.1 hp).1;rw[O.zero p h1,aG ag]
    ·rw[O.one,aF rfl]
   ·rw[HG (λq=>hi q.symm),dW,aO (by simpa using cH),eJ,dA] at ha;have hb:∃b,(st.1.set k st.1[st.2.length])[i]'(by simpa using cH)=b/\b.length=w/\(∀x∈b,okF x)/\∀j p,st.2[j]?=aa p->ai b p=if i=j then 1 else 0:=by
     refine⟨_,rfl,?_,?_,λj p hp=>?_⟩
     ·rw[EE];split<;>exact R.len _ (iD _)
     ·rw[EE];split<;>exact R.ok _ (iD _)
     ·rw[EE];have ou:=(aP.1 hp).1;split
      ·rename_i e;rw[V.val j p hp st.2.length _ (aO cO),aG ag,aG ag]
      ·exact V.val j p hp i _ (aO cH)
    obtain⟨b,e,b1,b2,b3⟩:=hb;rw[e] at ha;subst ha;have hpw:p<w:=by
     rcases AK hp with h|⟨-,rfl⟩
     ·have:=V.lt j p h;omega
     ·exact hc
    rw[vi (b1.trans O.len.symm) ag];rcases AK hp with hp|⟨rfl,rfl⟩
    ·rw[O.zero p (V.lt j p hp),My (pk b2 p)];exact b3 j p hp
    ·rw[O.one,Iw,HA,QZ,aG hi];rfl
  ·simp only[dk,aaB,mn,bu];omega
where
 AK {l:List Nat} {x i y:Nat} (h:(l++[x])[i]?=aa y):l[i]?=aa y∨(i=l.length/\y=x):=by
  rcases Nat.lt_trichotomy i l.length with aA|lI|FE
  ·rw[qM aA] at h;exact .inl h
  ·subst lI;simp at h;exact .inr ⟨rfl,h.symm⟩
  ·rw[sZ (by simp;omega)] at h;cases h
end
def Gy{t}{w many}(hl:∀a∈t,a.length=w)(ho:∀a∈t,∀x∈a,okF x)(hm:many<=w):vd w many (iK t many)/\Cn many (iK t many):=by
 unfold iK
 induction many with
 |zero=>exact⟨⟨hl,ho,λ_ _ _ _ j hj=>by omega⟩,⟨λk p h=>by simp at h,λj k p q _ h=>by simp at h,λk p h=>by simp at h,cr _⟩⟩|succ n ih=>obtain⟨h1,h2⟩:=ih ag;rw[ob,nY];simp only[wN,EB];exact⟨Kr h1 ag,aqS h1 h2 ag⟩
def amg{t}{w many}{y}(hl:∀a∈t,a.length=w)(ho:∀a∈t,∀x∈a,okF x)(hm:many<=w)(hy:y.length<w)(h:∀a∈(iK t many).1,Sat y a):∀a∈t,Sat y a:=by
 induction many with
 |zero=>exact h|succ n ih=>
  refine ih ag ?_;have h1:=(Gy hl ho (ag:n<=w)).1;have e:iK t (n+1)=mY (iK t n) n:=by unfold iK;rw[ob,nY];rfl
  rw[e] at h;exact aqW h1 ag hy h
def oC(st:List (List Int) × List Nat)(n:Nat):List Int:=st.2.zipIdx.foldl (λy p=>y.set p.1 (ai (st.1.getD p.2 []) n)) (aY n 0)
def HY{l}{i j}{x}(hi:i<l.length):ai (l.set i x) j=if j=i then x else ai l j:=by
 unfold ai;simp only[dP,lR];by_cases h:i=j
 ·subst h;simp[hi]
 ·rw[aG h,aG (λq=>h q.symm)]
def Fi(f:Nat × Nat->Int):∀(l:List (Nat × Nat)) (y:List Int),(l.foldl (λy p=>y.set p.1 (f p)) y).length=y.length:=by
 intro l
 induction l with
 |nil=>intro y;rfl|cons p l ih=>intro y;rw[wN,ih];simp
def Iy(f:Nat × Nat->Int){i}:∀(l:List (Nat × Nat)) (y:List Int),(∀p∈l,p.1≠i)->ai (l.foldl (λy p=>y.set p.1 (f p)) y) i=ai y i:=by
 intro l
 induction l with
 |nil=>intro y _;rfl|cons p l ih=>intro y h;rw[wN,ih _ λq hq=>h q (fi _ hq)];have:=h p fR;unfold ai;simp only[dP];rw[HG this]
def Km(st)(n):(oC st n).length=n:=by unfold oC;rw[Fi (λp=>ai (st.1.getD p.2 []) n)];simp
def aqk{st}{n i}(h:i∉st.2):ai (oC st n) i=0:=by
 unfold oC;rw[Iy (λp=>ai (st.1.getD p.2 []) n) _ _ λp hp q=>?_]
 ·unfold ai;rw[dP,K4];split<;>rfl
 ·have:=List.fst_mem_of_mem_zipIdx hp;rw[q] at this;exact h this
def aqm{c}{st}{n k p}(V:Cn c st)(hn:c<=n)(h:st.2[k]?=aa p):ai (oC st n) p=ai (st.1.getD k []) n:=by
 unfold oC;obtain⟨hk,hp⟩:=aP.1 h;have hz:st.2.zipIdx=(st.2.zipIdx.take k)++(p,k)::(st.2.zipIdx.drop (k+1)):=by
  have C9:k<st.2.zipIdx.length:=by simpa using hk
  have:=(wP k st.2.zipIdx).symm;rw[zR C9] at this;rw[aay,hp] at this;simpa using this
 rw[hz,nY,wN,Iy (λp=>ai (st.1.getD p.2 []) n) _ _ λq hq e=>?_]
 ·rw[HY,aF rfl];rw[Fi (λp=>ai (st.1.getD p.2 []) n)];have:=V.lt k p h;simp;omega
 ·obtain⟨i,hi,rfl⟩:=zV.1 hq;rw[Q9,aay] at e;simp only at e;have cH:k+1+i<st.2.length:=by simp at hi;omega
  have:=V.inc k (k+1+i) p _ ag h (aO cH);omega
def Zk{f}{p}:∀n,p<n->(∀i,i<n->i≠p->f i=0)->cz ((List.range n).map f)=f p:=by
 intro n
 induction n with
 |zero=>intro h;omega|succ n ih=>
  intro hp h;rw[ob,lU,aq9];simp only[eo,tR,cz];rcases dI p n with q|q
  ·rw[ih q λi hi=>h i ag,h n ag ag];omega
  ·have:p=n:=(by omega);subst this;have hz:cz ((bO p).map f)=0:=by
    have:∀l:List Nat,(∀i∈l,f i=0)->cz (l.map f)=0:=by
     intro l
     induction l with
     |nil=>intro _;rfl|cons x l ih2=>intro hl;simp only[eo,cz];rw[hl x fR,ih2 λi hi=>hl i (fi _ hi)];rfl
    exact this _ λi hi=>h i (by have:=fY.1 hi;omega) (by have:=fY.1 hi;omega)
   rw[hz];omega
def aql{t}{n}(hl:∀a∈t,a.length=n+1)(ho:∀a∈t,∀x∈a,okF x)(Nq:∀i a,(iK t n).2.length<=i->(iK t n).1[i]?=aa a->ai a n=0):
 ∀a∈t,Sat (oC (iK t n) n) a:=by
 obtain⟨R,V⟩:=Gy hl ho (ag:n<=n+1);refine amg hl ho (ag:n<=n+1) (by rw[Km];omega) λa ha=>?_;obtain⟨k,hk,rfl⟩:=zV.1 ha;have A4:=aO hk;unfold Sat res dot;rw[Km];rcases dI k (iK t n).2.length with q|q
 ·have hp:=aO q;have aA:=V.lt k _ hp;rw[Zk (p:=(iK t n).2[k]) n aA,aqm V (aJ _) hp,V.val k _ hp k _ A4,aF rfl,jV hk,HA,QZ]
  ·exact Z8 _
  ·intro i hi bH;by_cases hm:i∈(iK t n).2
   ·obtain⟨j,hj,rfl⟩:=zV.1 hm;rw[V.val j _ (aO hj) k _ A4,aG (λe=>bH (by subst e;rfl)),KV]
   ·rw[aqk hm,HC]
 ·rw[Nq k _ q A4];have hz:∀l:List Nat,(∀i∈l,i<n)->cz (l.map λi=>ai (oC (iK t n) n) i * ai (iK t n).1[k] i)=0:=by
   intro l
   induction l with
   |nil=>intro _;rfl|cons x l ih=>intro h;simp only[eo,cz];rw[R.zero k _ q A4 x (h x fR),KV,ih λi hi=>h i (fi _ hi)];rfl
  rw[hz _ λi hi=>fY.1 hi];exact Z8 _
end Go.NT
end
section
namespace Go.NT
abbrev ez:=BitVec 32
def dz(x:ez)(n:Nat):ez:=(x>>>n)|||(x<<<(32 - n))
def Dz:List Nat:=[
 0x428a2f98,0x71374491,0xb5c0fbcf,0xe9b5dba5,0x3956c25b,0x59f111f1,0x923f82a4,0xab1c5ed5,
 0xd807aa98,0x12835b01,0x243185be,0x550c7dc3,0x72be5d74,0x80deb1fe,0x9bdc06a7,0xc19bf174,
 0xe49b69c1,0xefbe4786,0x0fc19dc6,0x240ca1cc,0x2de92c6f,0x4a7484aa,0x5cb0a9dc,0x76f988da,
 0x983e5152,0xa831c66d,0xb00327c8,0xbf597fc7,0xc6e00bf3,0xd5a79147,0x06ca6351,0x14292967,
 0x27b70a85,0x2e1b2138,0x4d2c6dfc,0x53380d13,0x650a7354,0x766a0abb,0x81c2c92e,0x92722c85,
 0xa2bfe8a1,0xa81a664b,0xc24b8b70,0xc76c51a3,0xd192e819,0xd6990624,0xf40e3585,0x106aa070,
 0x19a4c116,0x1e376c08,0x2748774c,0x34b0bcb5,0x391c0cb3,0x4ed8aa4a,0x5b9cca4f,0x682e6ff3,
 0x748f82ee,0x78a5636f,0x84c87814,0x8cc70208,0x90befffa,0xa4506ceb,0xbef9a3f7,0xc67178f2]
def xP(t:Nat):ez:=BitVec.ofNat 32 (Dz.getD t 0)
def start:List ez:=[0x6a09e667#32,0xbb67ae85#32,0x3c6ef372#32,0xa54ff53a#32,0x510e527f#32,0x9b05688c#32,0x1f83d9ab#32,0x5be0cd19#32]
def di(b:List UInt8)(i:Nat):UInt8:=b.getD i 0
def cQ(w:List ez)(i:Nat):ez:=w.getD i 0#32
def o6(b:List UInt8)(i:Nat):ez:=BitVec.ofNat 32 (((di b i).toNat * 256+(di b (i+1)).toNat) * 256 * 256+(di b (i+2)).toNat * 256+(di b (i+3)).toNat)
def DJ(w:List ez)(t:Nat):ez:=
 cQ w (t - 16)+(dz (cQ w (t - 15)) 7^^^dz (cQ w (t - 15)) 18^^^(cQ w (t - 15))>>>3)+cQ w (t - 7)+(dz (cQ w (t - 2)) 17^^^dz (cQ w (t - 2)) 19^^^(cQ w (t - 2))>>>10)
def gY(b:List UInt8):Nat->List ez
 |0=>[]
 |n+1=>gY b n++[if n<16 then o6 b (4 * n) else DJ (gY b n) n]
def GC(w:List ez)(v:List ez)(t:Nat):List ez:=
 let e:=cQ v 4
 let a:=cQ v 0
 let p:=cQ v 7+(dz e 6^^^dz e 11^^^dz e 25)+((e&&&cQ v 5)^^^(~~~e&&&cQ v 6))+xP t+cQ w t
 let q:=(dz a 2^^^dz a 13^^^dz a 22)+((a&&&cQ v 1)^^^(a&&&cQ v 2)^^^(cQ v 1&&&cQ v 2))
 [p+q,a,cQ v 1,cQ v 2,cQ v 3+p,e,cQ v 5,cQ v 6]
def vj(s:List ez)(b:List UInt8):List ez:=
 let w:=gY b 64
 let v:=(bO 64).foldl (GC w) s
 EJ (·+·) s v
def nW(n:Nat):Nat:=(119 - n%64)%64
def nR(n:Nat):List UInt8:=(bO 8).map λi=>UInt8.ofNat (n * 8/2^(8 * (7 - i)))
def pU(b:List UInt8):List UInt8:=b++0x80::aY (nW b.length) 0++nR b.length
def gh:Nat->List ez->List UInt8->List ez
 |0,s,_=>s
 |n+1,s,b=>gh n (vj s (b.take 64)) (b.drop 64)
def jm(s:List ez):List UInt8:=s.flatMap λx=>[UInt8.ofNat (x.toNat/16777216),UInt8.ofNat (x.toNat/65536),UInt8.ofNat (x.toNat/256),UInt8.ofNat x.toNat]
def eI(b:List UInt8):List UInt8:=jm (gh ((pU b).length/64) start (pU b))
def fQ(aZ b:List UInt8):List UInt8:=eI (eI aZ++b)
def ad5(e f g:ez):g^^^(e&&&(f^^^g))=(e&&&f)^^^(~~~e&&&g):=by apply BitVec.eq_of_getLsbD_eq;intro i hi;simp only[BitVec.getLsbD_xor,BitVec.getLsbD_and,BitVec.getLsbD_not,hi,decide_true,rP];cases e.getLsbD i<;>cases f.getLsbD i<;>cases g.getLsbD i<;>rfl
def ajC(a b c:ez):(a&&&b)|||(c&&&(a|||b))=(a&&&b)^^^(a&&&c)^^^(b&&&c):=by apply BitVec.eq_of_getLsbD_eq;intro i hi;simp only[BitVec.getLsbD_xor,BitVec.getLsbD_and,BitVec.getLsbD_or];cases a.getLsbD i<;>cases b.getLsbD i<;>cases c.getLsbD i<;>rfl
end Go.NT
end
section
namespace Go.NT
inductive Vl where
 |int (n:Int)
 |text (s:List UInt8)
 |list (l:List Vl)
def fg:Nat->Nat->List UInt8
 |0,u=>[UInt8.ofNat u]
 |k+1,u=>if u<128 then [UInt8.ofNat u] else UInt8.ofNat (u%128+128)::fg k (u/128)
def j9(n:Int):Nat:=if 0<=n then 2 * n.toNat else 2 * (-(n+1)).toNat+1
mutual
def dt:Vl->List UInt8
 | .int n=>1::fg 9 (j9 n)
 | .text s=>2::(fg 9 s.length++s)
 | .list l=>3::(fg 9 l.length++iE l)
def iE:List Vl->List UInt8
 | []=>[]
 |v::l=>dt v++iE l
end
mutual
def fT:Vl->Nat
 | .list l=>gF l+1
 |_=>0
def gF:List Vl->Nat
 | []=>0
 |v::l=>max (fT v) (gF l)
end
def Te(l m):iE (l++m)=iE l++iE m:=by
 induction l with
 |nil=>simp[iE]|cons v l ih=>simp only[kj,iE,ih,rR]
def WC{k u}(h:128<=u):fg (k+1) u=UInt8.ofNat (u%128+128)::fg k (u/128):=by rw[fg,aG ag]
def WB{k u}(h:u<128):fg k u=[UInt8.ofNat u]:=by
 cases k with|zero=>rfl|succ k=>rw[fg,aF h]
end Go.NT
end
section
namespace Go.NT
def da(n:Int):Bool:=decide (0<=n)&&decide (n<Qi)
def cR(ae:List (List Int))(owners:List Int):Int:=
 if decide (64<ae.length)||ae.any (λr=>decide (64<r.length)) then 2
 else if ae.length≠owners.length then 230
 else if (bO ae.length).all λi=> !(ae.getD i []).isEmpty&&decide ((ae.getD i []).length=(ae.getD 0 []).length)&&(decide (0<=ai owners i)&&decide (ai owners i<=63))&&(ae.getD i []).all da then 0
 else 230
def bU(ae:List (List Int)):Nat:=if ae.length=0 then 1 else (ae.getD 0 []).length
def ft(n:Nat):List Int:=1::aY (n - 1) 0
def fW:Int->List Int->Bool
 |_,[]=>ah
 |cE,n::l=>decide (cE<n)&&decide (n<=63)&&fW n l
def dS(owners aw:List Int):List Nat:=(bO owners.length).filter λi=>aw.contains (ai owners i)
def fw(ae:List (List Int))(target:List Int):List (List Int):=(bO target.length).map λk=>ae.map (λr=>ai r k)++[ai target k]
def oN(ae:List (List Int))(target:List Int):Option (List Int):=
 let st:=iK (fw ae target) ae.length
 if (st.1.drop st.2.length).all (λa=>decide (ai a ae.length=0)) then aa (oC st ae.length) else aq
def qG(n:Nat)(at_:List Nat)(l:List Int):List Int:=at_.zipIdx.foldl (λy p=>y.set p.1 (ai l p.2)) (aY n 0)
def fZ(ae:List (List Int))(owners aw:List Int):List Int × Bool × Int:=
 if cR ae owners≠0 then ([],av,cR ae owners)
 else if !fW (-1) aw then ([],av,1)
 else match oN ((dS owners aw).map λi=>ae.getD i []) (ft (bU ae)) with
  |none=>([],av,0)
  |some l=>(qG ae.length (dS owners aw) l,ah,0)
structure Pr where
 az:Int
 no:Int
 d:Int
 e:Int
def bE(x:Int):Bool:=decide (1<=x)&&elem x.toNat
def Pr.val(p:Pr):Vl:=.list [.int p.az,.int p.no,.int p.d,.int p.e]
def sP(l:List Pr):Vl:=.list (l.map Pr.val)
def mb(b:List UInt8):Nat:=((b.take 8).foldl (λn c=>n * 256+c.toNat) 0%9223372036854775808)%Q
def si(aZ:List UInt8)(v:Vl):Nat:=mb (fQ aZ (dt v))
def BD:List UInt8:=[98,105,110,100]
def wk:List UInt8:=[115,105,103,110]
def eC(c0:Int)(text:List UInt8)(l:List Pr)(az:Int):Nat:=si BD (.list [.int c0,.text text,sP l,.int az])
def jC(c0:Int)(text:List UInt8)(l:List Pr)(p:Pr):Nat:=p.d.toNat * rK p.e.toNat (eC c0 text l p.az)%P
def fN(c0:Int)(text:List UInt8)(l:List Pr):Nat:=l.foldl (λx p=>x * jC c0 text l p%P) 1
def sS(point key:Int)(text:List UInt8):Nat:=si wk (.list [.int point,.int key,.text text])
def fm:Int->List Pr->Bool
 |_,[]=>ah
 |cE,x::l=>decide (cE<x.az)&&decide (x.az<64)&&decide (0<=x.no)&&decide (x.no<4096)&&bE x.d&&bE x.e&&fm x.az l
def du(ae:List (List Int))(owners:List Int)(epoch:Int)(ao:List Int)(text:List UInt8)(l:List Pr):Int:=
 if cR ae owners≠0 then cR ae owners
 else if !(decide (0<=epoch)&&decide (epoch<=64)&&decide (ao.length=bU ae)&&ao.all bE) then 380
 else if 65536<text.length then 2
 else if 64<l.length then 420
 else if !fm (-1) l then 420
 else match fZ ae owners (l.map Pr.az) with
  |(_,ok,e)=>if e≠0∨ok=av∨l.length=0 then 420 else 0
end Go.NT
end
section
namespace Go.NT
def bD(x:Nat)(n:Int):Nat:=rK x (fmod n).toNat
def Mz(n):(fmod n).toNat<Q:=by have:=CP n;obtain⟨h1,h2⟩:=this;rw[Ag] at h2;omega
def xY(x)(n):bD x n=x^(fmod n).toNat%P:=Pa (oE (Mz n) aK)
def Xj{x}(hx:elem x=ah)(n:Nat):bD x (n:Int)=x^n%P:=by
 have e:(fmod (n:Int)).toNat=n%Q:=by unfold fmod;rw[Ag,<-QW,dL]
 rw[xY,e,alx hx]
def alq(x)(n):bD x (fmod n)=bD x n:=by unfold bD;rw[AH (CP n)]
def zA{x}(hx:elem x=ah)(n):elem (bD x n)=ah:=by rw[xY];exact afq hx _
def Gs{x}{a b}(h:a%Qi=b%Qi):bD x a=bD x b:=by unfold bD fmod;rw[h]
def AI(n):((fmod n).toNat:Int)=fmod n:=by have:=(CP n).1;omega
def DS{x}(hx:elem x=ah)(a b):bD x (a+b)=bD x a * bD x b%P:=by
 have h:(a+b)%Qi=(((fmod a).toNat+(fmod b).toNat:Nat):Int)%Qi:=by rw[aad,AI,AI,Z7];rfl
 rw[Gs h,Xj hx,aa5,rT,<-xY,<-xY]
def Gu{x}(hx:elem x=ah)(a b):bD x (a * b)=bD (bD x a) b:=by
 have h:(a * b)%Qi=(((fmod a).toNat * (fmod b).toNat:Nat):Int)%Qi:=by rw[wK,AI,AI,zQ];rfl
 rw[Gs h,Xj hx,ET,xY (bD x a) b,xY x a,<-ES]
def Xk(x):bD x 0=1:=by rw[xY];rfl
def alu{x}(hx:elem x=ah):bD x 1=x:=by rw[xY];show x^1%P=x;rw[Nat.pow_one,nb (elem_iff.1 hx).2.1]
def als{x}(hx:elem x=ah)(a):bD x a * bD x (-a)%P=1:=by rw[<-DS hx,Int.add_right_neg,Xk]
end Go.NT
end
section
namespace Go.Proofs.YtnfciiiohoafaaaGreatDoor
open Go.AE Go.RowKit
def Qg:List AV:=NT.start.map aN
def Gk:List AV:=NT.Dz.map λ(n:Nat)=>AV.v (.int .u32 (n:Int))
def Gt:Nat->Option (List AV):=λg=>if g=0 then aa Qg else if g=1 then aa Gk else if g=1022017∨g=1022035∨g=1023037∨g=1023048∨g=1023063∨g=1023125∨g=1094104 then aa [] else aq
def prims:FuncId->Option (List AV->ak->Option (AV × ak)):=λ_=>aq
noncomputable abbrev W:=whole al Gt prims
structure aj(p:Prop):Prop where
 out:p
def im(n:Int):AV:=.v (.int .i64 n)
def xK(n:Int):List AV:=[im n]
def ints(l:List Int):List (List AV):=l.map xK
def dn(l):(ints l).length=l.length:=by simp[ints]
def VU(l)(i:Nat):(ints l)[i]?=(l[i]?).map xK:=by simp[ints]
def i64(n:Int):Prop:= -9223372036854775808<=n/\n<=9223372036854775807
def eM:gx al 3=aa av:=by kernel_rfl
def fP:dm al 3=aa 1:=by kernel_rfl
def V6{h}{l}{i}{x}(hx:l[i]?=aa x):aI al Gt h 3 (.elem 1 (ints l) i 0)=aa (im x):=by
 have hr:(ints l)[i]?=aa (xK x):=by rw[VU,hx];rfl
 rw[qw eM hr];rfl
def ab4{h}{d}{ts}{ty:Nat}{s x}(bH:1000 * ty+d≠22017/\1000 * ty+d≠22035/\1000 * ty+d≠23037/\1000 * ty+d≠23048/\1000 * ty+d≠23063/\1000 * ty+d≠23125/\1000 * ty+d≠94104):qV al Gt (aa d) h .append ts ty [s,x]=gq al h ts s x:=by refine ab6 ?_;unfold Hl Gt;rw[aG ag,aG ag,aG (by simp only[HN];omega)];rfl
def ab5{h}{d}{ts}{ty:Nat}{s x}(hy:1000 * ty+d=22017∨1000 * ty+d=22035∨1000 * ty+d=23037∨1000 * ty+d=23048∨1000 * ty+d=23063∨1000 * ty+d=23125∨1000 * ty+d=94104):qV al Gt (aa d) h .append ts ty [s,x]=qI al h ts s x:=by refine ab7 ?_;unfold Hl Gt;rw[aG ag,aG ag,aF (by simp only[HN];omega)];rfl
def aR{α:Type}[BEq α][ReflBEq α](a:α):(a==a)=ah:=beq_self_eq_true a
def au{p:Prop}(h:p:=by kernel_rfl):p:=h
set_option linter.defProp false in
def gW:=ar goS (ar goT (ar goH (ar goU (ar @ab4 (ar @ab5 (ar @GA.eq_1 (ar @uO.eq_1 (ar @uO.eq_2 (ar @uO.eq_3 (ar @dD.eq_1 (ar @dD.eq_2 (ar @dD.eq_3 (ar @dD.eq_4 (ar @dD.eq_5 (ar @dD.eq_6 (ar @dD.eq_7 (ar @dD.eq_8 (ar @dD.eq_9 (ar @dD.eq_10 (ar @dD.eq_11 (ar @dD.eq_12 (ar @dD.eq_13 (ar @dD.eq_14 (ar @dD.eq_15 (ar @dD.eq_16 (ar @dD.eq_17 (ar @dD.eq_18 (ar @dD.eq_19 (ar @dD.eq_20 (ar @dD.eq_21 (ar @dD.eq_22 @dD.eq_23)))))))))))))))))))))))))))))))
def gS{p:Prop}(h:p:=by simp only[gW,reduceIte,Nat.reduceEqDiff,aR]):p:=h
def gR{p:Prop}(h:p:=by simp only[gW,reduceIte,Nat.reduceEqDiff,aR]<;>rfl):p:=h
def gA{p:Prop}(h:p:=by simp only[gW,reduceIte,Nat.reduceEqDiff,aR]<;>assumption):p:=h
def xd{p q:Prop}(x:q)(f:aj q->p:=by intro h;(repeat' (first|simp(maxSteps:=9999999) (disch:=first|exact dZ|fail) only[gW,reduceIte,Nat.reduceEqDiff,aR, *,-h]|refine dX ?_ ?_<;>(intro _;try omega)));exact h.out;fail_if_success refine ?_):p:=f ⟨x⟩
def br{a0:Prop}{p q:Prop}(y0:a0)(x:q)(f:a0->aj q->p:=by intro y0 h;(repeat' (first|simp(maxSteps:=9999999) (disch:=first|exact dZ|fail) only[gW,reduceIte,Nat.reduceEqDiff,aR, *,-h]|refine dX ?_ ?_<;>(intro _;try omega)));exact h.out;fail_if_success refine ?_):p:=f y0 ⟨x⟩
def lG{a0:Prop}{p:Prop}(y0:a0)(f:a0->p:=by intro y0;(repeat' (first|simp(maxSteps:=9999999) (disch:=first|exact dZ|fail) only[gW,reduceIte,Nat.reduceEqDiff,aR, *]|refine dX ?_ ?_<;>(intro _;try omega)));fail_if_success refine ?_):p:=f y0
def bM{a0 a1:Prop}{p q:Prop}(y0:a0)(y1:a1)(x:q)(f:a0->a1->aj q->p:=by intro y0 y1 h;(repeat' (first|simp(maxSteps:=9999999) (disch:=first|exact dZ|fail) only[gW,reduceIte,Nat.reduceEqDiff,aR, *,-h]|refine dX ?_ ?_<;>(intro _;try omega)));exact h.out;fail_if_success refine ?_):p:=f y0 y1 ⟨x⟩
def jL{a0 a1:Prop}{p:Prop}(y0:a0)(y1:a1)(f:a0->a1->p:=by intro y0 y1;(repeat' (first|simp(maxSteps:=9999999) (disch:=first|exact dZ|fail) only[gW,reduceIte,Nat.reduceEqDiff,aR, *]|refine dX ?_ ?_<;>(intro _;try omega)));fail_if_success refine ?_):p:=f y0 y1
def cY{a0 a1 a2:Prop}{p q:Prop}(y0:a0)(y1:a1)(y2:a2)(x:q)(f:a0->a1->a2->aj q->p:=by intro y0 y1 y2 h;(repeat' (first|simp(maxSteps:=9999999) (disch:=first|exact dZ|fail) only[gW,reduceIte,Nat.reduceEqDiff,aR, *,-h]|refine dX ?_ ?_<;>(intro _;try omega)));exact h.out;fail_if_success refine ?_):p:=f y0 y1 y2 ⟨x⟩
def sf{a0 a1 a2:Prop}{p:Prop}(y0:a0)(y1:a1)(y2:a2)(f:a0->a1->a2->p:=by intro y0 y1 y2;(repeat' (first|simp(maxSteps:=9999999) (disch:=first|exact dZ|fail) only[gW,reduceIte,Nat.reduceEqDiff,aR, *]|refine dX ?_ ?_<;>(intro _;try omega)));fail_if_success refine ?_):p:=f y0 y1 y2
def bJ{a0 a1 a2 a3:Prop}{p q:Prop}(y0:a0)(y1:a1)(y2:a2)(y3:a3)(x:q)(f:a0->a1->a2->a3->aj q->p:=by intro y0 y1 y2 y3 h;(repeat' (first|simp(maxSteps:=9999999) (disch:=first|exact dZ|fail) only[gW,reduceIte,Nat.reduceEqDiff,aR, *,-h]|refine dX ?_ ?_<;>(intro _;try omega)));exact h.out;fail_if_success refine ?_):p:=f y0 y1 y2 y3 ⟨x⟩
def mP{a0 a1 a2 a3:Prop}{p:Prop}(y0:a0)(y1:a1)(y2:a2)(y3:a3)(f:a0->a1->a2->a3->p:=by intro y0 y1 y2 y3;(repeat' (first|simp(maxSteps:=9999999) (disch:=first|exact dZ|fail) only[gW,reduceIte,Nat.reduceEqDiff,aR, *]|refine dX ?_ ?_<;>(intro _;try omega)));fail_if_success refine ?_):p:=f y0 y1 y2 y3
def nL{a0:Prop}{p q:Prop}(y0:a0)(x:q)(f:a0->aj q->p:=by intro y0 h;(repeat' (first|simp(maxSteps:=9999999) (disch:=first|exact dZ|fail) only[gW,reduceIte,Nat.reduceEqDiff,aR, *,-h]|(refine dX ?_ ?_<;>(intro _;try omega))|refine tK au ?_));exact h.out;fail_if_success refine ?_):p:=f y0 ⟨x⟩
def iQ{a0:Prop}{p:Prop}(y0:a0)(f:a0->p:=by intro y0;(repeat' (first|simp(maxSteps:=9999999) (disch:=first|exact dZ|fail) only[gW,reduceIte,Nat.reduceEqDiff,aR, *]|(refine dX ?_ ?_<;>(intro _;try omega))|refine tK au ?_));fail_if_success refine ?_):p:=f y0
def MF{a0 a1:Prop}{p q:Prop}(y0:a0)(y1:a1)(x:q)(f:a0->a1->aj q->p:=by intro y0 y1 h;(repeat' (first|simp(maxSteps:=9999999) (disch:=first|exact dZ|fail) only[gW,reduceIte,Nat.reduceEqDiff,aR, *,-h]|(refine dX ?_ ?_<;>(intro _;try omega))|refine tK au ?_));exact h.out;fail_if_success refine ?_):p:=f y0 y1 ⟨x⟩
def TV{a0 a1:Prop}{p:Prop}(y0:a0)(y1:a1)(f:a0->a1->p:=by intro y0 y1;(repeat' (first|simp(maxSteps:=9999999) (disch:=first|exact dZ|fail) only[gW,reduceIte,Nat.reduceEqDiff,aR, *]|(refine dX ?_ ?_<;>(intro _;try omega))|refine tK au ?_));fail_if_success refine ?_):p:=f y0 y1
def MG{a0 a1 a2:Prop}{p q:Prop}(y0:a0)(y1:a1)(y2:a2)(x:q)(f:a0->a1->a2->aj q->p:=by intro y0 y1 y2 h;(repeat' (first|simp(maxSteps:=9999999) (disch:=first|exact dZ|fail) only[gW,reduceIte,Nat.reduceEqDiff,aR, *,-h]|(refine dX ?_ ?_<;>(intro _;try omega))|refine tK au ?_));exact h.out;fail_if_success refine ?_):p:=f y0 y1 y2 ⟨x⟩
def vv{a0 a1 a2:Prop}{p:Prop}(y0:a0)(y1:a1)(y2:a2)(f:a0->a1->a2->p:=by intro y0 y1 y2;(repeat' (first|simp(maxSteps:=9999999) (disch:=first|exact dZ|fail) only[gW,reduceIte,Nat.reduceEqDiff,aR, *]|(refine dX ?_ ?_<;>(intro _;try omega))|refine tK au ?_));fail_if_success refine ?_):p:=f y0 y1 y2
def ID{a0 a1 a2 a3:Prop}{p:Prop}(y0:a0)(y1:a1)(y2:a2)(y3:a3)(f:a0->a1->a2->a3->p:=by intro y0 y1 y2 y3;(repeat' (first|simp(maxSteps:=9999999) (disch:=first|exact dZ|fail) only[gW,reduceIte,Nat.reduceEqDiff,aR, *]|(refine dX ?_ ?_<;>(intro _;try omega))|refine tK au ?_));fail_if_success refine ?_):p:=f y0 y1 y2 y3
end Go.Proofs.YtnfciiiohoafaaaGreatDoor
end
section
namespace Go.Proofs.YtnfciiiohoafaaaGreatDoor
open Go.AE Go.NT
def Eg(n):(n.tmod 1073741789<0->fmod n=n.tmod 1073741789+1073741789)/\(¬n.tmod 1073741789<0->fmod n=n.tmod 1073741789)/\ -1073741789<n.tmod 1073741789/\n.tmod 1073741789<1073741789:=by
 unfold fmod Qi;rcases Int.le_total 0 n with h|h
 ·rw[HB h];omega
 ·obtain⟨m,rfl⟩:∃m,n= -m:=⟨-n,by omega⟩;rw[Int.neg_tmod,HB ag];omega
def Yn:Tryz.f82.results.toList=[.tmp 2]:=au
def PY:Tryz.f81.results.toList=[.tmp 2]:=au
def aoN:Tryz.f28.results.toList=[.tmp 4]:=au
def aoO:Tryz.f29.results.toList=[.tmp 4]:=au
def Jw(n:Int)(h:ak):W.call 82 [im n] h=aa (.ret (im (fmod n)),h):=by
 obtain⟨m1,m2,m3,m4⟩:=Eg n;unfold im;refine cC rfl Tryz.func82 rfl ?_;by_cases c:n.tmod 1073741789<0
 ·have e:=m1 c;clear m1 m2;exact iQ @Yn
 ·have e:=m2 c;clear m1 m2;exact iQ @Yn
def AG(n):0<=fmod n/\fmod n<1073741789:=CP n
def Eh{a:Int}(h:0<=a):a.tmod 1073741789=a%1073741789:=HB h
def OL(a b:Int)(h:ak):W.call 29 [im a,im b] h=aa (.ret (im (b9 a b)),h):=by
 have ca:=Jw a;have cb:=Jw b;obtain⟨a1,a2⟩:=AG a;obtain⟨b1,b2⟩:=AG b;have p0:0<=fmod a * fmod b:=QT a1 b1;have p1:fmod a * fmod b<=1073741789 * 1073741789:=QS ag ag b1 ag;have e:b9 a b=(fmod a * fmod b).tmod 1073741789:=by rw[Eh p0];rfl
 rw[e];unfold im at *
 refine cC rfl Tryz.func29 rfl ?_;exact iQ @aoO
def tL(l:List Int):Int:=l.foldl cP 0
def Ze(l)(x):tL (l++[x])=cP (tL l) x:=by unfold tL;rw[nY];rfl
def Zd(l):okF (tL l):=by
 rcases List.eq_nil_or_concat l with rfl|⟨l',x,rfl⟩
 ·exact zx
 ·rw[List.concat_eq_append,Ze];exact Fg _ _
def fH{α:Type}{l:List α}{i}{x}(h:l[i]?=aa x):l.take (i+1)=l.take i++[x]:=by obtain⟨hi,rfl⟩:=aP.1 h;rw[aaQ hi]
def arf(l:List Int)(k:Tok)(hl:l.length<=9223372036854775807)(h:ak):W.call 81 [.list k 1 (ints l)] h=aa (.ret (im (tL l)),h):=by
 have u23:=dJ;have a3:=eM;have s3:=fP;refine cC rfl Tryz.func81 rfl ?_;refine MF @PY @dn ?_;refine cq (λm e h'=>∃i:Nat,i<=l.length/\m=l.length - i/\e.get 6=.list k 1 (ints l)/\e.get 7=.v (.int .i64 (l.length:Nat))/\e.get 8=.v (.int .i64 i)/\e.get 3=.v (.int .i64 (tL (l.take i)))/\e.defers=[]/\h'=h) ?_ l.length _ _ ?_;rotate_left 1
 ·refine⟨0,cr _,rfl,?_,?_,?_,?_,?_,rfl⟩<;>(first|assumption|(simp only[gW,reduceIte,aX,aR,dn]<;>rfl))
 rintro m e h' ⟨i,hi,rfl,g6,g7,g8,g3,hd,rfl⟩;by_cases aA:i<l.length
 ·obtain⟨x,hx⟩:∃x,l[i]?=aa x:=⟨_,aO aA⟩;have hr:(ints l)[i]?=aa (xK x):=by rw[VU,hx];rfl
  have ahR:(i:Int)<((ints l).length:Int):=by rw[dn];omega
  have cx:=Jw x;obtain⟨x1,x2⟩:=AG x;obtain⟨s1,s2⟩:=Zd (l.take i);have s2:tL (l.take i)<1073741789:=s2;have e1:tL (l.take (i+1))=(tL (l.take i)+fmod x).tmod 1073741789:=by rw[fH hx,Ze,Eh ag];show(fmod (tL (l.take i))+fmod x)%Qi=_;rw[AH (Zd _)];rfl
  unfold im at cx;generalize tL (l.take i)=s at *
  have Ns:=V6 (h:=h') hx;unfold im at Ns;refine MG @PY @dn @a8 ?_;exact⟨l.length - (i+1),by omega,i+1,by omega,rfl,by trivial,by trivial,by simp,by rw[e1],by trivial,by trivial⟩
 ·have:i=l.length:=by omega
  subst this;rw[fA] at g3
  repeat' (first|simp(maxSteps:=999999)(disch:=first|exact dZ|fail)only[gW,reduceIte,aX,aR,PY,dn,im, *]|(refine dX ?_ ?_<;>(intro _;try omega))|refine tK au ?_)
def abH(a b:Int)(h:ak):W.call 28 [im a,im b] h=aa (.ret (im (cP a b)),h):=by
 have c:=arf [a,b] .tight bh h;have e:tL [a,b]=cP a b:=by show cP (cP 0 a) b=cP a b;rw[w8,w8,w8,Ex,Int.emod_add_emod]
 rw[e] at c;have bl:fC al 23 2 [(0,im a),(1,im b)]=aa (.list .tight 1 (ints [a,b])):=au;unfold im at *
 refine cC rfl Tryz.func28 rfl ?_;exact iQ @aoN
def Pc(a):∀k:Nat,(a%Qi)^k%Qi=a^k%Qi:=by
 intro k
 induction k with
 |zero=>simp|succ k ih=>rw[wL,wL,zQ,ih,Ca _ (B9 _),<-zQ]
def aj2(n)(k):(((fmod n).toNat^k%Q:Nat):Int)=n^k%Qi:=by rw[QW,Int.natCast_pow,AI,<-Ag];exact Pc n k
def qb(r:Int)(l:Nat)(s x:Int):Prop:=okF x/\(x * s^l)%Qi=r
def qb.Bu{r s x}{l}(h:qb r l s x)(ho:l%2=1):qb r (l/2) (b9 s s) (b9 x s):=by
 refine⟨Fh _ _,?_⟩;rw[<-h.2,rh,rh,zQ,Pc,Ca _ (B9 _),<-zQ,wJ];congr 2;have e:l=2 * (l/2)+1:=by omega
 rw[show s^l=s^(2 * (l/2)+1) by rw[<-e],wL,Ew,yo,show s * s=s^2 by rw[wL,wL,KW,Ev]]
def qb.even{r s x}{l}(h:qb r l s x)(ho:l%2=0):qb r (l/2) (b9 s s) x:=by
 refine⟨h.1,?_⟩;rw[<-h.2,rh,zQ,Pc,<-zQ];congr 2;have e:l=2 * (l/2):=by omega
 rw[show s^l=s^(2 * (l/2)) by rw[<-e],Ew,show s * s=s^2 by rw[wL,wL,KW,Ev]]
def qb.done{r s x}(h:qb r 0 s x):x=r:=by rw[<-h.2,KW,HA];exact(KS h.1.1 h.1.2).symm
def qb.start(n):qb (dV n) 1073741787 n 1:=by
 refine⟨by unfold okF;decide,?_⟩;have e:(dV n)=(((fmod n).toNat^(Q - 2)%Q:Nat):Int):=by unfold dV;rw[Is aK aK aK,Cl]
 rw[e,aj2,Ev];rfl
def GR:Tryz.f201.results.toList=[.tmp 2,.tmp 3]:=au
def aiC(n:Int)(h:ak):W.call 201 [im n] h=aa (.ret (.tuple [im (if fmod n=0 then 0 else dV n),im (if fmod n=0 then 90 else 0)]),h):=by
 have cn:=Jw n;by_cases hz:fmod n=0
 ·rw[aF hz,aF hz];unfold im at *
  refine cC rfl abj rfl ?_;exact iQ @GR
 ·rw[aG hz,aG hz];have P0:=aj.mk (qb.start n);unfold im at *
  refine cC rfl abj rfl ?_;refine nL @GR ?_;refine cq (λm e h'=>∃(s x:Int),m<=1073741787/\qb (dV n) m s x/\e.get 4=.v (.int .i64 (m:Nat))/\e.get 5=.v (.int .i64 s)/\e.get 2=.v (.int .i64 x)/\e.defers=[]/\h'=h) ?_ 1073741787 _ _ ?_;rotate_left 1
  ·exact⟨n,1,aJ _,P0.out,by exact gR,by exact gR,by exact gR,by exact gR,rfl⟩
  rintro l e h' ⟨s,x,hl,hI,g4,g5,g2,hd,rfl⟩;have kI:=aj.mk hI;have c1:=OL x s;have c2:=OL s s;unfold im at c1 c2;by_cases h0:l=0
  ·subst h0;have hx:=hI.done;clear hI;exact iQ @GR
  ·have hdiv:((l:Nat):Int).tdiv 2=((l/2:Nat):Int):=(by rw[aaj ag];omega);have zg:((l:Nat):Int).tmod 2=((l%2:Nat):Int):=(by rw[HB ag];omega);have gI:¬((l:Nat):Int)=0:=(by omega);clear hI;rcases Ac l with ho|ho
   ·rw[ho] at zg;refine nL @GR ?_;exact⟨l/2,by omega,_,_,by omega,kI.out.even ho,by trivial,by trivial,by trivial,by trivial,by trivial⟩
   ·rw[ho] at zg;refine nL @GR ?_;exact⟨l/2,by omega,_,_,by omega,kI.out.Bu ho,by trivial,by trivial,by trivial,by trivial,by trivial⟩
def Kl(b:Bool):Nat:=if b=ah then 0 else 1
def qP(x a n:Nat)(sq:Bool):Prop:=1<=a/\n%2=1/\nE a n/\a<=P/\n<=P/\mu x P%2=(mu a n+Kl sq)%2
def Yy(b):(Kl (!b)+1)%2=Kl b%2:=by cases b<;>rfl
def qP.even{x a n}{sq}(h:qP x a n sq)(he:a%2=0):qP x (a/2) n (if n%8=3∨n%8=5 then !sq else sq):=by
 obtain⟨h1,h2,h3,h4,h5,h6⟩:=h;have e:a=2 * (a/2):=by omega
 have hc:nE (2 * (a/2)) n:=by rw[<-e];exact h3
 have hs:=aqP h2 hc;rw[<-e] at hs;refine⟨ag,h2,aaR hc,by omega,h5,?_⟩;rw[h6];have:=Yy sq;split at hs<;>rename_i q
 ·rw[aF q];omega
 ·rw[aG q];omega
def qP.Bu{x a n}{sq}(h:qP x a n sq)(ho:a%2=1)(hg:1<a):qP x (n%a) a (if a%4=3/\n%4=3 then !sq else sq):=by
 obtain⟨h1,h2,h3,h4,h5,h6⟩:=h;have hs:=aqR h2 ho h3;have hl:=mr n (ag:0<a);have h0:n%a≠0:=λq=>by have hd:=EM q;have:=Nat.dvd_gcd (Nat.dvd_refl a) hd;rw[h3] at this;have:=Cj aK this;omega
 refine⟨ag,ho,aeJ h3,by omega,h4,?_⟩;rw[h6];have:=Yy sq;split at hs<;>rename_i q
 ·rw[aF q];omega
 ·rw[aG q];omega
def qP.done{x n}{sq}(h0:1<=x)(hx:x<P)(h:qP x 1 n sq):elem x=sq:=by
 obtain⟨-,h2,-,-,-,h6⟩:=h;rw[ajV (h:=n/2) ag] at h6;rw[afp h0 hx];cases sq
 ·rw[cI];rw[h6];decide
 ·rw[bX];rw[h6];rfl
def qP.start{x}(h0:1<=x)(hx:x<P):qP x x P ah:=⟨h0,by decide,Ro.coprime h0 hx,mJ hx,aJ _,by rw[show Kl ah=0 from rfl,zZ]⟩
def tI:Tryz.f46.results.toList=[.tmp 2]:=au
def Hk(a b):((a:Nat):Int).tdiv (b:Nat)=((a/b:Nat):Int):=by rw[aaj ag];simp
def nU(a b):((a:Nat):Int).tmod (b:Nat)=((a%b:Nat):Int):=by rw[HB ag];simp
def Io{x}(h:x<1∨2147483579<=x):bE x=av:=by
 unfold bE;rcases h with h|h
 ·rw[cI ag];rfl
 ·have:elem x.toNat=av:=by rw[Bool.eq_false_iff];intro q;have:=(elem_iff.1 q).2.1;have hP:P=2147483579:=rfl;omega
  rw[this,Bool.and_false]
def KD(x:Int)(h:ak):W.call 46 [im x] h=aa (.ret (.v (.bool (bE x))),h):=by
 by_cases hx:x<1
 ·rw[Io (.inl hx)];unfold im;refine cC rfl RE rfl ?_;exact iQ @tI
 by_cases hy:2147483579<=x
 ·rw[Io (.inr hy)];unfold im;refine cC rfl RE rfl ?_;exact iQ @tI
 obtain⟨n0,rfl⟩:∃n:Nat,x=n:=⟨x.toNat,by omega⟩;have h1:1<=n0:=by omega
 have h2:n0<P:=by have:P=2147483579:=rfl;omega
 have y5:∀{m:Nat} {sq:Bool},qP n0 1 m sq->bE (n0:Int)=sq:=λhh=>by unfold bE;rw[bX ag,dL,hh.done h1 h2];rfl
 have k0:=aj.mk (qP.start h1 h2);have kf:=aj.mk @y5;clear y5;unfold im;generalize bE (n0:Int)=res at *
 have hnP:(n0:Int)<2147483579:=by omega
 clear h2;refine cC rfl RE rfl ?_;refine nL @tI ?_;refine cq (λm e h'=>∃(n:Nat) (sq:Bool),qP n0 m n sq/\e.get 0=.v (.int .i64 (m:Nat))/\e.get 3=.v (.int .i64 (n:Nat))/\e.get 4=.v (.bool sq)/\e.defers=[]/\h'=h) ?_ n0 _ _ ?_;rotate_left 1
 ·exact⟨2147483579,ah,k0.out,by exact gR,by exact gR,by exact gR,by exact gR,rfl⟩
 rintro a e h' ⟨n,sq,hI,g0,g3,g4,hd,rfl⟩;have kI:=aj.mk hI;have vz:=hI.1;have ha4:a<=2147483579:=hI.2.2.2.1;by_cases ah4:a=1
 ·subst ah4;have hr:=kf.out hI;clear hI;exact iQ @tI
 have FE:(1:Int)<(a:Int):=by omega
 clear hI;refine nL @tI ?_;refine cq (λm e TW=>∃(sq:Bool),m<=a/\qP n0 m n sq/\e.get 0=.v (.int .i64 (m:Nat))/\e.get 3=.v (.int .i64 (n:Nat))/\e.get 4=.v (.bool sq)/\e.defers=[]/\TW=h') ?_ a _ _ ?_;rotate_left 1
 ·exact⟨sq,aJ _,kI.out,by first|assumption|(exact gA),by first|assumption|(exact gA),by first|assumption|(exact gA),by first|assumption|(exact gA),rfl⟩
 clear g0 g3 g4 hd kI sq;rintro b e TW ⟨sq,yV,hI,g0,g3,g4,hd,rfl⟩;have kI:=aj.mk hI;have jM:=hI.1;have sF:=hI.2.1;have ate:n<=2147483579:=hI.2.2.2.2.1;clear hI;have m2:((b:Nat):Int).tmod 2=((b%2:Nat):Int):=nU b 2;have d2:((b:Nat):Int).tdiv 2=((b/2:Nat):Int):=Hk b 2;have m8:((n:Nat):Int).tmod 8=((n%8:Nat):Int):=nU n 8;have mb4:((b:Nat):Int).tmod 4=((b%4:Nat):Int):=nU b 4;have mn4:((n:Nat):Int).tmod 4=((n%4:Nat):Int):=nU n 4;have mnb:=nU n b;rcases Ac b with hb|hb
 ·have hE:=kI.out.even hb;rw[hb,rQ] at m2;by_cases c3:n%8=3
  ·rw[aF (.inl c3)] at hE;have m8:((n:Nat):Int).tmod 8=3:=(by rw[m8,c3];rfl);have kE:=aj.mk hE;clear hE;refine nL @tI ?_;exact⟨b/2,by omega,_,by omega,kE.out,(by first|exact aQ|exact rfl),(by first|exact aQ|exact rfl),(by first|exact aQ|exact rfl),(by first|exact aQ|exact rfl),(by first|exact aQ|exact rfl)⟩
  ·by_cases c5:n%8=5
   ·rw[aF (.inr c5)] at hE;have m8:((n:Nat):Int).tmod 8=5:=(by rw[m8,c5];rfl);have kE:=aj.mk hE;clear hE;refine nL @tI ?_;exact⟨b/2,by omega,_,by omega,kE.out,(by first|exact aQ|exact rfl),(by first|exact aQ|exact rfl),(by first|exact aQ|exact rfl),(by first|exact aQ|exact rfl),(by first|exact aQ|exact rfl)⟩
   ·rw[aG ag] at hE;have kE:=aj.mk hE;have c3':¬(((n%8:Nat):Int)=3):=(by omega);have c5':¬(((n%8:Nat):Int)=5):=(by omega);clear hE;refine nL @tI ?_;exact⟨b/2,by omega,_,by omega,kE.out,(by first|exact aQ|exact rfl),(by first|exact aQ|exact rfl),(by first|exact aQ|exact rfl),(by first|exact aQ|exact rfl),(by first|exact aQ|exact rfl)⟩
 ·rw[hb,QX] at m2;by_cases ahe:b=1
  ·subst ahe;have hr:=kf.out kI.out;exact iQ @tI
  ·have hO:=kI.out.Bu hb ag;have bH:¬((b:Nat):Int)=1:=(by omega);have hnz:¬((b:Nat):Int)=0:=(by omega);have aA:=mr n (ag:0<b);by_cases c4:b%4=3
   ·by_cases c5:n%4=3
    ·rw[aF ⟨c4,c5⟩] at hO;have mb4:((b:Nat):Int).tmod 4=3:=(by rw[mb4,c4];rfl);have mn4:((n:Nat):Int).tmod 4=3:=(by rw[mn4,c5];rfl);have kO:=aj.mk hO;clear hO;refine nL @tI ?_;exact⟨n%b,by omega,b,_,kO.out,(by first|exact aQ|exact rfl),(by first|exact aQ|exact rfl),(by first|exact aQ|exact rfl),(by first|exact aQ|exact rfl),(by first|exact aQ|exact rfl)⟩
    ·rw[aG ag] at hO;have mb4:((b:Nat):Int).tmod 4=3:=(by rw[mb4,c4];rfl);have c5':¬(((n%4:Nat):Int)=3):=(by omega);have kO:=aj.mk hO;clear hO;refine nL @tI ?_;exact⟨n%b,by omega,b,_,kO.out,(by first|exact aQ|exact rfl),(by first|exact aQ|exact rfl),(by first|exact aQ|exact rfl),(by first|exact aQ|exact rfl),(by first|exact aQ|exact rfl)⟩
   ·rw[aG ag] at hO;have c4':¬(((b%4:Nat):Int)=3):=(by omega);have kO:=aj.mk hO;clear hO;refine nL @tI ?_;exact⟨n%b,by omega,b,_,kO.out,(by first|exact aQ|exact rfl),(by first|exact aQ|exact rfl),(by first|exact aQ|exact rfl),(by first|exact aQ|exact rfl),(by first|exact aQ|exact rfl)⟩
def XX:Tryz.f138.results.toList=[.tmp 2]:=au
def aoT:Tryz.f65.results.toList=[.tmp 4]:=au
def aoU:Tryz.f66.results.toList=[.tmp 4]:=au
def Ka:Tryz.f215.results.toList=[.tmp 4]:=au
def Ye:Tryz.f194.results.toList=[.tmp 2,.tmp 3]:=au
def Ya:Tryz.f171.results.toList=[.tmp 2]:=au
def J6:Tryz.f150.results.toList=[.tmp 4]:=au
def P1:Tryz.f94.results.toList=[.tmp 2]:=au
def XV:Tryz.f132.results.toList=[.tmp 4,.tmp 5]:=au
def PD:Tryz.f140.results.toList=[.tmp 4,.tmp 5]:=au
def GB(n:Int)(h:ak):W.call 138 [im n] h=aa (.ret (im (fmod n)),h):=by
 obtain⟨m1,m2,m3,m4⟩:=Eg n;unfold im;refine cC rfl Tryz.func138 rfl ?_;by_cases c:n.tmod 1073741789<0
 ·have e:=m1 c;clear m1 m2;exact iQ @XX
 ·have e:=m2 c;clear m1 m2;exact iQ @XX
def afL(n:Int)(h:ak):W.call 171 [im n] h=aa (.ret (im (fmod n)),h):=by
 obtain⟨m1,m2,m3,m4⟩:=Eg n;unfold im;refine cC rfl Tryz.func171 rfl ?_;by_cases c:n.tmod 1073741789<0
 ·have e:=m1 c;clear m1 m2;exact iQ @Ya
 ·have e:=m2 c;clear m1 m2;exact iQ @Ya
def Pv(a b:Int)(h:ak):W.call 66 [im a,im b] h=aa (.ret (im (b9 a b)),h):=by
 have ca:=GB a;have cb:=GB b;obtain⟨a1,a2⟩:=AG a;obtain⟨b1,b2⟩:=AG b;have p0:0<=fmod a * fmod b:=QT a1 b1;have p1:fmod a * fmod b<=1073741789 * 1073741789:=QS ag ag b1 ag;have e:b9 a b=(fmod a * fmod b).tmod 1073741789:=by rw[Eh p0];rfl
 rw[e];unfold im at *
 refine cC rfl Tryz.func66 rfl ?_;exact iQ @aoU
def al4(a b:Int)(h:ak):W.call 65 [im a,im b] h=aa (.ret (im (cP a b)),h):=by
 have ca:=GB a;have cb:=GB b;obtain⟨a1,a2⟩:=AG a;obtain⟨b1,b2⟩:=AG b;have e:cP a b=(fmod a+fmod b).tmod 1073741789:=by rw[Eh ag];rfl
 rw[e];unfold im at *
 refine cC rfl Tryz.func65 rfl ?_;exact iQ @aoT
def aof(r a:Int)(n:Nat)(hn:n<=1073741787)(hI:qb r n a 1)(h:ak):W.call 215 [im a,im (n:Nat)] h=aa (.ret (im r),h):=by
 have P0:=aj.mk hI;clear hI;unfold im at *
 refine cC rfl Tryz.func215 rfl ?_;refine nL @Ka ?_;refine cq (λm e h'=>∃(s x:Int),m<=1073741787/\qb r m s x/\e.get 1=.v (.int .i64 (m:Nat))/\e.get 0=.v (.int .i64 s)/\e.get 5=.v (.int .i64 x)/\e.defers=[]/\h'=h) ?_ n _ _ ?_;rotate_left 1
 ·exact⟨a,1,hn,P0.out,by exact gR,by exact gR,by exact gR,by exact gR,rfl⟩
 rintro l e h' ⟨s,x,hl,hI,g1,g0,g5,hd,rfl⟩;have kI:=aj.mk hI;have c1:=Pv x s;have c2:=Pv s s;unfold im at c1 c2;by_cases h0:l=0
 ·subst h0;have hx:=hI.done;clear hI;exact iQ @Ka
 ·have hdiv:((l:Nat):Int).tdiv 2=((l/2:Nat):Int):=Hk l 2;have zg:((l:Nat):Int).tmod 2=((l%2:Nat):Int):=nU l 2;have gI:(0:Int)<((l:Nat):Int):=by omega
  clear hI;rcases Ac l with ho|ho
  ·rw[ho,rQ] at zg;refine nL @Ka ?_;exact⟨l/2,by omega,_,_,by omega,kI.out.even ho,(by first|exact aQ|exact rfl),(by first|exact aQ|exact rfl),(by first|exact aQ|exact rfl),(by first|exact aQ|exact rfl),(by first|exact aQ|exact rfl)⟩
  ·rw[ho,QX] at zg;refine nL @Ka ?_;exact⟨l/2,by omega,_,_,by omega,kI.out.Bu ho,(by first|exact aQ|exact rfl),(by first|exact aQ|exact rfl),(by first|exact aQ|exact rfl),(by first|exact aQ|exact rfl),(by first|exact aQ|exact rfl)⟩
def am4(n:Int)(h:ak):W.call 194 [im n] h=aa (.ret (.tuple [im (if fmod n=0 then 0 else dV n),im (if fmod n=0 then 90 else 0)]),h):=by
 have cn:=GB n;have cp:=aof (dV n) n 1073741787 (aJ _) (qb.start n);by_cases hz:fmod n=0
 ·rw[aF hz,aF hz];clear cp;unfold im at *
  refine cC rfl abi rfl ?_;exact iQ @Ye
 ·rw[aG hz,aG hz];have cp:∀h,W.call 215 [.v (.int .i64 n),.v (.int .i64 1073741787)] h=aa (.ret (.v (.int .i64 (dV n))),h):=cp;unfold im at *
  refine cC rfl abi rfl ?_;exact iQ @Ye
def nf(r n a c:Nat):Prop:=c<P/\a<P/\c * a^n%P=r
def nf.Bu{r n a c}(h:nf r n a c)(ho:n%2=1):nf r (n/2) (a * a%P) (c * a%P):=by refine⟨mr _ aK,mr _ aK,?_⟩;rw[<-h.2.2,Rf,rT,<-ES,<-rT,Ln,<-Rh,<-ET,<-aa7,show(2 * (n/2)).succ=n by omega]
def nf.even{r n a c}(h:nf r n a c)(ho:n%2=0):nf r (n/2) (a * a%P) c:=by refine⟨h.1,mr _ aK,?_⟩;rw[<-h.2.2,rT,<-ES,<-rT,<-Rh,<-ET,(ag:2 * (n/2)=n)]
def nf.done{r a c}(h:nf r 0 a c):c=r:=by rw[<-h.2.2,Nat.pow_zero,nG,nb h.1]
def nf.start{a n}(ha:a<P)(hn:n<2^31):nf (rK a n) n a 1:=⟨aK,ha,by rw[Pa hn,Cl]⟩
def nf.bound{r n a c}(h:nf r n a c):c * a<=4611685722074649241/\a * a<=4611685722074649241:=by obtain⟨h1,h2,-⟩:=h;have h1:c<=2147483579:=mJ h1;have h2:a<=2147483579:=mJ h2;exact⟨pg h1 h2,pg h2 h2⟩
def XR(r a n:Nat)(hn:n<=2147483647)(hI:nf r n a 1)(h:ak):W.call 150 [im (a:Nat),im (n:Nat)] h=aa (.ret (im (r:Nat)),h):=by
 have P0:=aj.mk hI;clear hI;unfold im at *
 refine cC rfl Tryz.func150 rfl ?_;refine nL @J6 ?_;refine cq (λm e h'=>∃(s x:Nat),m<=2147483647/\nf r m s x/\e.get 1=.v (.int .i64 (m:Nat))/\e.get 0=.v (.int .i64 (s:Nat))/\e.get 5=.v (.int .i64 (x:Nat))/\e.defers=[]/\h'=h) ?_ n _ _ ?_;rotate_left 1
 ·exact⟨a,1,hn,P0.out,by exact gR,by exact gR,by exact gR,by exact gR,rfl⟩
 rintro l e h' ⟨s,x,hl,hI,g1,g0,g5,hd,rfl⟩;have kI:=aj.mk hI;obtain⟨b1,b2⟩:=hI.bound;by_cases h0:l=0
 ·subst h0;have hx:=hI.done;clear hI;exact iQ @J6
 ·have hdiv:((l:Nat):Int).tdiv 2=((l/2:Nat):Int):=Hk l 2;have zg:((l:Nat):Int).tmod 2=((l%2:Nat):Int):=nU l 2;have gI:(0:Int)<((l:Nat):Int):=by omega
  have e1:((x:Nat):Int) * (s:Nat)=((x * s:Nat):Int):=(wK _ _).symm;have e2:((s:Nat):Int) * (s:Nat)=((s * s:Nat):Int):=(wK _ _).symm;have e3:((x * s:Nat):Int).tmod 2147483579=((x * s%P:Nat):Int):=nU (x * s) 2147483579;have e4:((s * s:Nat):Int).tmod 2147483579=((s * s%P:Nat):Int):=nU (s * s) 2147483579;clear hI;rcases Ac l with ho|ho
  ·rw[ho,rQ] at zg;refine nL @J6 ?_;exact⟨l/2,by omega,_,_,by omega,kI.out.even ho,(by first|exact aQ|exact rfl),(by first|exact aQ|exact rfl),(by first|exact aQ|exact rfl),(by first|exact aQ|exact rfl),(by first|exact aQ|exact rfl)⟩
  ·rw[ho,QX] at zg;refine nL @J6 ?_;exact⟨l/2,by omega,_,_,by omega,kI.out.Bu ho,(by first|exact aQ|exact rfl),(by first|exact aQ|exact rfl),(by first|exact aQ|exact rfl),(by first|exact aQ|exact rfl),(by first|exact aQ|exact rfl)⟩
def fU(a n:Int):Int:=if bE a=ah then ((bD a.toNat n:Nat):Int) else 0
def ma(a:Int):Int:=if bE a=ah then 0 else 100
def jB(a b:Int):Int:=if bE a=ah/\bE b=ah then ((a.toNat * b.toNat%P:Nat):Int) else 0
def mO(a b:Int):Int:=if bE a=ah/\bE b=ah then 0 else 100
def Aw{a}(h:bE a=ah):∃n:Nat,a=n/\elem n=ah/\1<=n/\n<P:=by unfold bE at h;rw[bC,decide_eq_true_eq] at h;have:=elem_iff.1 h.2;exact⟨a.toNat,by omega,h.2,this.1,this.2.1⟩
def Ki(x:Int)(h:ak):W.call 94 [im x] h=aa (.ret (.v (.bool (bE x))),h):=by
 by_cases hx:x<1
 ·rw[Io (.inl hx)];unfold im;refine cC rfl RG rfl ?_;exact iQ @P1
 by_cases hy:2147483579<=x
 ·rw[Io (.inr hy)];unfold im;refine cC rfl RG rfl ?_;exact iQ @P1
 obtain⟨n0,rfl⟩:∃n:Nat,x=n:=⟨x.toNat,by omega⟩;have h2:n0<P:=by have:P=2147483579:=rfl;omega
 have cp:∀h,W.call 150 [.v (.int .i64 (n0:Nat)),.v (.int .i64 1073741789)] h=aa (.ret (.v (.int .i64 (rK n0 Q:Nat))),h):=XR (rK n0 Q) n0 1073741789 aK (nf.start h2 aK);have e:bE (n0:Int)=decide (((rK n0 Q:Nat):Int)=1):=by
  unfold bE elem;rw[bX ag,dL,bX ag,bX h2,rP,rP,rP,Ek,decide_eq_true_eq];constructor
  ·intro q;rw[jw q];rfl
  ·intro q;have:rK n0 Q=1:=(by omega);rw[this];rfl
 rw[e];generalize rK n0 Q=r at *
 have VM:(1:Int)<=(n0:Int):=by omega
 have hy1:(n0:Int)<2147483579:=by omega
 clear e h2 hx hy;unfold im;refine cC rfl RG rfl ?_;exact iQ @P1
def PV:Tryz.f69.results.toList=[.tmp 4,.tmp 5]:=au
def PZ:Tryz.f84.results.toList=[.tmp 2]:=au
def mul_tmod{a b}(ha:a<P)(hb:b<P):((a:Nat):Int) * (b:Nat)<=4611685722074649241/\(0:Int)<=((a:Nat):Int) * (b:Nat)/\(((a:Nat):Int) * (b:Nat)).tmod 2147483579=((a * b%P:Nat):Int):=by have h1:a<=2147483579:=mJ ha;have h2:b<=2147483579:=mJ hb;have:=pg h1 h2;have e:((a:Nat):Int) * (b:Nat)=((a * b:Nat):Int):=(wK _ _).symm;rw[e];exact⟨ag,by omega,nU (a * b) 2147483579⟩
def agx(a b:Int)(h:ak):W.call 69 [im a,im b] h=aa (.ret (.tuple [im (jB a b),im (mO a b)]),h):=by
 have ca:=KD a;have cb:=KD b;unfold jB mO;by_cases ha:bE a=ah
 ·by_cases hb:bE b=ah
  ·rw[aF ⟨ha,hb⟩,aF ⟨ha,hb⟩];rw[ha] at ca;rw[hb] at cb;obtain⟨x,rfl,-,-,x2⟩:=Aw ha;obtain⟨y,rfl,-,-,y2⟩:=Aw hb;obtain⟨m1,m2,-⟩:=mul_tmod x2 y2;simp only[dL];have e1:((x:Nat):Int) * (y:Nat)=((x * y:Nat):Int):=(wK _ _).symm;have e3:((x * y:Nat):Int).tmod 2147483579=((x * y%P:Nat):Int):=nU (x * y) 2147483579;rw[e1] at m1 m2;have m4:x * y%P<2147483579:=mr _ aK;clear ha hb;unfold im at *
   refine cC rfl RF rfl ?_;exact iQ @PV
  ·have gU:bE b=av:=(by simpa using hb);rw[aG (λq=>hb q.2),aG (λq=>hb q.2)];rw[ha] at ca;rw[gU] at cb;unfold im at *
   refine cC rfl RF rfl ?_;exact iQ @PV
 ·have mC:bE a=av:=by simpa using ha
  rw[aG (λq=>ha q.1),aG (λq=>ha q.1)];rw[mC] at ca;unfold im at *
  refine cC rfl RF rfl ?_;exact iQ @PV
def tE(l:List Int):Int:=l.foldl (λa x=>(a * (x.tmod 1073741789+1073741789)).tmod 1073741789) 1
def ai2(l)(x):tE (l++[x])=(tE l * (x.tmod 1073741789+1073741789)).tmod 1073741789:=by unfold tE;rw[nY];rfl
def ai1(n):tE [n]=fmod n:=by
 obtain⟨m1,m2,m3,m4⟩:=Eg n;show(1 * (n.tmod 1073741789+1073741789)).tmod 1073741789=fmod n;rw[Ev,Eh ag];by_cases c:n.tmod 1073741789<0
 ·rw[m1 c];omega
 ·rw[m2 c];omega
def Wa{a x:Int}(h:0<=a/\a<1073741789):0<=a * (x.tmod 1073741789+1073741789)/\a * (x.tmod 1073741789+1073741789)<=2305843013508661242/\0<=(a * (x.tmod 1073741789+1073741789)).tmod 1073741789/\(a * (x.tmod 1073741789+1073741789)).tmod 1073741789<1073741789:=by obtain⟨-,-,m3,m4⟩:=Eg x;have p0:0<=a * (x.tmod 1073741789+1073741789):=QT h.1 ag;have p1:a * (x.tmod 1073741789+1073741789)<=1073741789 * 2147483578:=QS ag ag ag ag;rw[Eh p0];omega
def ai0(l):0<=tE l/\tE l<1073741789:=by
 unfold tE;have key:∀(l:List Int) (a:Int),0<=a/\a<1073741789->0<=l.foldl (λa x=>(a * (x.tmod 1073741789+1073741789)).tmod 1073741789) a/\l.foldl (λa x=>(a * (x.tmod 1073741789+1073741789)).tmod 1073741789) a<1073741789:=by
  intro l
  induction l with
  |nil=>intro a h;exact h|cons x l ih=>intro a h;exact ih _ (Wa h).2.2
 exact key l 1 ⟨aK,by decide⟩
def ai3(l:List Int)(k:Tok)(hl:l.length<=9223372036854775807)(h:ak):W.call 84 [.list k 1 (ints l)] h=aa (.ret (im (tE l)),h):=by
 have u23:=dJ;have a3:=eM;have s3:=fP;refine cC rfl Tryz.func84 rfl ?_;refine MF @PZ @dn ?_;refine cq (λm e h'=>∃i:Nat,i<=l.length/\m=l.length - i/\e.get 6=.list k 1 (ints l)/\e.get 7=.v (.int .i64 (l.length:Nat))/\e.get 8=.v (.int .i64 i)/\e.get 3=.v (.int .i64 (tE (l.take i)))/\e.defers=[]/\h'=h) ?_ l.length _ _ ?_;rotate_left 1
 ·refine⟨0,cr _,rfl,?_,?_,?_,?_,?_,rfl⟩<;>(first|assumption|(simp only[gW,reduceIte,aX,aR,dn]<;>rfl))
 rintro m e h' ⟨i,hi,rfl,g6,g7,g8,g3,hd,rfl⟩;by_cases aA:i<l.length
 ·obtain⟨x,hx⟩:∃x,l[i]?=aa x:=⟨_,aO aA⟩;have ahR:(i:Int)<((ints l).length:Int):=by rw[dn];omega
  obtain⟨-,-,x1,x2⟩:=Eg x;obtain⟨s1,s2,s3',s4⟩:=Wa (x:=x) (ai0 (l.take i));have e1:tE (l.take (i+1))=(tE (l.take i) * (x.tmod 1073741789+1073741789)).tmod 1073741789:=by rw[fH hx,ai2]
  generalize tE (l.take i)=s at *
  have Ns:=V6 (h:=h') hx;unfold im at Ns;refine MG @PZ @dn @a8 ?_;exact⟨l.length - (i+1),by omega,i+1,by omega,rfl,by trivial,by trivial,by simp,by rw[e1],by trivial,by trivial⟩
 ·have:i=l.length:=by omega
  subst this;rw[fA] at g3
  repeat' (first|simp(maxSteps:=999999)(disch:=first|exact dZ|fail)only[gW,reduceIte,aX,aR,PZ,dn,im, *]|(refine dX ?_ ?_<;>(intro _;try omega))|refine tK au ?_)
def Xu{h:ak}{z cs}{b}(hb:b=h.boxes.length):(h.push z).put b cs=h.push cs:=by subst hb;exact oA h z cs
def alR{h:ak}{z cs}{b}(hb:b≠h.boxes.length):(h.push z).put b cs=(h.put b cs).push z:=by
 unfold ak.push ak.put;simp only;congr 1;rcases dI b h.boxes.length with aA|dM
 ·rw[List.set_append_left _ _ aA]
 ·rw[Ld _ _ dM,aaM (by simp;omega),aaM dM]
def aoY:Tryz.f83.results.toList=[.tmp 4]:=au
def PE:Tryz.f147.results.toList=[]:=au
def PQ:Tryz.f30.results.toList=[.cell 4 3,.tmp 5]:=au
def KH:(iN al 3).bind AV.b8=aa [im 0]:=au
def ab0{t}{x y}{n}(hn:n<=9223372036854775807):cN al .and t x y (.v (.int .i64 (n:Nat))) (.v (.int .i64 1))=aa (.v (.int .i64 ((n%2:Nat):Int))):=by
 rw[rX];congr 3;have e1:BitVec.ofInt IntKind.i64.bits (n:Int)=BitVec.ofNat 64 n:=by apply BitVec.eq_of_toNat_eq;show(BitVec.ofInt 64 (n:Int)).toNat=(BitVec.ofNat 64 n).toNat;rw[BitVec.toNat_ofInt,BitVec.toNat_ofNat];omega
 have e2:(BitVec.ofNat 64 n&&&1#64).toNat=n%2:=by rw[BitVec.toNat_and,BitVec.toNat_ofNat,show(1#64:BitVec 64).toNat=1 from rfl,Nat.and_one_is_mod];omega
 have e3:(BitVec.ofInt IntKind.i64.bits (n:Int)&&&BitVec.ofInt IntKind.i64.bits 1).toNat=n%2:=by rw[e1];exact e2
 rw[e3,gf ag ag]
def apX{t}{x y}{n}:cN al .shr t x y (.v (.int .i64 (n:Nat))) (.v (.int .u64 1))=aa (.v (.int .i64 ((n/2:Nat):Int))):=by rw[Am aK];congr 3;show((n:Nat):Int).fdiv (2^1)=_;rw[Eu _ aK];simp
def rL{h:ak}{b}{cs}(hb:h.boxes[b]?=aa cs):h.put b cs=h:=by
 unfold ak.put;have:h.boxes.set b cs=h.boxes:=by
  apply p8;intro k;rw[lR];split
  ·rename_i e;subst e;rw[aF (aP.1 hb).1,hb]
  ·rfl
 rw[this]
def kQ{H}{b}{x}(hb:H.boxes[b]?=aa [x]):aI al Gt H 3 (.ptr (.box b) 0)=aa x:=by rw[lP eM hb];rfl
def zG{H}{b}{x}{n}(hb:H.boxes[b]?=aa [x]):ct al H 3 (.ptr (.box b) 0) (.v (.int .i64 n))=aa (H.put b [.v (.int .i64 n)]):=gL (off:=0) (cs:=[x]) (xs:=[im n]) rfl fP hb rfl (aJ 1)
def Rp(l bc:Nat)(rec:ij):Prop:=∀(s c:Nat) (b:Bool) (H:ak),s<P->c<P->H.loops[l]?=aa rec->H.boxes[bc]?=aa [im (c:Nat)]->W.round l [im (s:Nat),.v (.bool b)] H=aa (.ret (.v (.bool ah)),H.put bc [im ((if b=ah then c * s%P else c:Nat):Int)])
def Aq{P}{R}{e}{h}{t l:Nat}{args}{ts}(hy:e.get t=.yield l):lE P R e h {callee:=.value (.tmp t),args,argTypes:=ts}=R.round l (args.toList.map e.eval) h:=by rw[Sv,hy]
def aqt(l bn ba bc:Nat)(rec:ij)(hR:Rp l bc rec)(h1:bn≠ba)(h2:bn≠bc)(h3:ba≠bc)(r n a c:Nat)(hn:n<=2147483647)(hI:nf r n a c)(h:ak)
 (AP:h.boxes[bn]?=aa [im (n:Nat)]) (yV:h.boxes[ba]?=aa [im (a:Nat)]) (CW:h.boxes[bc]?=aa [im (c:Nat)]) (hl:h.loops[l]?=aa rec):
 ∃h',W.call 147 [.yield l,.ptr (.box bn) 0,.ptr (.box ba) 0] h=aa (.ret (.tuple []),h')/\h'.boxes[bc]?=aa [im (r:Nat)]/\h'.loops=h.loops/\∀h0:ak,Ext h0 h->h0.boxes.length<=bn->h0.boxes.length<=ba->h0.boxes.length<=bc->Ext h0 h':=by
 have kR:=aj.mk hR;have kI:=aj.mk hI;clear hR hI;refine gP rfl Tryz.func147 rfl ?_;refine br @PE ?_;refine cq (λm e h'=>∃(a c:Nat),m<=2147483647/\nf r m a c/\e.get 0=.yield l/\e.get 1=.ptr (.box bn) 0/\e.get 2=.ptr (.box ba) 0/\e.defers=[]/\h'.boxes[bn]?=aa [im (m:Nat)]/\h'.boxes[ba]?=aa [im (a:Nat)]/\h'.boxes[bc]?=aa [im (c:Nat)]/\h'.loops=h.loops/\∀h0:ak,Ext h0 h->h0.boxes.length<=bn->h0.boxes.length<=ba->h0.boxes.length<=bc->Ext h0 h') ?_ n _ _ ?_;rotate_left 1
 ·exact⟨a,c,hn,kI.out,by exact gR,by exact gR,by exact gR,by exact gR,AP,yV,CW,rfl,λ_ x _ _ _=>x⟩
 clear AP yV CW kI n a c hn;rintro m e H ⟨a,c,hm,hI,g0,g1,g2,hd,AP,yV,CW,Nw,hX⟩;have kI:=aj.mk hI;have kX:=aj.mk hX;have ln:=kQ AP;have la:=kQ yV;clear hX;by_cases h0:m=0
 ·subst h0;have hx:=hI.done;subst hx;unfold im at ln la;clear hI;refine br @PE ?_;exact⟨_,rfl,CW,Nw,kX.out⟩
 have jW:(0:Int)<((m:Nat):Int):=by omega
 have q1:∀(t:TypeId) (x y:Operand),cN al .and t x y (.v (.int .i64 (m:Nat))) (.v (.int .i64 1))=aa (.v (.int .i64 ((m%2:Nat):Int))):=λt x y=>ab0 ag;obtain⟨m1,m2,m3⟩:=mul_tmod hI.2.1 hI.2.1;have uk:H.loops[l]?=aa rec:=by rw[Nw];exact hl
 have rd:=kR.out a c (decide ((m%2:Nat)=1)) H hI.2.1 hI.1 uk CW;have Fp:nf r (m/2) (a * a%P) (if decide (m%2=1)=ah then c * a%P else c):=by
  rcases Ac m with ho|ho
  ·rw[ho];exact hI.even ho
  ·rw[ho];exact hI.Bu ho
 have kI2:=aj.mk Fp;have CZ:decide (((m%2:Nat):Int)=1)=decide (m%2=1):=by rw[decide_eq_decide];omega
 have ahM:=(aP.1 AP).1;have ahK:=(aP.1 yV).1;have ahL:=(aP.1 CW).1;clear hI Fp hl;generalize (if decide (m%2=1)=ah then c * a%P else c)=c2 at *
 generalize decide (m%2=1)=bt at *
 unfold im at *
 have la2:∀x,aI al Gt (H.put bc x) 3 (.ptr (.box ba) 0)=aa (.v (.int .i64 (a:Nat))):=λx=>kQ (by rw[cS h3];exact yV);have sa2:∀x n,ct al (H.put bc x) 3 (.ptr (.box ba) 0) (.v (.int .i64 n))=aa ((H.put bc x).put ba [.v (.int .i64 n)]):=λx n=>zG (by rw[cS h3];exact yV);have ln2:∀x y,aI al Gt ((H.put bc x).put ba y) 3 (.ptr (.box bn) 0)=aa (.v (.int .i64 (m:Nat))):=λx y=>kQ (by rw[cS h1,cS h2];exact AP);have sn2:∀x y n,ct al ((H.put bc x).put ba y) 3 (.ptr (.box bn) 0) (.v (.int .i64 n))=aa (((H.put bc x).put ba y).put bn [.v (.int .i64 n)]):=λx y n=>zG (by rw[cS h1,cS h2];exact AP);refine cY @PE @Aq @apX ?_;refine⟨m/2,by omega,a * a%P,c2,by omega,kI2.out,aQ,aQ,aQ,aQ,?_,?_,?_,Nw,λh0 x p1 p2 p3=>(((kX.out h0 x p1 p2 p3).fO p3 _).fO p2 _).fO p1 _⟩
 ·exact ev (by rw[mh,mh];exact ahM)
 ·rw[cS (Ne.symm h1)];exact ev (by rw[mh];exact ahK)
 ·rw[cS (Ne.symm h2),cS (Ne.symm h3)];exact ev ahL
def JQ{e:Env}{l p q t:Nat}{r:ij}{x y}(hp:r.params=#[p,q])(ht:r.tmps=e.tmps):(nx l r [x,y]).get t=if q=t then y else if p=t then x else e.get t:=by unfold nx;rw[hp,ht];have h1:=DH (e.tmps.set p x) q t y;have h2:=DH e.tmps p t x;show((e.tmps.set p x).set q y).get t=_;rw[h1,h2];rfl
def aqu(a n:Int)(h:ak):W.call 83 [im a,im n] h=aa (.ret (.func (.func 147) [] [.ptr (.box (h.boxes.length+1)) 0,.ptr (.box h.boxes.length) 0]),(h.push [im a]).push [im n]):=by have bx:∀n:Int,(AV.v (.int .i64 n)).b8=aa [.v (.int .i64 n)]:=λ_=>rfl;unfold im;refine cC rfl Tryz.func83 rfl ?_;exact sf @aoY @bL @cK
def agB(a n:Int)(h:ak):∃h',W.call 30 [im a,im n] h=aa (.ret (.tuple [im (fU a n),im (ma a)]),h')/\Ext h h':=by
 have ca:=KD a;have z3:=KH;have a3:=eM;unfold fU ma;by_cases ha:bE a=ah;rotate_left 1
 ·have mC:bE a=av:=by simpa using ha
  rw[aG ha,aG ha];rw[mC] at ca;unfold im at *
  refine gP rfl abn rfl ?_;refine bJ @PQ @zG @kQ (ar @Xu @cK) ?_;exact⟨_,rfl,.push _ _⟩
 rw[aF ha,aF ha];rw[ha] at ca;obtain⟨x,rfl,-,x1,x2⟩:=Aw ha;clear ha;have cl:=ai3 [n] .tight bh;rw[ai1] at cl;obtain⟨m,hm⟩:∃m:Nat,fmod n=m:=⟨(fmod n).toNat,(AI n).symm⟩;have FL:m<Q:=by have:=Mz n;rw[hm,dL] at this;exact this
 have he:bD (x:Int).toNat n=rK x m:=by unfold bD;rw[hm,dL,dL]
 rw[he];rw[hm] at cl;have bl:fC al 23 1 [(0,im n)]=aa (.list .tight 1 (ints [n])):=au;have bx:∀n:Int,(im n).b8=aa [im n]:=λ_=>rfl;have csq:=λH=>aqu (x:Nat) (m:Nat) H;have Dn:=nf.start (n:=m) x2 (oE FL aK);generalize rK x m=r at *
 clear he hm;have kS:=aj.mk (ar Dn (ar x2 (ar FL x1)));clear Dn x2 FL x1;unfold im at *
 refine gP rfl abn rfl ?_;refine bJ @PQ @zG @kQ (ar @Xu @cK) ?_;refine bG.gen λe he hd hp jO=>?_;have g4:e.get 4=.ptr (.box h.boxes.length) 0:=by rw[he];exact gS
 have g15:e.get 15=.func (.func 147) [] [.ptr (.box (h.boxes.length+1+1)) 0,.ptr (.box (h.boxes.length+1)) 0]:=by rw[he];exact gS
 have hdf:e.defers=[]:=by rw[hd];exact gS
 clear he hd hp jO;refine D7 (by rw[Ax];exact g15) λrec w1 w2 w3 w4 w5 w6=>?_;have hL:(((h.push [AV.v (.int .i64 1)]).push [AV.v (.int .i64 (x:Nat))]).push [AV.v (.int .i64 (m:Nat))]).loops.length=h.loops.length:=rfl;rw[hL];have PR:Rp h.loops.length h.boxes.length rec:=by
  intro s c b H hs hc hl hb;obtain⟨m1,m2,-⟩:=mul_tmod hc hs;have e1:((c:Nat):Int) * (s:Nat)=((c * s:Nat):Int):=(wK _ _).symm;have e3:((c * s:Nat):Int).tmod 2147483579=((c * s%P:Nat):Int):=nU (c * s) 2147483579;rw[e1] at m1 m2;have r1:∀t,(nx h.loops.length rec [im (s:Nat),.v (.bool b)]).get t=if 17=t then .v (.bool b) else if 16=t then im (s:Nat) else e.get t:=λt=>JQ w2 w1
  have fk:(H.busy h.loops.length rec).boxes[h.boxes.length]?=aa [im (c:Nat)]:=hb;have l1:=kQ fk;have jN:=hb;have s1:=λn=>zG (n:=n) fk;refine JS hl (by rw[w2];rfl) ?_;rw[w3];unfold im at *
  refine bG.gen λe2 eV gu mF Dj=>?_;have q16:e2.get 16=.v (.int .i64 (s:Nat)):=by rw[eV,r1];rfl
  have q17:e2.get 17=.v (.bool b):=by rw[eV,r1];rfl
  have q4:e2.get 4=.ptr (.box h.boxes.length) 0:=by rw[eV,r1];exact g4
  clear eV r1 g4 g15 cl csq ca bl;have eR:h.loops.length<H.loops.length:=(aP.1 hl).1;have iT:H.loops.set h.loops.length rec=H.loops:=by
   apply p8;intro k;rw[lR];split
   ·rename_i e;subst e;exact hl.symm
   ·rfl
  have zk:{rec with state:=LoopState.ready,pending:=aq}=rec:=by cases rec;cases w5;cases w6;rfl
  cases b with
  |true=>
   refine xd ?_;refine⟨aQ,rec,rfl,w5,?_⟩;refine bM @l1 @s1 ?_;refine⟨{rec with state:=.busy},?_,rfl,?_⟩
   ·show(H.loops.set h.loops.length _)[h.loops.length]?=_;simp[eR]
   ·show(H.put h.boxes.length _)=_;simp only[ak.put,ak.busy,Ch,zk,iT]
  |false=>
   refine xd ?_;refine⟨aQ,rec,rfl,w5,{rec with state:=.busy},?_,rfl,?_⟩
   ·show(H.loops.set h.loops.length _)[h.loops.length]?=_;simp[eR]
   ·have hq:H.put h.boxes.length [AV.v (Value.int IntKind.i64 (c:Nat))]=H:=rL jN;refine(show H.put h.boxes.length _=H from hq).trans ?_;simp only[ak.busy,Ch,zk,iT]
 have xl:∀{z:ij},((((h.push [AV.v (.int .i64 1)]).push [AV.v (.int .i64 (x:Nat))]).push [AV.v (.int .i64 (m:Nat))]).loop z).boxes[h.boxes.length]?=aa [im ((1:Nat):Int)]:=λ{z}=>bg (bg (a9 _ _));have jM:∀{z:ij},((((h.push [AV.v (.int .i64 1)]).push [AV.v (.int .i64 (x:Nat))]).push [AV.v (.int .i64 (m:Nat))]).loop z).boxes[h.boxes.length+1]?=aa [im (x:Nat)]:=λ{z}=>bg (mB (by rw[cK]));have fk:∀{z:ij},((((h.push [AV.v (.int .i64 1)]).push [AV.v (.int .i64 (x:Nat))]).push [AV.v (.int .i64 (m:Nat))]).loop z).boxes[h.boxes.length+1+1]?=aa [im (m:Nat)]:=λ{z}=>mB (by rw[cK,cK]);have iR:=@DI (((h.push [AV.v (.int .i64 1)]).push [AV.v (.int .i64 (x:Nat))]).push [AV.v (.int .i64 (m:Nat))]) rec;have FL:=kS.out.2.2.1;obtain⟨h',c1,c2,c3,c4⟩:=aqt h.loops.length (h.boxes.length+1+1) (h.boxes.length+1) h.boxes.length rec PR ag ag ag r m x 1 (by unfold Q at FL;omega) kS.out.1 _ fk jM xl iR;refine⟨_,h',c1,rec,by rw[c3];exact iR,by rw[w5];decide,.inl ⟨w6,?_⟩⟩;have hX:Ext h h':=c4 h ((((Ext.push h _).trans (Ext.push _ _)).trans (Ext.push _ _)).trans ((Fr.Bs (bn:=h.boxes.length+3) (l0:=h.loops.length) (n0:=h.tn) _ _).ext (by simp only[cK];omega) (aJ _) (aJ _))) ag ag (aJ _);have aA:h.boxes.length<h'.boxes.length:=(aP.1 c2).1;generalize hH:h'.eW h.loops.length {rec with state:=.exhausted}=H;have hb:H.boxes[h.boxes.length]?=aa [im (r:Nat)]:=by rw[<-hH];exact c2
 have hX2:Ext h H:=by rw[<-hH];exact((Fr.DM (bn:=h.boxes.length) (l0:=h.loops.length) (n0:=h.tn) hX (aJ _)).trans (.eW (aJ _) _)).ext (aJ _) (aJ _) (aJ _)
 clear c1 c2 c3 c4 hH iR xl jM fk PR w1 w2 w3 w4 w5 w6 hX aA;have l1:=kQ hb;unfold im at *
 have s1:=λn=>zG (n:=n) hb;have l2:∀y,aI al Gt (H.put h.boxes.length [.v (.int .i64 y)]) 3 (.ptr (.box h.boxes.length) 0)=aa (.v (.int .i64 y)):=λy=>kQ (ev (aP.1 hb).1);refine br @PQ ?_;exact⟨_,rfl,hX2.fO (aJ _) _⟩
abbrev aW(b:List UInt8):List (List AV):=b.map jJ
def Yh:Tryz.f220.results.toList=[.tmp 2]:=au
def wi:Tryz.f221.results.toList=[.tmp 4]:=au
def Yi:Tryz.f222.results.toList=[.tmp 8]:=au
def HT:gx al 5=aa av:=au
def rN:dm al 5=aa 1:=au
def S6(n)(h):mK al h 5 42 (.v (.int .u8 n))=aa (.v (.int .u32 (IntKind.u32.wrap n)),h):=au
def tg(n)(h):mK al h 3 179 (.v (.int .i64 n))=aa (.v (.int .u64 (IntKind.u64.wrap n)),h):=au
def jd(b:List UInt8):Nat->Nat
 |0=>0
 |i+1=>jd b i * 256+(di b i).toNat
def tM(b:UInt8):b.toNat<256:=b.toNat_lt
def RJ(b):∀i,jd b i<256^i
 |0=>Nat.zero_lt_one
 |i+1=>by have:=RJ b i;have:=tM (di b i);unfold jd;rw[Ad];omega
def abA(b):BitVec.ofNat 32 (jd b 4)=o6 b 0:=by unfold o6;refine congrArg (BitVec.ofNat 32) ?_;show(((0 * 256+(di b 0).toNat) * 256+(di b 1).toNat) * 256+(di b 2).toNat) * 256+(di b 3).toNat=((di b 0).toNat * 256+(di b 1).toNat) * 256 * 256+(di b 2).toNat * 256+(di b 3).toNat;omega
def or8{t}{x y}{n m}(hn:n<16777216)(hm:m<256):cN al .or t x y (aN (BitVec.ofNat 32 n<<<8)) (.v (.int .u32 (IntKind.u32.wrap (m:Nat))))=aa (aN (BitVec.ofNat 32 (n * 256+m))):=by
 have e1:AV.v (.int .u32 (IntKind.u32.wrap (m:Nat)))=aN (BitVec.ofNat 32 m):=by unfold aN;rw[wrap32,BitVec.toNat_ofNat];congr 2
 rw[e1,oz];congr 2;apply BitVec.eq_of_toNat_eq;rw[BitVec.toNat_or,BitVec.toNat_shiftLeft,BitVec.toNat_ofNat,BitVec.toNat_ofNat,BitVec.toNat_ofNat];have:n%2^32=n:=nb ag;rw[this];have h1:n<<<8=n * 256:=by rw[Ae]
 have h2:n<<<8%2^32=n<<<8:=nb ag;rw[h2,nb (ag:m<2^32),<-Nat.shiftLeft_add_eq_or_of_lt (ag:m<2^8),h1];exact(nb ag).symm
def apR{t}{x y}{u}:cN al .shl t x y (aN u) (.v (.int .u64 8))=aa (aN (u<<<8)):=qF (n:=8) aK
def aso(b:List UInt8)(x:AV)(h:ak)(s:dE 1 h x (aW b))(hb:4<=b.length):W.call 220 [x] h=aa (.ret (aN (o6 b 0)),h):=by
 have u28:=iO;have a5:=HT;have s5:=rN;obtain⟨y,y1,y2⟩:=s.slice (t:=28) (lo:=aq) (hi:=aa (.v (.int .i64 4))) (l:=0) (m:=4) aK u28 rN (.inr ⟨.i64,rfl,by simpa using hb⟩) (.inl ⟨rfl,rfl⟩) aK;have y3:=y2.len u28;rw[show((Lf 4 (aW b)).drop 0).length=4 by simp;omega] at y3;have kY:=aj.mk y2;clear s y2;refine cC rfl Tryz.func220 rfl ?_;refine nL @Yh ?_;refine cq (λm e h'=>∃i:Nat,i<=4/\m=4 - i/\e.get 6=y/\e.get 7=.v (.int .i64 (4:Nat))/\e.get 8=.v (.int .i64 i)/\e.get 2=aN (BitVec.ofNat 32 (jd b i))/\e.defers=[]/\h'=h) ?_ 4 _ _ ?_;rotate_left 1
 ·refine⟨0,cr _,rfl,?_,?_,?_,?_,?_,rfl⟩<;>(first|assumption|(exact gR))
 rintro m e h' ⟨i,hi,rfl,g6,g7,g8,g2,hd,rfl⟩;by_cases hc:i=4
 ·subst hc;rw[abA] at g2;exact iQ @Yh
 ·have aA:i<4:=by omega
  have fk:i<b.length:=by omega
  obtain⟨p,p1,p2,-⟩:=kY.out.index (G:=Gt) (t:=28) (i:=i) (row:=jJ (b[i])) aK u28 rN (by simp[aA,fk]);have p4:=p2 HT;have e1:(jJ b[i]).head?=aa (.v (.int .u8 (((di b i).toNat:Nat):Int))):=by unfold di;rw[dP,aO fk];rfl
  rw[e1] at p4;have l1:=RJ b i;have l2:jd b i<16777216:=mq l1 (by have:256^i<=256^3:=Nat.pow_le_pow_right aK ag;exact this);have l3:=tM (di b i);clear p2 e1 l1;refine MG @S6 @or8 @apR ?_;refine⟨4 - (i+1),by omega,i+1,by omega,rfl,aQ,aQ,?_,?_,aQ,aQ⟩
  ·rfl
  ·rfl
def v9(v:ez)(n)(hn:n<32):(v<<<(32 - n))|||(v>>>n)=NT.dz v n:=by unfold NT.dz;rw[BitVec.or_comm]
def anT(v:ez)(h:ak):W.call 221 [aN v,.v (.int .i64 (-2))] h=aa (.ret (aN (NT.dz v 2)),h):=by
 have c1:∀(t:TypeId) (x y:Operand),cN al .and t x y (.v (.int .u64 (IntKind.u64.wrap (-2)))) (.v (.int .u64 31))=aa (.v (.int .u64 30)):=λt x y=>by rw[rX];rfl
 have c2:∀(t:TypeId) (x y:Operand),cN al .shl t x y (aN v) (.v (.int .u64 30))=aa (aN (v<<<30)):=λt x y=>qF (n:=30) aK;have c3:∀(t:TypeId) (x y:Operand),cN al .shr t x y (aN v) (.v (.int .u64 (IntKind.u64.wrap (32 - 30))))=aa (aN (v>>>2)):=λt x y=>rM (n:=2) aK;have c4:=v9 v 2 aK;refine cC rfl wR rfl ?_;exact vv @wi @tg @oz
def anW(v:ez)(h:ak):W.call 221 [aN v,.v (.int .i64 (-6))] h=aa (.ret (aN (NT.dz v 6)),h):=by
 have c1:∀(t:TypeId) (x y:Operand),cN al .and t x y (.v (.int .u64 (IntKind.u64.wrap (-6)))) (.v (.int .u64 31))=aa (.v (.int .u64 26)):=λt x y=>by rw[rX];rfl
 have c2:∀(t:TypeId) (x y:Operand),cN al .shl t x y (aN v) (.v (.int .u64 26))=aa (aN (v<<<26)):=λt x y=>qF (n:=26) aK;have c3:∀(t:TypeId) (x y:Operand),cN al .shr t x y (aN v) (.v (.int .u64 (IntKind.u64.wrap (32 - 26))))=aa (aN (v>>>6)):=λt x y=>rM (n:=6) aK;have c4:=v9 v 6 aK;refine cC rfl wR rfl ?_;exact vv @wi @tg @oz
def anX(v:ez)(h:ak):W.call 221 [aN v,.v (.int .i64 (-7))] h=aa (.ret (aN (NT.dz v 7)),h):=by
 have c1:∀(t:TypeId) (x y:Operand),cN al .and t x y (.v (.int .u64 (IntKind.u64.wrap (-7)))) (.v (.int .u64 31))=aa (.v (.int .u64 25)):=λt x y=>by rw[rX];rfl
 have c2:∀(t:TypeId) (x y:Operand),cN al .shl t x y (aN v) (.v (.int .u64 25))=aa (aN (v<<<25)):=λt x y=>qF (n:=25) aK;have c3:∀(t:TypeId) (x y:Operand),cN al .shr t x y (aN v) (.v (.int .u64 (IntKind.u64.wrap (32 - 25))))=aa (aN (v>>>7)):=λt x y=>rM (n:=7) aK;have c4:=v9 v 7 aK;refine cC rfl wR rfl ?_;exact vv @wi @tg @oz
def anO(v:ez)(h:ak):W.call 221 [aN v,.v (.int .i64 (-11))] h=aa (.ret (aN (NT.dz v 11)),h):=by
 have c1:∀(t:TypeId) (x y:Operand),cN al .and t x y (.v (.int .u64 (IntKind.u64.wrap (-11)))) (.v (.int .u64 31))=aa (.v (.int .u64 21)):=λt x y=>by rw[rX];rfl
 have c2:∀(t:TypeId) (x y:Operand),cN al .shl t x y (aN v) (.v (.int .u64 21))=aa (aN (v<<<21)):=λt x y=>qF (n:=21) aK;have c3:∀(t:TypeId) (x y:Operand),cN al .shr t x y (aN v) (.v (.int .u64 (IntKind.u64.wrap (32 - 21))))=aa (aN (v>>>11)):=λt x y=>rM (n:=11) aK;have c4:=v9 v 11 aK;refine cC rfl wR rfl ?_;exact vv @wi @tg @oz
def anP(v:ez)(h:ak):W.call 221 [aN v,.v (.int .i64 (-13))] h=aa (.ret (aN (NT.dz v 13)),h):=by
 have c1:∀(t:TypeId) (x y:Operand),cN al .and t x y (.v (.int .u64 (IntKind.u64.wrap (-13)))) (.v (.int .u64 31))=aa (.v (.int .u64 19)):=λt x y=>by rw[rX];rfl
 have c2:∀(t:TypeId) (x y:Operand),cN al .shl t x y (aN v) (.v (.int .u64 19))=aa (aN (v<<<19)):=λt x y=>qF (n:=19) aK;have c3:∀(t:TypeId) (x y:Operand),cN al .shr t x y (aN v) (.v (.int .u64 (IntKind.u64.wrap (32 - 19))))=aa (aN (v>>>13)):=λt x y=>rM (n:=13) aK;have c4:=v9 v 13 aK;refine cC rfl wR rfl ?_;exact vv @wi @tg @oz
def anQ(v:ez)(h:ak):W.call 221 [aN v,.v (.int .i64 (-17))] h=aa (.ret (aN (NT.dz v 17)),h):=by
 have c1:∀(t:TypeId) (x y:Operand),cN al .and t x y (.v (.int .u64 (IntKind.u64.wrap (-17)))) (.v (.int .u64 31))=aa (.v (.int .u64 15)):=λt x y=>by rw[rX];rfl
 have c2:∀(t:TypeId) (x y:Operand),cN al .shl t x y (aN v) (.v (.int .u64 15))=aa (aN (v<<<15)):=λt x y=>qF (n:=15) aK;have c3:∀(t:TypeId) (x y:Operand),cN al .shr t x y (aN v) (.v (.int .u64 (IntKind.u64.wrap (32 - 15))))=aa (aN (v>>>17)):=λt x y=>rM (n:=17) aK;have c4:=v9 v 17 aK;refine cC rfl wR rfl ?_;exact vv @wi @tg @oz
def anR(v:ez)(h:ak):W.call 221 [aN v,.v (.int .i64 (-18))] h=aa (.ret (aN (NT.dz v 18)),h):=by
 have c1:∀(t:TypeId) (x y:Operand),cN al .and t x y (.v (.int .u64 (IntKind.u64.wrap (-18)))) (.v (.int .u64 31))=aa (.v (.int .u64 14)):=λt x y=>by rw[rX];rfl
 have c2:∀(t:TypeId) (x y:Operand),cN al .shl t x y (aN v) (.v (.int .u64 14))=aa (aN (v<<<14)):=λt x y=>qF (n:=14) aK;have c3:∀(t:TypeId) (x y:Operand),cN al .shr t x y (aN v) (.v (.int .u64 (IntKind.u64.wrap (32 - 14))))=aa (aN (v>>>18)):=λt x y=>rM (n:=18) aK;have c4:=v9 v 18 aK;refine cC rfl wR rfl ?_;exact vv @wi @tg @oz
def anS(v:ez)(h:ak):W.call 221 [aN v,.v (.int .i64 (-19))] h=aa (.ret (aN (NT.dz v 19)),h):=by
 have c1:∀(t:TypeId) (x y:Operand),cN al .and t x y (.v (.int .u64 (IntKind.u64.wrap (-19)))) (.v (.int .u64 31))=aa (.v (.int .u64 13)):=λt x y=>by rw[rX];rfl
 have c2:∀(t:TypeId) (x y:Operand),cN al .shl t x y (aN v) (.v (.int .u64 13))=aa (aN (v<<<13)):=λt x y=>qF (n:=13) aK;have c3:∀(t:TypeId) (x y:Operand),cN al .shr t x y (aN v) (.v (.int .u64 (IntKind.u64.wrap (32 - 13))))=aa (aN (v>>>19)):=λt x y=>rM (n:=19) aK;have c4:=v9 v 19 aK;refine cC rfl wR rfl ?_;exact vv @wi @tg @oz
def anU(v:ez)(h:ak):W.call 221 [aN v,.v (.int .i64 (-22))] h=aa (.ret (aN (NT.dz v 22)),h):=by
 have c1:∀(t:TypeId) (x y:Operand),cN al .and t x y (.v (.int .u64 (IntKind.u64.wrap (-22)))) (.v (.int .u64 31))=aa (.v (.int .u64 10)):=λt x y=>by rw[rX];rfl
 have c2:∀(t:TypeId) (x y:Operand),cN al .shl t x y (aN v) (.v (.int .u64 10))=aa (aN (v<<<10)):=λt x y=>qF (n:=10) aK;have c3:∀(t:TypeId) (x y:Operand),cN al .shr t x y (aN v) (.v (.int .u64 (IntKind.u64.wrap (32 - 10))))=aa (aN (v>>>22)):=λt x y=>rM (n:=22) aK;have c4:=v9 v 22 aK;refine cC rfl wR rfl ?_;exact vv @wi @tg @oz
def anV(v:ez)(h:ak):W.call 221 [aN v,.v (.int .i64 (-25))] h=aa (.ret (aN (NT.dz v 25)),h):=by
 have c1:∀(t:TypeId) (x y:Operand),cN al .and t x y (.v (.int .u64 (IntKind.u64.wrap (-25)))) (.v (.int .u64 31))=aa (.v (.int .u64 7)):=λt x y=>by rw[rX];rfl
 have c2:∀(t:TypeId) (x y:Operand),cN al .shl t x y (aN v) (.v (.int .u64 7))=aa (aN (v<<<7)):=λt x y=>qF (n:=7) aK;have c3:∀(t:TypeId) (x y:Operand),cN al .shr t x y (aN v) (.v (.int .u64 (IntKind.u64.wrap (32 - 7))))=aa (aN (v>>>25)):=λt x y=>rM (n:=25) aK;have c4:=v9 v 25 aK;refine cC rfl wR rfl ?_;exact vv @wi @tg @oz
def anZ(v:ez)(h:ak):W.call 222 [aN v,.v (.int .i64 6),.v (.int .i64 11),.v (.int .i64 25)] h=aa (.ret (aN (NT.dz v 6^^^NT.dz v 11^^^NT.dz v 25)),h):=by
 have w1:IntKind.i64.wrap (0 - 6)= -6:=by decide
 have w2:IntKind.i64.wrap (0 - 11)= -11:=by decide
 have w3:IntKind.i64.wrap (0 - 25)= -25:=by decide
 have c1:=anW v;have c2:=anO v;have c3:=anV v;refine cC rfl abm rfl ?_;exact TV @Yi @nV
def anY(v:ez)(h:ak):W.call 222 [aN v,.v (.int .i64 2),.v (.int .i64 13),.v (.int .i64 22)] h=aa (.ret (aN (NT.dz v 2^^^NT.dz v 13^^^NT.dz v 22)),h):=by
 have w1:IntKind.i64.wrap (0 - 2)= -2:=by decide
 have w2:IntKind.i64.wrap (0 - 13)= -13:=by decide
 have w3:IntKind.i64.wrap (0 - 22)= -22:=by decide
 have c1:=anT v;have c2:=anP v;have c3:=anU v;refine cC rfl abm rfl ?_;exact TV @Yi @nV
def qD:Tryz.f204.results.toList=[]:=au
def EY:gx al 42=aa av:=au
def wC:dm al 42=aa 1:=au
def HS:gx al 230=aa ah:=au
def Ef:dm al 230=aa 8:=au
def KG:(iN al 242).bind AV.b8=aa (aY 64 (aN 0#32)):=au
def ZC:(iN al 230).bind AV.b8=aa (aY 8 (aN 0#32)):=au
abbrev bQ(l:List ez):List AV:=l.map aN
def qt{b n}{k}(hn:n<64):dy al 242 (.ptr (.box b) 0) (.v (.int k (n:Nat)))=aa (.ptr (.box b) n):=by have hu:=abq;unfold dy;rw[hu];simp only[wC];rw[aF ⟨ag,by omega⟩];simp
def aiI{g n}{k}(hn:n<64):dy al 242 (.ptr (.eD g) 0) (.v (.int k (n:Nat)))=aa (.ptr (.eD g) n):=by have hu:=abq;unfold dy;rw[hu];simp only[wC];rw[aF ⟨ag,by omega⟩];simp
def xO{b n}{k}(hn:n<8):dy al 230 (.ptr (.box b) 0) (.v (.int k (n:Nat)))=aa (.ptr (.box b) n):=by have hu:=abp;unfold dy;rw[hu];simp only[wC];rw[aF ⟨ag,by omega⟩];simp
def qu{H}{b n}{l}(hb:H.boxes[b]?=aa (bQ l))(hn:n<l.length):aI al Gt H 42 (.ptr (.box b) n)=aa (aN (cQ l n)):=by rw[lP EY hb,HH,cQ,dP,dW,aO hn];rfl
def G9{H}{b n}{l}{x:ez}(hb:H.boxes[b]?=aa (bQ l))(hn:n<l.length):ct al H 42 (.ptr (.box b) n) (aN x)=aa (H.put b (bQ (l.set n x))):=by
 have h1:n+1<=(bQ l).length:=by rw[bu];omega
 rw[gL (xs:=[aN x]) rfl wC hb rfl h1];congr 2;unfold eE bQ;rw[zX,aF hn];simp
def aiV{H}{t}(ht:t<64):aI al Gt H 42 (.ptr (.eD 1) t)=aa (aN (xP t)):=by
 have hl:t<Dz.length:=ht;unfold aI;rw[EY];show((Gk.drop t).head?)=_;rw[HH];unfold Gk xP;rw[dW,dP,aO hl];show aa _=aa (aN (BitVec.ofNat 32 Dz[t]));unfold aN;rw[BitVec.toNat_ofNat];have:∀x∈Dz,x<2^32:=by decide
 rw[nb (this _ (iD hl))]
def D9(b):∀n,(gY b n).length=n
 |0=>rfl|n+1=>by rw[gY,dk,D9 b n];rfl
def wl(b:List UInt8)(i:Nat):List ez:=gY b i++aY (64 - i) 0#32
def tN{b}{i}(hi:i<=64):(wl b i).length=64:=by unfold wl;rw[dk,D9,lT];omega
def Zz{b}{i k}(hk:k<i):cQ (wl b i) k=cQ (gY b i) k:=by unfold wl cQ;rw[dP,qM (by rw[D9];exact hk),dP]
def KE{b}{i}{x}(hi:i<64)(hx:x=if i<16 then o6 b (4 * i) else DJ (gY b i) i):(wl b i).set i x=wl b (i+1):=by subst hx;unfold wl;have h1:=D9 b i;obtain⟨k,hk⟩:∃k,64 - i=k+1:=⟨63 - i,by omega⟩;rw[Ld _ _ ag,h1,s9,hk,zW,Rc,(ag:64 - (i+1)=k),gY,rR];rfl
def ZA(b):bQ (wl b 0)=aY 64 (aN 0#32):=by show List.map aN ([]++aY 64 0#32)=_;rw[lV,wO]
def QF(b):wl b 64=gY b 64:=by unfold wl;simp
def asm(b)(k):o6 (b.drop k) 0=o6 b k:=by unfold o6 di;simp only[dP,nZ,zZ,oF]
def an0(w v)(t)(a b c d e f g i)(hv:v=[a,b,c,d,e,f,g,i]):GC w v t=
 [i+(NT.dz e 6^^^NT.dz e 11^^^NT.dz e 25)+(g^^^(e&&&(f^^^g)))+xP t+cQ w t+((NT.dz a 2^^^NT.dz a 13^^^NT.dz a 22)+((a&&&b)|||(c&&&(a|||b)))),
  a,b,c,d+(i+(NT.dz e 6^^^NT.dz e 11^^^NT.dz e 25)+(g^^^(e&&&(f^^^g)))+xP t+cQ w t),e,f,g]:=by
 subst hv;rw[ad5,ajC];rfl
def eight{l:List ez}(h:l.length=8):∃a b c d e f g i,l=[a,b,c,d,e,f,g,i]:=by
 match l,h with
 | [a,b,c,d,e,f,g,i],_=>exact⟨a,b,c,d,e,f,g,i,rfl⟩
def vF(s:List ez)(b:List UInt8)(t:Nat):List ez:=(bO t).foldl (GC (gY b 64)) s
def QC(s)(b)(t):vF s b (t+1)=GC (gY b 64) (vF s b t) t:=by unfold vF;rw[ob,nY];rfl
def QB{s}(b)(hs:s.length=8):∀t,(vF s b t).length=8
 |0=>hs
 |t+1=>by rw[QC];rfl
def yg(s v:List ez)(i:Nat):List ez:=EJ (·+·) (s.take i) (v.take i)++s.drop i
def asO{s v}(hs:s.length=8)(hv:v.length=8){i}(hi:i<=8):(yg s v i).length=8:=by unfold yg;simp;omega
def asN{s v}(hs:s.length=8)(hv:v.length=8){i}(hi:i<8):cQ (yg s v i) i=cQ s i:=by unfold yg cQ;rw[dP,yu (by simp;omega),nZ,dP];congr 2;simp;omega
def asP{s v}(hs:s.length=8)(hv:v.length=8){i}(hi:i<8):(yg s v i).set i (cQ s i+cQ v i)=yg s v (i+1):=by
 obtain⟨a,b,c,d,e,f,g,j,rfl⟩:=eight hs;obtain⟨a',b',c',d',e',f',g',j',rfl⟩:=eight hv;have:i=0∨i=1∨i=2∨i=3∨i=4∨i=5∨i=6∨i=7:=by omega
 rcases this with rfl|rfl|rfl|rfl|rfl|rfl|rfl|rfl<;>rfl
def asM{s b}(hs:s.length=8)(hv:b.length=8):yg s b 8=EJ (·+·) s b:=by unfold yg;rw[gm ag,gm ag,pc ag,jH]
end Go.Proofs.YtnfciiiohoafaaaGreatDoor
end
section
namespace Go.AE
section
variable {b n0:Nat} {h h':ak}
def fx.fO(m:fx b n0 h h'){c:Nat}(hc:h.boxes.length<=c)(cs:List AV):fx b n0 h (h'.put c cs):=by refine⟨λd ds hd hb=>?_,by rw[mh];exact m.len,m.loop,m.tn,m.dead,m.ok⟩;have aA:d<h.boxes.length:=(aP.1 hb).1;rw[cS ag];exact m.box d ds hd hb
def fx.push(m:fx b n0 h h')(cs:List AV):fx b n0 h (h'.push cs):=
 ⟨λd ds hd hb=>bg (m.box d ds hd hb),by rw[cK];exact Nat.le_succ_of_le m.len,m.loop,m.tn,m.dead,m.ok⟩
end
def fx.sV{b n0 n1}{h h'}(m:fx b n1 h h')(hn:n0<=n1):fx b n0 h h':=⟨m.box,m.len,m.loop,m.tn,λk hk hd=>m.dead k (mq hk hn) hd,m.ok⟩
def dj.mut{b n0 n1}{h h'}{k}(hk:dj n0 h k)(m:fx b n1 h h')(hn:h.tn<=n1):dj n0 h' k:=by
 rcases hk with q|q|⟨z,q,q2,q3⟩
 ·exact .inl q
 ·exact .inr (.inl q)
 ·refine .inr (.inr ⟨z,q,q2,?_⟩);unfold alive at q3 ⊢;simp only[bC,decide_eq_true_eq,yk,List.contains_eq_mem,decide_eq_false_iff_not] at q3 ⊢;exact⟨mq q3.1 m.tn,λhd=>q3.2 (m.dead z (mq q3.1 hn) hd)⟩
end Go.AE
end
section
namespace Go.Proofs.YtnfciiiohoafaaaGreatDoor
open Go.AE Go.NT
def wu{t}{x y}{u}:cN al .shr t x y (aN u) (.v (.int .u64 3))=aa (aN (u>>>3)):=rM (n:=3) aK
def wq{t}{x y}{u}:cN al .shr t x y (aN u) (.v (.int .u64 10))=aa (aN (u>>>10)):=rM (n:=10) aK
def Ic{s}(hs:s.length=8):(AV.agg (bQ s)).b8=aa (bQ s):=by obtain⟨a,b,c,d,e,f,g,j,rfl⟩:=eight hs;rfl
def QD(n):bQ (aY n 0#32)=aY n (aN 0#32):=by simp[bQ]
def ql{R}{c}{e}{h}{I}{m}{Q0}(hq:∀Q,bG R c e h (Br I m Q)):bG R c e h (Br I m Q0):=hq Q0
def JJ{h:ak}{b}{xs ys}:(h.put b xs).put b ys=h.put b ys:=by unfold ak.put;simp only[Ch]
def ldp{H:ak}{b k}{cs}(hb:b<H.boxes.length):aI al Gt (H.put b cs) 42 (.ptr (.box b) k)=(cs.drop k).head?:=lP EY (ev hb)
def Y8{H:ak}{b k}{cs}{x:ez}(hb:b<H.boxes.length)(hk:k+1<=cs.length):ct al (H.put b cs) 42 (.ptr (.box b) k) (aN x)=aa (H.put b (cs.set k (aN x))):=by rw[gL (xs:=[aN x]) rfl wC (ev hb) rfl hk,JJ];congr 2;unfold eE;rw[zX,aF (show k<cs.length from hk)];simp
def ap8{b}:gC al 230 (.ptr (.box b) 0) (aa (.v (.int .i64 1))) aq aq=aa (.arr b 1 7 7):=au
def ap9{b}:gC al 230 (.ptr (.box b) 0) aq (aa (.v (.int .i64 7))) aq=aa (.arr b 0 7 8):=au
def aeL{H}{b}{a0 a1 a2 a3 a4 a5 a6 a7}(hb:H.boxes[b]?=aa [a0,a1,a2,a3,a4,a5,a6,a7]):yI al H #[43,43] (.arr b 1 7 7) (.arr b 0 7 8)=aa (.v (.int .i64 7),H.put b [a0,a0,a1,a2,a3,a4,a5,a6]):=by
 have hn:me H 1 (.arr b 0 7 8)=aa [[a0],[a1],[a2],[a3],[a4],[a5],[a6]]:=by show rowsOf H 1 (.arr b 0 7 8)=_;unfold rowsOf;simp only[hb];rfl
 have hi:∃i,al.info? 42=aa i/\i.size=1:=by
  have ui:=wC;unfold dm at ui;cases hq:al.info? 42 with
  |none=>rw[hq] at ui;cases ui
  |some i=>rw[hq] at ui;exact⟨i,rfl,by simpa using ui⟩
 obtain⟨i,h1,h2⟩:=hi;have hu:((#[43,43]:Array Nat)[0]?).bind al.underlying=aa (.slice 42):=au;unfold yI;rw[hu];simp only[h1,h2,hn,hb];rfl
def Lz(s:List ez)(b:List UInt8)(sb:Nat)(x:AV)(h:ak)(hs:s.length=8)(hb:64<=b.length)(jP:h.boxes[sb]?=aa (bQ s))
 (hx:∀H,fx sb h.tn h H->dE 1 H x (aW b)):
 ∃h',W.call 204 [.ptr (.box sb) 0,x] h=aa (.ret (.tuple []),h')/\h'.boxes[sb]?=aa (bQ (vj s b))/\fx sb h.tn h h':=by
 have kX:=aj.mk hx;clear hx;have atq:=(aP.1 jP).1;have kz:=aj.mk (ZA b);have z242:=KG;refine gP rfl Tryz.func204 rfl ?_
 repeat' (first|simp(maxSteps:=999999)(disch:=first|exact dZ|fail)only[gW,reduceIte,aX,aR,qD,cK, *]|refine dX ?_ ?_<;>(intro _;try omega))
 refine cq (λm e H=>∃i:Nat,i<=16/\m=16 - i/\e.get 0=.ptr (.box sb) 0/\e.get 1=x/\e.get 4=.ptr (.box h.boxes.length) 0/\e.get 14=.v (.int .i64 i)/\e.defers=[]/\H.boxes[h.boxes.length]?=aa (bQ (wl b i))/\H.boxes[sb]?=aa (bQ s)/\fx sb h.tn h H) ?_ 16 _ _ ?_;rotate_left 1
 ·refine⟨0,cr _,rfl,?_,?_,?_,?_,?_,?_,bg jP,(fx.refl _ _ _).push _⟩
  iterate 5 (first|assumption|(exact gR))
  rw[kz.out];exact a9 _ _
 clear z242 kz;rintro m e H ⟨i,hi,rfl,g0,g1,g4,g14,hd,hw,mc,hM⟩;have kM:=aj.mk hM;have uk:=hM.len;clear hM;by_cases hc:i=16;rotate_left 1
 ·refine ql λQ=>?_;have aA:i<16:=by omega
  have rD:=kX.out H kM.out;obtain⟨y,y1,y2⟩:=rD.slice (t:=28) (lo:=aa (.v (.int .i64 ((4 * i:Nat):Int)))) (hi:=aq) (l:=4 * i) (m:=b.length) aK iO rN (.inl ⟨rfl,by rw[bu]⟩) (.inr ⟨.i64,rfl⟩) ag;have y3:dE 1 H y (aW (b.drop (4 * i))):=by have e:(Lf b.length (aW b)).drop (4 * i)=aW (b.drop (4 * i)):=(by rw[gm (by rw[bu];exact aJ _),<-aaE]);rw[<-e];exact y2
  have cw:=aso _ y H y3 (by rw[gE];omega);rw[asm] at cw;have e4:IntKind.i64.wrap (4 * ((i:Nat):Int))=((4 * i:Nat):Int):=by rw[gf ag ag];omega
  have st:=λz=>G9 (x:=z) hw (n:=i) (by rw[tN ag];omega);have bZ:=λz hz=>KE (b:=b) (i:=i) (x:=z) ag hz;have Dm:=bZ (o6 b (4 * i)) (by rw[aF aA]);have kst:=aj.mk Dm;have jQ:=(aP.1 hw).1;have ks:=aj.mk mc;clear bZ Dm rD y2 y3 hw mc jP;have ix:=qt (b:=h.boxes.length) (n:=i) (k:=.i64) ag
  repeat' (first|simp(maxSteps:=999999)(disch:=first|exact dZ|fail)only[gW,reduceIte,aX,aR,qD, *]|refine dX ?_ ?_<;>(intro _;try omega))
  refine⟨16 - (i+1),by omega,i+1,by omega,rfl,aQ,aQ,aQ,rfl,aQ,?_,?_,kM.out.fO (aJ _) _⟩
  ·rw[kst.out];exact ev jQ
  ·rw[cS ag];exact ks.out
 subst hc;have kw:=aj.mk hw;have ks:=aj.mk mc;clear hw mc jP
 repeat' (first|simp(maxSteps:=999999)(disch:=first|exact dZ|fail)only[gW,reduceIte,aX,aR,qD, *]|refine dX ?_ ?_<;>(intro _;try omega))
 refine cq (λm e H=>∃i:Nat,16<=i/\i<=64/\m=64 - i/\e.get 0=.ptr (.box sb) 0/\e.get 4=.ptr (.box h.boxes.length) 0/\e.get 6=.v (.int .i64 i)/\e.defers=[]/\H.boxes[h.boxes.length]?=aa (bQ (wl b i))/\H.boxes[sb]?=aa (bQ s)/\fx sb h.tn h H) ?_ 48 _ _ ?_;rotate_left 1
 ·refine⟨16,by decide,by decide,rfl,?_,?_,?_,?_,kw.out,ks.out,kM.out⟩<;>(first|assumption|(exact gR))
 clear kw ks kM g0 g1 g4 g14 hd uk hi;rintro m e H ⟨i,Ng,hi,rfl,g0,g4,g6,hd,hw,mc,hM⟩;have kM:=aj.mk hM;have uk:=hM.len;clear hM;by_cases hc:i=64;rotate_left 1
 ·refine ql λQ=>?_;have l0:=qu hw (n:=i - 16) (by rw[tN hi];omega);have l1:=qu hw (n:=i - 15) (by rw[tN hi];omega);have l2:=qu hw (n:=i - 7) (by rw[tN hi];omega);have l3:=qu hw (n:=i - 2) (by rw[tN hi];omega);rw[Zz ag] at l0 l1 l2 l3;have i0:=qt (b:=h.boxes.length) (n:=i - 16) (k:=.i64) ag;have i1:=qt (b:=h.boxes.length) (n:=i - 15) (k:=.i64) ag;have i2:=qt (b:=h.boxes.length) (n:=i - 7) (k:=.i64) ag;have i3:=qt (b:=h.boxes.length) (n:=i - 2) (k:=.i64) ag;have i4:=qt (b:=h.boxes.length) (n:=i) (k:=.i64) ag;have e0:IntKind.i64.wrap (((i:Nat):Int) - 16)=((i - 16:Nat):Int):=by rw[gf ag ag];omega
  have e1:IntKind.i64.wrap (((i:Nat):Int) - 15)=((i - 15:Nat):Int):=by rw[gf ag ag];omega
  have e2:IntKind.i64.wrap (((i:Nat):Int) - 7)=((i - 7:Nat):Int):=by rw[gf ag ag];omega
  have e3:IntKind.i64.wrap (((i:Nat):Int) - 2)=((i - 2:Nat):Int):=by rw[gf ag ag];omega
  have st:=λz=>G9 (x:=z) hw (n:=i) (by rw[tN hi];omega);have Dm:=KE (b:=b) (i:=i) (x:=DJ (gY b i) i) ag (by rw[aG ag]);unfold DJ at Dm;have kst:=aj.mk Dm;have r7:=λH=>anX (cQ (gY b i) (i - 15)) H;have r18:=λH=>anR (cQ (gY b i) (i - 15)) H;have r17:=λH=>anQ (cQ (gY b i) (i - 2)) H;have r19:=λH=>anS (cQ (gY b i) (i - 2)) H;have kw:=aj.mk hw;have ks:=aj.mk mc;clear Dm hw mc
  repeat' (first|simp(maxSteps:=999999)(disch:=first|exact dZ|fail)only[gW,reduceIte,aX,aR,qD,nV,nI,wu,wq, *]|refine dX ?_ ?_<;>(intro _;try omega))
  refine tK au ?_
  repeat' (first|simp(maxSteps:=999999)(disch:=first|exact dZ|fail)only[gW,reduceIte,aX,aR,qD,nV,nI,wu,wq, *]|refine dX ?_ ?_<;>(intro _;try omega))
  refine P4 [6,8,20,22] [] au ?_ (λp hp=>nomatch hp) ?_
  ·intro k hk;simp only[gO,List.not_mem_nil,or_false] at hk;rcases hk with rfl|rfl|rfl|rfl
   ·refine Cz (x:=aN (NT.dz (cQ (gY b i) (i - 15)) 7)) rfl rfl ?_ ?_
    ·simp only[hJ,fB]
     repeat' (first|simp(maxSteps:=999999)(disch:=first|exact dZ|fail)only[gW,reduceIte,aX,aR, *]|refine dX ?_ ?_<;>(intro _;try omega))
     exact⟨by trivial,λ_=>by trivial⟩
    ·repeat' (first|simp(maxSteps:=999999)(disch:=first|exact dZ|fail)only[gW,reduceIte,aX,aR,nV,nI,wu,wq, *]|refine dX ?_ ?_<;>(intro _;try omega))
   ·refine Cz (x:=aN (NT.dz (cQ (gY b i) (i - 15)) 18)) rfl rfl ?_ ?_
    ·simp only[hJ,fB]
     repeat' (first|simp(maxSteps:=999999)(disch:=first|exact dZ|fail)only[gW,reduceIte,aX,aR, *]|refine dX ?_ ?_<;>(intro _;try omega))
     exact⟨by trivial,λ_=>by trivial⟩
    ·repeat' (first|simp(maxSteps:=999999)(disch:=first|exact dZ|fail)only[gW,reduceIte,aX,aR,nV,nI,wu,wq, *]|refine dX ?_ ?_<;>(intro _;try omega))
   ·refine Cz (x:=aN (NT.dz (cQ (gY b i) (i - 2)) 17)) rfl rfl ?_ ?_
    ·simp only[hJ,fB]
     repeat' (first|simp(maxSteps:=999999)(disch:=first|exact dZ|fail)only[gW,reduceIte,aX,aR,nV,nI,wu,wq, *]|refine dX ?_ ?_<;>(intro _;try omega))
     exact⟨by trivial,λ_=>by trivial⟩
    ·repeat' (first|simp(maxSteps:=999999)(disch:=first|exact dZ|fail)only[gW,reduceIte,aX,aR,nV,nI,wu,wq, *]|refine dX ?_ ?_<;>(intro _;try omega))
   ·refine Cz (x:=aN (NT.dz (cQ (gY b i) (i - 2)) 19)) rfl rfl ?_ ?_
    ·simp only[hJ,fB]
     repeat' (first|simp(maxSteps:=999999)(disch:=first|exact dZ|fail)only[gW,reduceIte,aX,aR,nV,nI,wu,wq, *]|refine dX ?_ ?_<;>(intro _;try omega))
     exact⟨by trivial,λ_=>by trivial⟩
    ·repeat' (first|simp(maxSteps:=999999)(disch:=first|exact dZ|fail)only[gW,reduceIte,aX,aR,nV,nI,wu,wq, *]|refine dX ?_ ?_<;>(intro _;try omega))
  repeat' (first|simp(maxSteps:=999999)(disch:=first|exact dZ|fail)only[gW,reduceIte,aX,aR,qD,nV,nI,wu,wq, *]|refine dX ?_ ?_<;>(intro _;try omega))
  refine⟨64 - (i+1),by omega,i+1,by omega,by omega,rfl,aQ,aQ,rfl,aQ,?_,?_,kM.out.fO (aJ _) _⟩
  ·rw[kst.out];exact ev (aP.1 kw.out).1
  ·rw[cS ag];exact ks.out
 subst hc;rw[QF] at hw;have a230:=HS;have s230:=Ef;have lds:aI al Gt H 230 (.ptr (.box sb) 0)=aa (.agg (bQ s)):=by
  have h8:(bQ s).length=8:=by rw[bu];exact hs
  rw[ja HS Ef mc (by rw[h8];exact aJ _),iC,gm (by rw[h8];exact aJ _)]
 have cs8:(AV.agg (bQ s)).b8=aa (bQ s):=Ic hs;have zz:(iN al 230).bind AV.b8=aa (bQ (aY 8 0#32)):=by rw[QD];exact ZC
 have spz:∀H:ak,ct al (H.push (bQ (aY 8 0#32))) 230 (.ptr (.box H.boxes.length) 0) (.agg (bQ s))=aa (H.push (bQ s)):=λH=>lq (Ic hs) Ef (by rw[bu];exact hs) (by rw[bu];rfl);have jQ:=(aP.1 hw).1;have kw:=aj.mk hw;have ks:=aj.mk mc;clear hw mc;have hM:=kM.out
 repeat' (first|simp(maxSteps:=999999)(disch:=first|exact dZ|fail)only[gW,reduceIte,aX,aR,qD, *]|refine dX ?_ ?_<;>(intro _;try omega))
 refine cq (λm e H2=>∃i:Nat,i<=64/\m=64 - i/\e.get 0=.ptr (.box sb) 0/\e.get 4=.ptr (.box h.boxes.length) 0/\e.get 9=.ptr (.box H.boxes.length) 0/\e.get 69=.v (.int .i64 i)/\e.defers=[]/\H2.boxes[h.boxes.length]?=aa (bQ (gY b 64))/\H2.boxes[sb]?=aa (bQ s)/\H2.boxes[H.boxes.length]?=aa (bQ (vF s b i))/\fx sb h.tn h H2) ?_ 64 _ _ ?_;rotate_left 1
 ·refine⟨0,by decide,rfl,?_,?_,?_,?_,?_,bg kw.out,bg ks.out,a9 _ _,kM.out.push _⟩<;>(first|assumption|(exact gR))
 clear kw ks kM g0 g4 g6 hd lds cs8 zz spz hi Ng hM;have hHL:h.boxes.length<H.boxes.length:=jQ;generalize hvb:H.boxes.length=vb at *
 clear hvb jQ uk;rintro m e H ⟨i,hi,rfl,g0,g4,g9,g69,hd,hw,mc,hv,hM⟩;have kM:=aj.mk hM;have uk:=hM.len;clear hM;by_cases hc:i=64;rotate_left 1
 ·refine ql λQ=>?_;have aA:i<64:=by omega
  have lw:=qu hw (n:=i) (by rw[D9];exact aA);have lk:=λH=>aiV (H:=H) aA;have iw:=qt (b:=h.boxes.length) (n:=i) (k:=.i64) aA;have ik:=aiI (g:=1) (n:=i) (k:=.i64) aA;have kR:=aj.mk (QC s b i);obtain⟨v0,v1,v2,v3,v4,v5,v6,v7,Ob⟩:=eight (QB b hs i);have kE:=aj.mk (an0 (gY b 64) _ i _ _ _ _ _ _ _ _ Ob);rw[Ob] at hv;have r1:=λH=>anZ v4 H;have r2:=λH=>anY v0 H;have pP:H.boxes[vb]?=aa [aN v0,aN v1,aN v2,aN v3,aN v4,aN v5,aN v6,aN v7]:=hv;have kw:=aj.mk hw;have ks:=aj.mk mc;clear hw mc hv Ob;have j0:dy al 230 (.ptr (.box vb) 0) (.v (.int .i64 0))=aa (.ptr (.box vb) 0):=xO (n:=0) aK;have j1:dy al 230 (.ptr (.box vb) 0) (.v (.int .i64 1))=aa (.ptr (.box vb) 1):=xO (n:=1) aK;have j2:dy al 230 (.ptr (.box vb) 0) (.v (.int .i64 2))=aa (.ptr (.box vb) 2):=xO (n:=2) aK;have j4:dy al 230 (.ptr (.box vb) 0) (.v (.int .i64 4))=aa (.ptr (.box vb) 4):=xO (n:=4) aK;have j5:dy al 230 (.ptr (.box vb) 0) (.v (.int .i64 5))=aa (.ptr (.box vb) 5):=xO (n:=5) aK;have j6:dy al 230 (.ptr (.box vb) 0) (.v (.int .i64 6))=aa (.ptr (.box vb) 6):=xO (n:=6) aK;have j7:dy al 230 (.ptr (.box vb) 0) (.v (.int .i64 7))=aa (.ptr (.box vb) 7):=xO (n:=7) aK;have oT:=(aP.1 pP).1;have a42:=EY;have s42:=wC;have cp:=aeL pP;have sla:=ap8 (b:=vb);have slb:=ap9 (b:=vb)
  repeat' (first|simp(maxSteps:=999999)(disch:=first|exact dZ|fail)only[gW,reduceIte,aX,aR,qD,nV,nI,Ct,oz,yr,iC,zT, *]|refine dX ?_ ?_<;>(intro _;try omega))
  refine P4 [4] [] au ?_ (λp hp=>nomatch hp) ?_
  ·intro k hk;simp only[mo] at hk;subst hk;refine Cz (x:=aN (NT.dz v4 6^^^NT.dz v4 11^^^NT.dz v4 25)) rfl rfl ?_ ?_
   ·simp only[hJ,fB]
    repeat' (first|simp(maxSteps:=999999)(disch:=first|exact dZ|fail)only[gW,reduceIte,aX,aR,yr,iC,zT, *]|refine dX ?_ ?_<;>(intro _;try omega))
    exact⟨by trivial,λ_=>by trivial⟩
   ·repeat' (first|simp(maxSteps:=999999)(disch:=first|exact dZ|fail)only[gW,reduceIte,aX,aR,nV,nI,Ct,oz,yr,iC,zT, *]|refine dX ?_ ?_<;>(intro _;try omega))
  repeat' (first|simp(maxSteps:=999999)(disch:=first|exact dZ|fail)only[gW,reduceIte,aX,aR,qD,nV,nI,Ct,oz,yr,iC,zT, *]|refine dX ?_ ?_<;>(intro _;try omega))
  refine P4 [2] [] au ?_ (λp hp=>nomatch hp) ?_
  ·intro k hk;simp only[mo] at hk;subst hk;refine Cz (x:=aN (NT.dz v0 2^^^NT.dz v0 13^^^NT.dz v0 22)) rfl rfl ?_ ?_
   ·simp only[hJ,fB]
    repeat' (first|simp(maxSteps:=999999)(disch:=first|exact dZ|fail)only[gW,reduceIte,aX,aR,yr,iC,zT, *]|refine dX ?_ ?_<;>(intro _;try omega))
    exact⟨by trivial,λ_=>by trivial⟩
   ·repeat' (first|simp(maxSteps:=999999)(disch:=first|exact dZ|fail)only[gW,reduceIte,aX,aR,nV,nI,Ct,oz,yr,iC,zT, *]|refine dX ?_ ?_<;>(intro _;try omega))
  repeat' (first|simp(maxSteps:=999999)(disch:=first|exact dZ|fail)only[gW,reduceIte,aX,aR,qD,nV,nI,Ct,oz,yr,iC,zT, *]|refine dX ?_ ?_<;>(intro _;try omega))
  refine tK au ?_;clear pP
  repeat' (first|simp(maxSteps:=999999)(disch:=first|exact dZ|fail)only[gW,reduceIte,aX,aR,qD,ldp,Y8,JJ,nI,yr,iC,zT,Rc,List.set_cons_succ, *]|refine dX ?_ ?_<;>(intro _;try omega))
  refine⟨64 - (i+1),by omega,i+1,by omega,rfl,aQ,aQ,aQ,rfl,aQ,?_,?_,?_,kM.out.fO ag _⟩
  ·rw[cS ag];exact kw.out
  ·rw[cS ag];exact ks.out
  ·rw[ev oT,kR.out,kE.out];rfl
 subst hc;have Uu:vj s b=EJ (·+·) s (vF s b 64):=rfl;rw[Uu];have h8:=QB b hs 64;generalize vF s b 64=v at *
 have oT:=(aP.1 hv).1;have ks:=aj.mk mc;have kv:=aj.mk hv;clear hw mc hv Uu
 repeat' (first|simp(maxSteps:=999999)(disch:=first|exact dZ|fail)only[gW,reduceIte,aX,aR,qD, *]|refine dX ?_ ?_<;>(intro _;try omega))
 refine cq (λm e H2=>∃i:Nat,i<=8/\m=8 - i/\e.get 0=.ptr (.box sb) 0/\e.get 9=.ptr (.box vb) 0/\e.get 129=.v (.int .i64 i)/\e.defers=[]/\H2.boxes[sb]?=aa (bQ (yg s v i))/\H2.boxes[vb]?=aa (bQ v)/\fx sb h.tn h H2) ?_ 8 _ _ ?_;rotate_left 1
 ·refine⟨0,by decide,rfl,?_,?_,?_,?_,ks.out,kv.out,kM.out⟩<;>(first|assumption|(exact gR))
 clear ks kv kM g0 g4 g9 g69 hd uk hi;rintro m e H ⟨i,hi,rfl,g0,g9,g129,hd,mc,hv,hM⟩;have kM:=aj.mk hM;clear hM;by_cases hc:i=8;rotate_left 1
 ·refine ql λQ=>?_;have aA:i<8:=by omega
  have hz:=asO hs h8 hi;have l1:=qu mc (n:=i) ag;have l2:=qu hv (n:=i) ag;rw[asN hs h8 aA] at l1;have j1:=xO (b:=sb) (n:=i) (k:=.i64) aA;have j2:=xO (b:=vb) (n:=i) (k:=.i64) aA;have st:=G9 (x:=cQ s i+cQ v i) mc (n:=i) ag;rw[asP hs h8 aA] at st;have mG:=(aP.1 mc).1;have kv:=aj.mk hv;clear mc hv
  repeat' (first|simp(maxSteps:=999999)(disch:=first|exact dZ|fail)only[gW,reduceIte,aX,aR,qD, *]|refine dX ?_ ?_<;>(intro _;try omega))
  refine tK au ?_
  repeat' (first|simp(maxSteps:=999999)(disch:=first|exact dZ|fail)only[gW,reduceIte,aX,aR,qD,nI, *]|refine dX ?_ ?_<;>(intro _;try omega))
  refine⟨8 - (i+1),by omega,i+1,by omega,rfl,aQ,aQ,rfl,aQ,ev mG,?_,kM.out.trans (.put _ _ _ _)⟩;rw[cS ag];exact kv.out
 subst hc;rw[asM hs h8] at mc;have ks:=aj.mk mc;clear mc hv
 repeat' (first|simp(maxSteps:=999999)(disch:=first|exact dZ|fail)only[gW,reduceIte,aX,aR,qD, *]|refine dX ?_ ?_<;>(intro _;try omega))
 exact⟨_,rfl,ks.out,kM.out⟩
def PI:Tryz.f205.results.toList=[]:=au
def ae2(n)(h):mK al h 42 216 (.v (.int .u32 n))=aa (.v (.int .u64 (IntKind.u64.wrap n)),h):=au
def qg(n)(h):mK al h 3 216 (.v (.int .i64 n))=aa (.v (.int .u64 (IntKind.u64.wrap n)),h):=au
def CF(n)(h):mK al h 216 5 (.v (.int .u64 n))=aa (.v (.int .u8 (IntKind.u8.wrap n)),h):=au
def bT(b:UInt8):AV:=.v (.int .u8 b.toNat)
abbrev bP(l:List UInt8):List AV:=l.map bT
def tZ(n k:Nat):List UInt8:=(bO k).map λi=>UInt8.ofNat (n/256^(k - 1 - i))
def LM(n k):(tZ n k).length=k:=by simp[tZ]
def uM(cs:List AV)(off len n i:Nat):List AV:=cs.take (off+len - i)++bP ((tZ n len).drop (len - i))++cs.drop (off+len)
def alP{cs}{off len n}:uM cs off len n 0=cs:=by unfold uM;rw[Rl,Rl,pc (by rw[LM];exact aJ _)];show Lf (off+len) cs++[]++_=_;rw[jH,wP]
def alN{cs}{off len n i}(hi:i<=len)(hl:off+len<=cs.length):(uM cs off len n i).length=cs.length:=by unfold uM;simp only[dk,eP,bu,gE,LM];omega
def alO{cs}{off len n i}(hi:i<len)(hl:off+len<=cs.length):(uM cs off len n i).set (off+(len - 1 - i)) (bT (UInt8.ofNat (n/256^i)))=uM cs off len n (i+1):=by
 unfold uM;have e1:off+len - i=(off+(len - 1 - i))+1:=by omega
 have e2:off+len - (i+1)=off+(len - 1 - i):=by omega
 have aA:off+(len - 1 - i)<cs.length:=by omega
 have e3:(tZ n len).drop (len - (i+1))=UInt8.ofNat (n/256^i)::(tZ n len).drop (len - i):=by
  rw[zR (by rw[LM];omega)];congr 1
  ·unfold tZ;rw[qa,zS];congr 3;omega
  ·congr 1;omega
 rw[e1,e2,e3,aaQ aA];generalize he:cs[off+(len - 1 - i)]=z;rw[rR,rR,Ld _ _ (by rw[eP];omega),eP,show off+(len - 1 - i) - min (off+(len - 1 - i)) cs.length=0 by omega];simp
def Bz(cs:List AV)(off len n:Nat):List AV:=cs.take off++bP (tZ n len)++cs.drop (off+len)
def alM{cs}{off len n}:uM cs off len n len=Bz cs off len n:=by unfold uM Bz;rw[s9,iC,Nat.add_sub_cancel]
def VZ{b off len aB n}{k}(hn:n<len):dy al 28 (.arr b off len aB) (.v (.int k (n:Nat)))=aa (.ptr (.box b) (off+n)):=by rw[Du iO rN ag ag,dL,nG]
def Ku{H}{b k}{cs}{v}(hb:H.boxes[b]?=aa cs)(hk:k<cs.length):ct al H 5 (.ptr (.box b) k) (bT v)=aa (H.put b (cs.set k (bT v))):=by rw[gL (xs:=[bT v]) rfl rN hb rfl hk];congr 2;unfold eE;rw[zX,aF (show k<cs.length from hk)];simp
def Qy(m):AV.v (.int .u8 (IntKind.u8.wrap ((m:Nat):Int)))=bT (UInt8.ofNat m):=by unfold bT;rw[show(UInt8.ofNat m).toNat=m%256 from UInt8.toNat_ofNat'];unfold IntKind.wrap;simp[IntKind.signed,IntKind.bits]
def Pp(b off len aB n:Nat)(cs:List AV)(h:ak)(hl:len<=8)(hn:n<18446744073709551616)(hb:h.boxes[b]?=aa cs)(hc:off+len<=cs.length):
 W.call 205 [.arr b off len aB,.v (.int .u64 (n:Nat))] h=aa (.ret (.tuple []),h.put b (Bz cs off len n)):=by
 have u28:=iO;have MR:=(aP.1 hb).1;have k0:=aj.mk (rL hb);clear hb;refine cC rfl Tryz.func205 rfl ?_;refine nL @PI ?_;refine cq (λm e H=>∃i:Nat,i<=len/\m=len - i/\e.get 0=.arr b off len aB/\e.get 1=.v (.int .u64 (n:Nat))/\e.get 6=.v (.int .i64 (len:Nat))/\e.get 7=.v (.int .i64 i)/\e.defers=[]/\H=h.put b (uM cs off len n i)) ?_ len _ _ ?_;rotate_left 1
 ·refine⟨0,cr _,rfl,?_,?_,?_,?_,?_,by rw[alP];exact k0.out.symm⟩<;>(first|assumption|(exact gR))
 rintro m e H ⟨i,hi,rfl,g0,g1,g6,g7,hd,rfl⟩;by_cases AS:i=len
 ·subst AS;rw[alM];exact iQ @PI
 ·refine ql λQ=>?_;have aA:i<len:=by omega
  have e1:IntKind.i64.wrap (8 * ((i:Nat):Int))=((8 * i:Nat):Int):=by rw[gf ag ag];omega
  have e2:IntKind.i64.wrap (((len:Nat):Int) - 1)=((len - 1:Nat):Int):=by rw[gf ag ag];omega
  have e3:IntKind.i64.wrap (((len - 1:Nat):Int) - ((i:Nat):Int))=((len - 1 - i:Nat):Int):=by rw[gf ag ag];omega
  have sh:∀(t:TypeId) (x y:Operand),cN al .shr t x y (.v (.int .u64 (n:Nat))) (.v (.int .i64 ((8 * i:Nat):Int)))=aa (.v (.int .u64 ((n/256^i:Nat):Int))):=λt x y=>by rw[Am ag,dL,show IntKind.u64.bits=64 from rfl,Ck ag];congr 3;rw[Eu _ (by have:(0:Int)<2^(8 * i):=aah aK;omega)];have e8:(2:Int)^(8 * i)=((256^i:Nat):Int):=(by rw[Ew];simp);rw[e8];rfl
  have uv:=Qy (n/256^i);have ix:=VZ (b:=b) (off:=off) (aB:=aB) (k:=.i64) (ag:len - 1 - i<len);have st:=Ku (H:=h.put b (uM cs off len n i)) (v:=UInt8.ofNat (n/256^i)) (k:=off+(len - 1 - i)) (ev MR) (by rw[alN ag hc];omega);rw[alO aA hc,JJ] at st;refine MF @PI @CF ?_;refine⟨len - (i+1),by omega,i+1,by omega,rfl,aQ,aQ,aQ,rfl,aQ,rfl⟩
def E9:∀(i:Nat) (s:List ez) (b:List UInt8),gh (i+1) s b=vj (gh i s b) ((b.drop (64 * i)).take 64)
 |0,s,b=>rfl
 |i+1,s,b=>by rw[gh,E9 i,gh,wM];congr 3;omega
def Si:∀(i j:Nat) (s:List ez) (b:List UInt8),gh (i+j) s b=gh j (gh i s b) (b.drop (64 * i))
 |0,j,s,b=>by rw[oF];rfl
 |i+1,j,s,b=>by rw[(ag:i+1+j=(i+j)+1),gh,Si i j,gh,wM];congr 2;omega
def LV:∀(i:Nat) (s:List ez) (a b:List UInt8),64 * i<=a.length->gh i s (a++b)=gh i s a
 |0,_,_,_,_=>rfl
 |i+1,s,a,b,h=>by rw[gh,gh,List.take_append_of_le_length ag,aao ag];exact LV i _ _ b (by rw[gE];omega)
def adb{s}{b}(hs:s.length=8):(vj s b).length=8:=by have:=QB b hs 64;unfold vF at this;unfold vj;simp[hs,this]
def ua:∀(i:Nat) (s:List ez) (b:List UInt8),s.length=8->(gh i s b).length=8
 |0,_,_,h=>h
 |i+1,s,b,h=>ua i _ _ (adb h)
def nJ(r:Nat):Nat:=if r>55 then 128 else 64
def mL(rest:List UInt8)(n:Nat):List UInt8:=rest++0x80::aY (nJ rest.length - 9 - rest.length) 0++nR n
def Ti{rest}{n}(hr:rest.length<64):(mL rest n).length=nJ rest.length:=by
 unfold mL nJ;simp only[dk,iW,lT];have:(nR n).length=8:=by simp[nR]
 rw[this];split<;>omega
def akE(b):pU b=b.take (64 * (b.length/64))++mL (b.drop (64 * (b.length/64))) b.length:=by
 unfold pU mL;have e:nW b.length=nJ (b.drop (64 * (b.length/64))).length - 9 - (b.drop (64 * (b.length/64))).length:=by unfold nW nJ;rw[gE];split<;>omega
 rw[e,<-rR,<-rR,wP]
def apP(b):eI b=jm (gh (nJ (b.drop (64 * (b.length/64))).length/64) (gh (b.length/64) NT.start b) (mL (b.drop (64 * (b.length/64))) b.length)):=by
 unfold eI;have hr:(b.drop (64 * (b.length/64))).length<64:=by rw[gE];omega
 have hlen:(b.take (64 * (b.length/64))).length=64 * (b.length/64):=by rw[eP];omega
 rw[akE,dk,Ti hr,hlen,show(64 * (b.length/64)+nJ (b.drop (64 * (b.length/64))).length)/64=b.length/64+nJ (b.drop (64 * (b.length/64))).length/64 by rw[Nat.mul_add_div aK]];have h2:gh (b.length/64) NT.start (b.take (64 * (b.length/64)))=gh (b.length/64) NT.start b:=by have:=LV (b.length/64) NT.start (b.take (64 * (b.length/64))) (b.drop (64 * (b.length/64))) (by rw[hlen];exact aJ _);rw[wP] at this;exact this.symm
 have h1:(b.take (64 * (b.length/64))).drop (64 * (b.length/64))=[]:=pc (by rw[hlen];exact aJ _);rw[Si,aao (by rw[hlen];exact aJ _),h1,lV];rw[LV _ _ _ _ (by rw[hlen];exact aJ _),h2]
def ai5(n):tZ (n * 8) 8=nR n:=by unfold tZ nR;apply HI;intro i hi;rw[fY] at hi;congr 2;rw[show(256:Nat)=2^8 from rfl,<-ET]
def acB(x:ez):tZ x.toNat 4=[UInt8.ofNat (x.toNat/16777216),UInt8.ofNat (x.toNat/65536),UInt8.ofNat (x.toNat/256),UInt8.ofNat x.toNat]:=by show[UInt8.ofNat (x.toNat/256^3),UInt8.ofNat (x.toNat/256^2),UInt8.ofNat (x.toNat/256^1),UInt8.ofNat (x.toNat/256^0)]=_;simp
def akw{s:List ez}{i}{x}(hi:s[i]?=aa x):jm (s.take (i+1))=jm (s.take i)++tZ x.toNat 4:=by rw[fH hi,acB];unfold jm;rw[List.flatMap_append];simp
def Bw(s):(jm s).length=4 * s.length:=by
 unfold jm
 induction s with
 |nil=>rfl|cons a s ih=>rw[List.flatMap_cons,dk,ih];simp;omega
def lu(l):(bP l).length=l.length:=bu _
def afG{rest}{n}(hr:rest.length<64):
 Bz ((bP rest++(aY 128 (bT 0)).drop rest.length).set rest.length (bT 0x80)) (nJ rest.length - 8) 8 (n * 8)=bP (mL rest n)++aY (128 - nJ rest.length) (bT 0):=by
 have hL:nJ rest.length=64∨nJ rest.length=128:=by unfold nJ;split<;>omega
 have CU:rest.length+9<=nJ rest.length:=by unfold nJ;split<;>omega
 rw[Q6];obtain⟨k,hk⟩:∃k,128 - rest.length=k+1:=⟨127 - rest.length,by omega⟩;rw[hk,zW,Ld _ _ (by rw[lu];exact aJ _),lu,s9,Rc];unfold Bz mL;rw[ai5];generalize nJ rest.length=L at *
 have e1:Lf (L - 8) (bP rest++bT 0x80::aY k (bT 0))=bP (rest++0x80::aY (L - 9 - rest.length) 0):=by rw[List.take_append,lu,gm (by rw[lu];omega)];obtain⟨j,hj⟩:∃j,L - 8 - rest.length=j+1:=⟨L - 9 - rest.length,by omega⟩;rw[hj,hJ,List.take_replicate,Ck ag];unfold bP;rw[lU,eo,wO,(ag:L - 9 - rest.length=j)]
 have e2:List.drop (L - 8+8) (bP rest++bT 0x80::aY k (bT 0))=aY (128 - L) (bT 0):=by rw[Cf,lu,pc (by rw[lu];omega),lV];obtain⟨j,hj⟩:∃j,L - 8+8 - rest.length=j+1:=⟨L - 1 - rest.length,by omega⟩;rw[hj,yr,Q6];congr 1;omega
 rw[e1,e2];unfold bP;rw[<-lU]
def tH:Tryz.f181.results.toList=[.cell 2 177]:=au
def Cs:gx al 177=aa ah:=au
def pX:dm al 177=aa 32:=au
def Ei:(iN al 177).bind AV.b8=aa (aY 32 (bT 0)):=au
def aiU(H):aI al Gt H 229 (.ptr (.eD 0) 0)=aa (.agg (bQ NT.start)):=au
def ye(l):(AV.agg (bP l)).b8=aa (bP l):=by
 have:(bP l).all AV.dN=ah:=by rw[dU];intro x hx;obtain⟨b,-,rfl⟩:=jo.1 hx;rfl
 unfold AV.b8;simp[this]
def Wp(H):xS al H 28 (.v (.int .i64 64)) (.v (.int .i64 128))=aa (.arr H.boxes.length 0 64 128,H.push (aY 128 (bT 0))):=au
def Hm(l):(aW l).flatten=bP l:=by rw[LZ];rfl
def aeK{H}{eb len aB}{x}{rest}{cs}(s:dE 1 H x (aW rest))(hb:H.boxes[eb]?=aa cs)(h1:len<=cs.length)(h2:len<=aB)(h3:rest.length<=len):
 yI al H #[28,28] (.arr eb 0 len aB) x=aa (.v (.int .i64 (rest.length:Nat)),H.put eb (bP rest++cs.drop rest.length)):=by
 have hi:∃i,al.info? 5=aa i/\i.size=1:=by
  have ui:=rN;unfold dm at ui;cases hq:al.info? 5 with
  |none=>rw[hq] at ui;cases ui
  |some i=>rw[hq] at ui;exact⟨i,rfl,by simpa using ui⟩
 obtain⟨i,q1,q2⟩:=hi;have hu:((#[28,28]:Array Nat)[0]?).bind al.underlying=aa (.slice 5):=au;unfold yI;rw[hu];simp only[q1,q2,s.news,hb];rw[aF ⟨ag,h2⟩];have hm:Nat.min (aW rest).length len=rest.length:=by rw[bu];exact Ck h3
 rw[hm,gm (by rw[bu];exact aJ _),Hm];have e:eE cs 0 (bP rest)=bP rest++cs.drop rest.length:=by unfold eE;rw[fB,lV,oF,lu]
 rw[e];rfl
def Qc{R:ak->Prop}{H0}{x}{l}(hx:∀H,R H->dE 1 H x (aW l))(h0:R H0)(hl:64<=l.length):
 ∃y z,gC al 28 x aq (aa (.v (.int .i64 64))) aq=aa y/\gC al 28 x (aa (.v (.int .i64 64))) aq aq=aa z/\
  (∀H,R H->dE 1 H y (aW (l.take 64)))/\∀H,R H->dE 1 H z (aW (l.drop 64)):=by
 have A:∀H,R H->∃y,gC al 28 x aq (aa (.v (.int .i64 64))) aq=aa y/\dE 1 H y (aW (l.take 64)):=λH hH=>by obtain⟨y,y1,y2⟩:=(hx H hH).slice (t:=28) (lo:=aq) (hi:=aa (.v (.int .i64 64))) (l:=0) (m:=64) aK iO rN (.inr ⟨.i64,rfl,by rw[bu];exact hl⟩) (.inl ⟨rfl,rfl⟩) aK;rw[iC,<-List.map_take] at y2;exact⟨y,y1,y2⟩
 have B:∀H,R H->∃y,gC al 28 x (aa (.v (.int .i64 64))) aq aq=aa y/\dE 1 H y (aW (l.drop 64)):=λH hH=>by obtain⟨y,y1,y2⟩:=(hx H hH).slice (t:=28) (lo:=aa (.v (.int .i64 64))) (hi:=aq) (l:=64) (m:=l.length) aK iO rN (.inl ⟨rfl,by rw[bu]⟩) (.inr ⟨.i64,rfl⟩) hl;rw[gm (by rw[bu];exact aJ _),<-aaE] at y2;exact⟨y,y1,y2⟩
 obtain⟨y,y1,-⟩:=A H0 h0;obtain⟨z,z1,-⟩:=B H0 h0;refine⟨y,z,y1,z1,λH hH=>?_,λH hH=>?_⟩
 ·obtain⟨y',q1,q2⟩:=A H hH;rw[y1] at q1;cases q1;exact q2
 ·obtain⟨y',q1,q2⟩:=B H hH;rw[z1] at q1;cases q1;exact q2
def VY{l}{i}{k}(hl:l.length=8)(hi:i<8):Bo al 230 (.agg (bQ l)) (.v (.int k (i:Nat)))=aa (aN (cQ l i)):=by
 have hu:=abp;unfold Bo;rw[hu];simp only[wC];rw[aF ⟨ag,by omega⟩];unfold Gq;rw[EY];simp only[wC];rw[dL,nG];have jN:i<l.length:=by omega
 show(bQ l)[i]?=_;rw[dW,cQ,dP,aO jN];rfl
def YF{b i}(hi:i<8):gC al 177 (.ptr (.box b) 0) (aa (.v (.int .i64 ((4 * i:Nat):Int)))) (aa (.v (.int .i64 ((4 * i+4:Nat):Int)))) aq=aa (.arr b (4 * i) 4 (32 - 4 * i)):=by
 have hu:=Tryz.underlying177;unfold gC;rw[hu];have h1:ga 32 aq 32=aa 32:=rfl;have h2:ga 32 (aa (.v (.int .i64 ((4 * i+4:Nat):Int)))) 32=aa (4 * i+4):=by show(if _ then _ else _)=_;rw[aF ⟨ag,by omega⟩,dL]
 have h3:ga (4 * i+4) (aa (.v (.int .i64 ((4 * i:Nat):Int)))) 0=aa (4 * i):=by show(if _ then _ else _)=_;rw[aF ⟨ag,by omega⟩,dL]
 simp only[rN,h1,h2,h3];rw[aG bh,aG ag,oF,nG,(ag:4 * i+4 - 4 * i=4)]
def S8{v:ez}{H}:mK al H 42 216 (aN v)=aa (.v (.int .u64 (v.toNat:Nat)),H):=by unfold aN;rw[ae2];congr 4;unfold IntKind.wrap;simp[IntKind.signed,IntKind.bits];have:=v.isLt;omega
def YN(cs):eE cs 0 cs=cs:=by unfold eE;simp
def WK{s}(hs:s.length=8){i}(hi:i<8):Bz (bP (jm (s.take i))++aY (32 - 4 * i) (bT 0)) (4 * i) 4 (cQ s i).toNat=bP (jm (s.take (i+1)))++aY (32 - 4 * (i+1)) (bT 0):=by
 have hl:(bP (jm (s.take i))).length=4 * i:=by rw[lu,Bw,eP];omega
 have hx:s[i]?=aa (cQ s i):=by unfold cQ;rw[dP,aO ag];rfl
 unfold Bz;rw[akw hx,HL hl,Cf,hl,pc ag,lV,Q6,(ag:32 - 4 * i - (4 * i+4 - 4 * i)=32 - 4 * (i+1))];unfold bP;rw[lU]
def afm(b)(i):vj (gh i NT.start b) ((b.drop (64 * i)).take 64)=gh (i+1) NT.start b:=(E9 i _ b).symm
def Yz(b:List UInt8)(x:AV)(h:ak)(s:dE 1 h x (aW b))(hb:b.length<=1152921504606846975):
 ∃h',W.call 181 [x] h=aa (.ret (.agg (bP (eI b))),h')/\Ext h h':=by
 have u28:=iO;have z177:=Ei;have zz:(iN al 230).bind AV.b8=aa (bQ (aY 8 0#32)):=by rw[QD];exact ZC
 have cs8:(AV.agg (bQ NT.start)).b8=aa (bQ NT.start):=Ic rfl;have spz:∀H:ak,ct al (H.push (bQ (aY 8 0#32))) 230 (.ptr (.box H.boxes.length) 0) (.agg (bQ NT.start))=aa (H.push (bQ NT.start)):=λH=>lq (Ic rfl) Ef rfl rfl;have spz2:∀H:ak,∀y,ct al ((H.push y).push (bQ (aY 8 0#32))) 230 (.ptr (.box (H.boxes.length+1)) 0) (.agg (bQ NT.start))=aa ((H.push y).push (bQ NT.start)):=λH y=>by rw[<-cK H y];exact spz _
 have lx:=s.len iO;rw[bu] at lx;have kS:=aj.mk s;have kSs:=aj.mk (apP b);clear s;refine gP rfl Tryz.func181 rfl ?_;refine cY @tH @cK @aiU ?_;generalize tm:(h.push (aY 32 (bT 0))).push (bQ NT.start)=H0;generalize jP:h.boxes.length+1=sb;have kx:aj (∀H',fx sb h.tn H0 H'->dE 1 H' x (aW b)):=⟨λH' m=>kS.out.mono λc cs hc=>by have aA:=(aP.1 hc).1;refine m.box c cs ag ?_;rw[<-tm];exact bg (bg hc)⟩;have bI:H0.boxes[h.boxes.length]?=aa (aY 32 (bT 0)):=by rw[<-tm];exact bg (a9 _ _)
 have ux:H0.boxes[sb]?=aa (bQ (gh 0 NT.start b)):=by rw[<-tm,<-jP];exact mB (by rw[cK])
 have TZ:Ext h H0:=by rw[<-tm];exact(Ext.push _ _).trans (.push _ _)
 have atp:h.boxes.length<sb:=by omega
 have MK:H0.boxes.length=sb+1:=by rw[<-tm,<-jP,cK,cK]
 have kd:=aj.mk bI;have kE:=aj.mk TZ;have ks:=aj.mk ux;clear bI TZ ux tm jP z177 zz cs8 spz spz2 kS;refine cq (λm e H=>∃(i:Nat) (y:AV),64 * i<=b.length/\m=b.length - 64 * i/\e.get 0=x/\e.get 2=.ptr (.box h.boxes.length) 0/\e.get 3=.ptr (.box sb) 0/\e.get 4=.func (.func 204) [.ptr (.box sb) 0] []/\e.get 5=y/\e.defers=[]/\(∀H',fx sb h.tn H0 H'->dE 1 H' y (aW (b.drop (64 * i))))/\H.boxes[sb]?=aa (bQ (gh i NT.start b))/\fx sb h.tn H0 H) ?_ b.length _ _ ?_;rotate_left 1
 ·refine⟨0,x,cr _,rfl,?_,?_,?_,?_,?_,?_,kx.out,ks.out,fx.refl _ _ _⟩<;>(first|assumption|(exact gR))
 clear ks;rintro m e H ⟨i,y,hi,rfl,g0,g2,g3,g4,g5,hd,hy,jP,hM⟩;have ly:=(hy H hM).len iO;rw[bu,gE] at ly;by_cases hc:64<=b.length - 64 * i
 ·refine ql λQ=>?_;obtain⟨y1,y2,q1,q2,q3,q4⟩:=Qc hy hM (by rw[gE];exact hc);obtain⟨H2,c1,c2,c3⟩:=Lz _ _ sb y1 H (ua i NT.start b rfl) (by rw[eP,gE];omega) jP (λH' m=>q3 H' (hM.trans (m.sV (fe kE.out.tn hM.tn))));rw[afm] at c2;have kM:=aj.mk (hM.trans (c3.sV (fe kE.out.tn hM.tn)));have kq:=aj.mk q4;have k2:=aj.mk c2;clear hM c2 c3 q3 q4 hy jP;refine cY @tH @kj.{0} @lV.{0} ?_;refine⟨b.length - 64 * (i+1),by omega,i+1,y2,by omega,rfl,aQ,aQ,aQ,aQ,rfl,aQ,?_,k2.out,kM.out⟩;rw[(ag:64 * (i+1)=64 * i+64),<-wM];exact kq.out
 have ot:b.length/64=i:=by omega
 have kSh:=aj.mk kSs.out;rw[ot] at kSh;have cO:(b.drop (64 * i)).length<64:=by rw[gE];omega
 have vN:b.length - 64 * i=(b.drop (64 * i)).length:=by rw[gE]
 rw[vN] at ly hc;have h8:=ua i NT.start b rfl;generalize gh i NT.start b=s1 at *
 generalize b.drop (64 * i)=r at *
 clear vN kSs;have kM:=aj.mk hM;have uk:=hM.len;have VP:=hy (H.push (aY 128 (bT 0))) (hM.push _);have cp:=aeK (len:=64) (aB:=128) VP (a9 _ _) (by rw[lT];decide) aK ag;rw[oA] at cp;have e1:IntKind.u64.wrap ((b.length:Nat):Int)=((b.length:Nat):Int):=by unfold IntKind.wrap;simp[IntKind.signed,IntKind.bits];omega
 have e2:IntKind.u64.wrap (((b.length:Nat):Int) * 8)=((b.length * 8:Nat):Int):=by unfold IntKind.wrap;simp[IntKind.signed,IntKind.bits];omega
 have ix:=VZ (b:=H.boxes.length) (off:=0) (aB:=128) (k:=.i64) cO;rw[oF] at ix;have MJ:(bP r++(aY 128 (bT 0)).drop r.length).length=128:=by rw[dk,lu,gE,lT];omega
 have st:ct al (H.push (bP r++(aY 128 (bT 0)).drop r.length)) 5 (.ptr (.box H.boxes.length) r.length) (.v (.int .u8 128))=aa (H.push ((bP r++(aY 128 (bT 0)).drop r.length).set r.length (bT 0x80))):=by have:=Ku (H:=H.push (bP r++(aY 128 (bT 0)).drop r.length)) (v:=0x80) (a9 _ _) (k:=r.length) (by rw[MJ];omega);rw[oA] at this;exact this
 have hE:=afG (n:=b.length) cO;have TY:((bP r++(aY 128 (bT 0)).drop r.length).set r.length (bT 0x80)).length=128:=by rw[mn,MJ]
 generalize bP r++(aY 128 (bT 0)).drop r.length=C1 at *
 generalize C1.set r.length (bT 0x80)=C2 at *
 have kEl:=aj.mk (Ti (n:=b.length) cO);have pe:=λ(off aB:Nat) (ho:off+8<=128)=>Pp H.boxes.length off 8 aB (b.length * 8) C2 (H.push C2) aK ag (a9 _ _) (by rw[TY];exact ho);simp only[oA] at pe;have ks:=aj.mk jP;clear VP hy hM jP MJ TY hi ot;have hL:(r.length<=55/\nJ r.length=64)∨(55<r.length/\nJ r.length=128):=by unfold nJ;split<;>omega
 rcases hL with⟨hr,hL⟩|⟨hr,hL⟩
 ·rw[hL] at hE kEl kSh;have p1:=pe 56 72 aK;rw[hE] at p1;have sl:gC al 28 (.arr H.boxes.length 0 64 128) (aa (.v (.int .i64 (((64:Nat):Int) - 8)))) aq aq=aa (.arr H.boxes.length 56 8 72):=au;clear pe hE hL;refine cY @tH @Wp @qg ?_;have hlen:=kEl.out;generalize jr:H.push (bP (mL r b.length)++aY (128 - 64) (bT 0))=H1;generalize hz:H.boxes.length=eb;have vB:H1.boxes[eb]?=aa (bP (mL r b.length)++aY (128 - 64) (bT 0)):=by rw[<-jr,<-hz];exact a9 _ _
  have Fs:fx sb h.tn H0 H1:=by rw[<-jr];exact kM.out.push _
  have bB:H1.boxes[sb]?=aa (bQ s1):=by rw[<-jr];exact bg ks.out
  have bH:eb≠sb:=by omega
  have hR:∀H',fx sb h.tn H1 H'->dE 1 H' (.arr eb 0 64 128) (aW ((mL r b.length).drop (64 * 0))):=λH' m=>by
   rw[aa1,iC];refine⟨yD _,.inr ⟨eb,0,128,_,by rw[bu,hlen],by rw[bu,hlen];decide,m.box _ _ bH vB,?_,?_⟩⟩
   ·rw[Hm,bu,nG,iC,HL (lu _)]
   ·rw[bu,dk,lu,hlen,lT];decide
  have kR:=aj.mk hR;have kB:=aj.mk vB;have kM1:=aj.mk Fs;have kS1:=aj.mk bB;clear vB Fs bB hR jr hz kM ks cp st p1 sl ix;refine cq (λm e H=>∃(i:Nat) (y:AV),64 * i<=64/\m=64 - 64 * i/\e.get 2=.ptr (.box h.boxes.length) 0/\e.get 3=.ptr (.box sb) 0/\e.get 4=.func (.func 204) [.ptr (.box sb) 0] []/\e.get 6=y/\e.defers=[]/\(∀H',fx sb h.tn H1 H'->dE 1 H' y (aW ((mL r b.length).drop (64 * i))))/\H.boxes[sb]?=aa (bQ (gh i s1 (mL r b.length)))/\fx sb h.tn H1 H) ?_ 64 _ _ ?_;rotate_left 1
  ·refine⟨0,.arr eb 0 64 128,cr _,rfl,?_,?_,?_,?_,?_,kR.out,kS1.out,fx.refl _ _ _⟩<;>(first|assumption|(exact gR))
  clear kR kS1 g0 g2 g3 g4 g5 hd ly hc;rintro m e H ⟨i,y,hi,rfl,g2,g3,g4,g6,hd,hy,jP,hM⟩;have ly:=(hy H hM).len iO;rw[bu,gE,hlen] at ly;by_cases hc:0<64 - 64 * i
  ·refine ql λQ=>?_;obtain⟨y1,y2,q1,q2,q3,q4⟩:=Qc hy hM (by rw[gE,hlen];omega);obtain⟨H2,c1,c2,c3⟩:=Lz _ _ sb y1 H (ua i s1 _ h8) (by rw[eP,gE,hlen];omega) jP (λH' m=>q3 H' (hM.trans (m.sV (fe kE.out.tn (fe kM1.out.tn hM.tn)))));rw[<-E9] at c2;have kM:=aj.mk (hM.trans (c3.sV (fe kE.out.tn (fe kM1.out.tn hM.tn))));have kq:=aj.mk q4;have k2:=aj.mk c2;clear hM c2 c3 q3 q4 hy jP;refine cY @tH @kj.{0} @lV.{0} ?_;refine⟨64 - 64 * (i+1),by omega,i+1,y2,by omega,rfl,aQ,aQ,aQ,rfl,aQ,?_,k2.out,kM.out⟩;rw[(ag:64 * (i+1)=64 * i+64),<-wM];exact kq.out
  have ot:i=64/64:=by omega
  subst ot;have Fl:=ua (64/64) s1 (mL r b.length) h8;generalize gh (64/64) s1 (mL r b.length)=s2 at *
  have hX:Ext h H:=kE.out.mut (kM1.out.trans hM) ag;have kC:=(kM1.out.trans hM).box _ _ ag kd.out;have xe:s2.length=8:=Fl;have lds:aI al Gt H 230 (.ptr (.box sb) 0)=aa (.agg (bQ s2)):=by have F8:(bQ s2).length=8:=(by rw[bu];exact xe);rw[ja HS Ef jP (by rw[F8];exact aJ _),iC,gm (by rw[F8];exact aJ _)]
  have kX:=aj.mk hX;have kdb:=aj.mk kC;clear hX kC jP hM hy kM1 kd kB kE Fl;have kSh2:aj (eI b=jm s2):=⟨kSh.out⟩;clear kSh;refine br @tH ?_;refine cq (λm e H=>∃(i:Nat),i<=8/\m=8 - i/\e.get 2=.ptr (.box h.boxes.length) 0/\e.get 53=.agg (bQ s2)/\e.get 54=.v (.int .i64 i)/\e.defers=[]/\H.boxes[h.boxes.length]?=aa (bP (jm (s2.take i))++aY (32 - 4 * i) (bT 0))/\Ext h H) ?_ 8 _ _ ?_;rotate_left 1
  ·refine⟨0,by decide,rfl,?_,?_,?_,?_,kdb.out,kX.out⟩<;>(first|assumption|(exact gR))
  clear kdb kX lds g2 g3 g4 g6 hd ly hc;rintro m e H ⟨i,hi,rfl,g2,g53,g54,hd,kC,hX⟩;by_cases hc:i=8
  ·subst hc;rw[gm ag] at kC;have e0:bP (jm s2)++aY (32 - 4 * 8) (bT 0)=bP (jm s2):=jH _;rw[e0,<-kSh2.out] at kC;have xg:(bP (eI b)).length=32:=(by rw[lu,kSh2.out,Bw,xe]);have l177:aI al Gt H 177 (.ptr (.box h.boxes.length) 0)=aa (.agg (bP (eI b))):=(by rw[ja Cs pX kC (by rw[xg];exact aJ _),iC,gm (by rw[xg];exact aJ _)]);have s177:ct al H 177 (.ptr (.box h.boxes.length) 0) (.agg (bP (eI b)))=aa H:=(by rw[gL (ye _) pX kC xg (by rw[xg];exact aJ _),YN,rL kC]);have kX:=aj.mk hX;clear kC hX;refine br @tH ?_;exact⟨_,rfl,kX.out⟩
  ·refine ql λQ=>?_;have aA:i<8:=(by omega);have iv:=VY (k:=.i64) xe aA;have e4:IntKind.i64.wrap (4 * ((i:Nat):Int))=((4 * i:Nat):Int):=(by rw[gf ag ag];omega);have e5:IntKind.i64.wrap (((4 * i:Nat):Int)+4)=((4 * i+4:Nat):Int):=(by rw[gf ag ag];omega);have sl:=YF (b:=h.boxes.length) aA;have pe:=Pp h.boxes.length (4 * i) 4 (32 - 4 * i) (cQ s2 i).toNat _ H aK (by have:=(cQ s2 i).isLt;omega) kC (by rw[dk,lu,Bw,eP,lT];omega);rw[WK xe aA] at pe;have mR:=(aP.1 kC).1;have kX:=aj.mk hX;clear kC hX;refine bM @tH @S8 ?_;refine⟨8 - (i+1),by omega,i+1,by omega,rfl,aQ,aQ,rfl,aQ,ev mR,kX.out.fO (aJ _) _⟩
 ·rw[hL] at hE kEl kSh;have p1:=pe 120 8 aK;rw[hE] at p1;have sl0:gC al 28 (.arr H.boxes.length 0 64 128) aq (aa (.v (.int .i64 128))) aq=aa (.arr H.boxes.length 0 128 128):=au;have sl:gC al 28 (.arr H.boxes.length 0 128 128) (aa (.v (.int .i64 (((128:Nat):Int) - 8)))) aq aq=aa (.arr H.boxes.length 120 8 8):=au;clear pe hE hL;refine cY @tH @Wp @qg ?_;have hlen:=kEl.out;generalize jr:H.push (bP (mL r b.length)++aY (128 - 128) (bT 0))=H1;generalize hz:H.boxes.length=eb;have vB:H1.boxes[eb]?=aa (bP (mL r b.length)++aY (128 - 128) (bT 0)):=by rw[<-jr,<-hz];exact a9 _ _
  have Fs:fx sb h.tn H0 H1:=by rw[<-jr];exact kM.out.push _
  have bB:H1.boxes[sb]?=aa (bQ s1):=by rw[<-jr];exact bg ks.out
  have bH:eb≠sb:=by omega
  have hR:∀H',fx sb h.tn H1 H'->dE 1 H' (.arr eb 0 128 128) (aW ((mL r b.length).drop (64 * 0))):=λH' m=>by
   rw[aa1,iC];refine⟨yD _,.inr ⟨eb,0,128,_,by rw[bu,hlen],by rw[bu,hlen];decide,m.box _ _ bH vB,?_,?_⟩⟩
   ·rw[Hm,bu,nG,iC,HL (lu _)]
   ·rw[bu,dk,lu,hlen,lT];decide
  have kR:=aj.mk hR;have kB:=aj.mk vB;have kM1:=aj.mk Fs;have kS1:=aj.mk bB;clear vB Fs bB hR jr hz kM ks cp st p1 sl ix;refine cq (λm e H=>∃(i:Nat) (y:AV),64 * i<=128/\m=128 - 64 * i/\e.get 2=.ptr (.box h.boxes.length) 0/\e.get 3=.ptr (.box sb) 0/\e.get 4=.func (.func 204) [.ptr (.box sb) 0] []/\e.get 6=y/\e.defers=[]/\(∀H',fx sb h.tn H1 H'->dE 1 H' y (aW ((mL r b.length).drop (64 * i))))/\H.boxes[sb]?=aa (bQ (gh i s1 (mL r b.length)))/\fx sb h.tn H1 H) ?_ 128 _ _ ?_;rotate_left 1
  ·refine⟨0,.arr eb 0 128 128,cr _,rfl,?_,?_,?_,?_,?_,kR.out,kS1.out,fx.refl _ _ _⟩<;>(first|assumption|(exact gR))
  clear kR kS1 g0 g2 g3 g4 g5 hd ly hc;rintro m e H ⟨i,y,hi,rfl,g2,g3,g4,g6,hd,hy,jP,hM⟩;have ly:=(hy H hM).len iO;rw[bu,gE,hlen] at ly;by_cases hc:0<128 - 64 * i
  ·refine ql λQ=>?_;obtain⟨y1,y2,q1,q2,q3,q4⟩:=Qc hy hM (by rw[gE,hlen];omega);obtain⟨H2,c1,c2,c3⟩:=Lz _ _ sb y1 H (ua i s1 _ h8) (by rw[eP,gE,hlen];omega) jP (λH' m=>q3 H' (hM.trans (m.sV (fe kE.out.tn (fe kM1.out.tn hM.tn)))));rw[<-E9] at c2;have kM:=aj.mk (hM.trans (c3.sV (fe kE.out.tn (fe kM1.out.tn hM.tn))));have kq:=aj.mk q4;have k2:=aj.mk c2;clear hM c2 c3 q3 q4 hy jP;refine cY @tH @kj.{0} @lV.{0} ?_;refine⟨128 - 64 * (i+1),by omega,i+1,y2,by omega,rfl,aQ,aQ,aQ,rfl,aQ,?_,k2.out,kM.out⟩;rw[(ag:64 * (i+1)=64 * i+64),<-wM];exact kq.out
  have ot:i=128/64:=by omega
  subst ot;have Fl:=ua (128/64) s1 (mL r b.length) h8;generalize gh (128/64) s1 (mL r b.length)=s2 at *
  have hX:Ext h H:=kE.out.mut (kM1.out.trans hM) ag;have kC:=(kM1.out.trans hM).box _ _ ag kd.out;have xe:s2.length=8:=Fl;have lds:aI al Gt H 230 (.ptr (.box sb) 0)=aa (.agg (bQ s2)):=by have F8:(bQ s2).length=8:=(by rw[bu];exact xe);rw[ja HS Ef jP (by rw[F8];exact aJ _),iC,gm (by rw[F8];exact aJ _)]
  have kX:=aj.mk hX;have kdb:=aj.mk kC;clear hX kC jP hM hy kM1 kd kB kE Fl;have kSh2:aj (eI b=jm s2):=⟨kSh.out⟩;clear kSh;refine br @tH ?_;refine cq (λm e H=>∃(i:Nat),i<=8/\m=8 - i/\e.get 2=.ptr (.box h.boxes.length) 0/\e.get 53=.agg (bQ s2)/\e.get 54=.v (.int .i64 i)/\e.defers=[]/\H.boxes[h.boxes.length]?=aa (bP (jm (s2.take i))++aY (32 - 4 * i) (bT 0))/\Ext h H) ?_ 8 _ _ ?_;rotate_left 1
  ·refine⟨0,by decide,rfl,?_,?_,?_,?_,kdb.out,kX.out⟩<;>(first|assumption|(exact gR))
  clear kdb kX lds g2 g3 g4 g6 hd ly hc;rintro m e H ⟨i,hi,rfl,g2,g53,g54,hd,kC,hX⟩;by_cases hc:i=8
  ·subst hc;rw[gm ag] at kC;have e0:bP (jm s2)++aY (32 - 4 * 8) (bT 0)=bP (jm s2):=jH _;rw[e0,<-kSh2.out] at kC;have xg:(bP (eI b)).length=32:=(by rw[lu,kSh2.out,Bw,xe]);have l177:aI al Gt H 177 (.ptr (.box h.boxes.length) 0)=aa (.agg (bP (eI b))):=(by rw[ja Cs pX kC (by rw[xg];exact aJ _),iC,gm (by rw[xg];exact aJ _)]);have s177:ct al H 177 (.ptr (.box h.boxes.length) 0) (.agg (bP (eI b)))=aa H:=(by rw[gL (ye _) pX kC xg (by rw[xg];exact aJ _),YN,rL kC]);have kX:=aj.mk hX;clear kC hX;refine br @tH ?_;exact⟨_,rfl,kX.out⟩
  ·refine ql λQ=>?_;have aA:i<8:=(by omega);have iv:=VY (k:=.i64) xe aA;have e4:IntKind.i64.wrap (4 * ((i:Nat):Int))=((4 * i:Nat):Int):=(by rw[gf ag ag];omega);have e5:IntKind.i64.wrap (((4 * i:Nat):Int)+4)=((4 * i+4:Nat):Int):=(by rw[gf ag ag];omega);have sl:=YF (b:=h.boxes.length) aA;have pe:=Pp h.boxes.length (4 * i) 4 (32 - 4 * i) (cQ s2 i).toNat _ H aK (by have:=(cQ s2 i).isLt;omega) kC (by rw[dk,lu,Bw,eP,lT];omega);rw[WK xe aA] at pe;have mR:=(aP.1 kC).1;have kX:=aj.mk hX;clear kC hX;refine bM @tH @S8 ?_;refine⟨8 - (i+1),by omega,i+1,by omega,rfl,aQ,aQ,rfl,aQ,ev mR,kX.out.fO (aJ _) _⟩
end Go.Proofs.YtnfciiiohoafaaaGreatDoor
end
