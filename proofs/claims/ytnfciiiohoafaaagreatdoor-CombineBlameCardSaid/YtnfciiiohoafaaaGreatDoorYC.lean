/-
  The engine, part 39: a call that makes memory that nobody sees again may be taken as one that makes none.
-/
import Derived.Test.YtnfciiiohoafaaaGreatDoorYB
import Derived.KernelRfl
import Derived.Test.YtnfciiiohoafaaaGreatDoorChecked
open True renaming intro->aT
open Bool renaming true->ai,and_assoc->ZM,and_eq_true->bA,false_and->xw,false_eq_true->ju,false->ay,eq_iff_iff->EG,not_eq_true'->yP,true_and->vR
open List renaming cons_append->jO,flatten_cons->oK,getElem?_eq_some_iff->aQ,getElem?_take->nU,map_cons->ev,map_nil->uN,getElem?_toArray->ja,getElem?_cons_zero->jD,getElem?_cons_succ->pc,append_nil->jv,nil_append->jZ,length_cons->iJ,length_append->du,drop_zero->iB,take_length->gM,drop_take->Ri,take_take->Rp,drop_drop->xD,mem_of_mem_take->pS,length_drop->gE,length_take->fb,take_zero->gm,ext_getElem->Ih,getElem_map->pg,getElem_range->AJ,getElem?_eq_getElem->a9,replicate->bm,mem_cons->jm,mem_cons_self->ga,mem_cons_of_mem->fR,all_cons->EO,all_eq_true->eE,nodup_cons->EX,mem_map->jE,map_map->AL,map_append->oM,map_congr_left->Io,zipWith->EY,range->bL,getD_eq_getElem?_getD->eQ,getElem_mem->iS,getElem?_eq_none->qB,length_zipWith->aau,getElem_zipWith->aas,getElem?_append_left->ru,getElem?_append_right->ET,getElem?_drop->pR,length_map->bJ,getElem_drop->Rl,mem_range->fD,getElem_set_self->Lp,getElem_set_ne->Lo,getElem_set->EV,mem_or_eq_of_mem_set->vU,mem_iff_getElem->AM,length_singleton->Lq,getElem?_set_ne->Ik,getElem?_map->eR,range_succ->oN,foldl_append->oL,foldl_cons->xE,foldl_nil->Ll,getElem?_replicate->Lm,length_set->nE,getElem?_set->mU,take_append_drop->xI,drop_eq_getElem_cons->ER,getElem_zipIdx->aar,append_assoc->tV,take_succ_eq_append_getElem->aaI,set_append_right->Lv,set_eq_of_length_le->aaE,ext_getElem?->sM,set_set->CQ,take->Lw,head?_drop->Il,set_eq_take_append_cons_drop->AO,length_replicate->qC,replicate_succ->CP,set_cons_zero->Ro,map_replicate->Ip,take_of_length_le->fK,drop_of_length_le->sK,map_drop->aaw,take_succ_cons->iK,drop_succ_cons->yV,head?_cons->AK,mem_singleton->ph,drop_append_of_le_length->aaj,drop_replicate->Rh,drop_append->CN,take_left'->Is
open Option renaming some->aa,map_some->eX,bind_some->oa,none->au,isSome_none->AW,some.injEq->dE,getD_some->Iu
open Go renaming Value->aL,Program->bB,FuncId->bq,TypeId->aH,IntKind->tS,Operand->bH
open And renaming intro->ax
open Nat renaming sub_zero->Rz,zero_mul->Ff,add_zero->AQ,le_refl->aJ,mul_le_mul_right->nX,add_mul->fW,min_eq_left->CU,shiftLeft_eq->AU,add_comm->aaK,Coprime->nW,Coprime.symm->LA,dvd_of_mod_eq_zero->E7,le_of_dvd->CT,mod_lt->mE,eq_zero_or_pos->Fa,mul_add->Ru,add_mod->It,mul_assoc->LF,mul_mod_mod->aaS,mul_le_mul_left->aaR,mod_eq_of_lt->nF,one_mul->CW,mod_mul_mod->Rt,div_add_mod->Rq,mul_mod->sN,mul_one->nY,mul_comm->LG,mod_two_eq_zero_or_one->CV,pow_pos->LJ,mul_add_mod->aaP,Coprime.coprime_mul_left->aaJ,pow_succ->AT,lt_or_ge->dT,mul_le_mul->ry,pow_mod->Fc,pow_mul->Fe,pow_two->Rv,pow_succ'->aaZ,eq_of_beq_eq_true->jF,one_pow->aaV,pow_add->aaX,zero_le->df,lt_trans->pj,reduceEqDiff->aY,le_of_lt->mV,lt_of_lt_of_le->mD,sub_self->yX,zero_add->nZ,le_trans->fc,mul_zero->aaT
open Int renaming toNat_natCast->dS,fdiv_eq_ediv_of_nonneg->EK,pow_pos->aac,natCast_mul->xB,mul_left_comm->CK,pow_succ->xC,mul_assoc->xA,mul_comm->yS,pow_add->Rb,sub_mul->Li,mul_sub->yT,dvd_add->xz,dvd_mul_of_dvd_right->EJ,natAbs_dvd_natAbs->Z6,natAbs_natCast->Q8,natCast_add->Z7,mul_add->Lf,mul_one->Ib,pow_zero->Lh,one_mul->EL,pow_mul->EM,natCast_dvd_natCast->Q9,emod_nonneg->Ia,emod_lt_of_pos->HZ,emod_eq_of_lt->Lc,add_emod->ZX,mul_emod->AH,mul_zero->Lg,zero_mul->Ic,sub_emod->aad,emod_emod_of_dvd->CJ,dvd_refl->CI,neg_zero->aaa,neg_mul->Z9,zero_add->EN,ofNat_lt->aab,natCast_emod->Ra,sub_self->Rc,emod_add_mul_ediv->ZZ,dvd_sub->Q7,dvd_zero->ZY,tmod_eq_emod_of_nonneg->CM,mul_nonneg->Z5,mul_le_mul->Z4,tdiv_eq_ediv_of_nonneg->aae,natCast_zero->tU,natCast_one->Z8
open Decidable renaming not_not->Lb
open Go.Proofs.Tryz renaming prog->aj,underlying23->eY,func201->abb,func46->RT,func94->RV,func69->RU,func30->abf,underlying28->jb,func221->xL,func222->abe,underlying242->abj,underlying230->abi
set_option maxHeartbeats 64000000
set_option maxRecDepth 100000
set_option linter.unusedSimpArgs false
set_option linter.unusedVariables false
set_option linter.constructorNameAsVariable false
set_option linter.defProp false
section
namespace Go.AE
mutual
def nq(n:Nat):AV->Bool
 | .list _ _ es=>GJ n es
 | .arr b _ _ _=>decide (b<n)
 | .agg cs=>o5 n cs
 | .tuple cs=>o5 n cs
 | .ptr (.box b) _=>decide (b<n)
 | .elem _ es _ _=>GJ n es
 | .func _ a b=>o5 n a&&o5 n b
 | .iface _ x=>nq n x
 |_=>ai
def o5(n:Nat):List AV->Bool
 | []=>ai
 |x::r=>nq n x&&o5 n r
def GJ(n:Nat):List (List AV)->Bool
 | []=>ai
 |r::rs=>o5 n r&&GJ n rs
end
def Ww(n):∀(a b:List AV),o5 n (a++b)=(o5 n a&&o5 n b)
 | [],b=>by simp[o5]
 |x::a,b=>by rw[jO,o5,o5,Ww n a b,ZM]
def GK(n):∀es:List (List AV),o5 n es.flatten=GJ n es
 | []=>rfl
 |r::es=>by rw[oK,Ww,GJ,GK n es]
def aP.low(K:aP)(n:Nat):aP:={K with β:=K.β.take n}
section
variable {K:aP}
def K5{b g:Nat}(h:K.β[b]?=aa g):b<K.β.length:=(aQ.1 h).1
mutual
def aU.low:∀{x:AV} {c:aL},aU K x c->nq K.β.length x=ai
 |_,_,.bad _=>rfl
 |_,_,.v _ _=>rfl
 |_,_,.nil _=>rfl
 |_,_,.iY _ _=>rfl
 |_,_,.list _ _ es _ _ _ _ _ _ _ hv _ _ _=>by rw[nq,<-GK];exact aM.low hv
 |_,_,.arr _ _ _ _ _ _ _ hb _ _ _ _=>by rw[nq];exact cz (K5 hb)
 |_,_,.agg _ _ hv=>by rw[nq];exact aM.low hv
 |_,_,.tuple _ _ hv=>by rw[nq];exact aM.low hv
 |_,_,.box _ _ _ hb=>by rw[nq];exact cz (K5 hb)
 |_,_,.eG _ _=>rfl
 |_,_,.elem _ es _ _ _ _ _ _ _ hv _ _ _ _=>by rw[nq,<-GK];exact aM.low hv
 |_,_,.func _ _ _ _ _ h1 h2=>by rw[nq,aM.low h1,aM.low h2];rfl
 |_,_,.yield _ _ _=>rfl
 |_,_,.iface _ _ _ hx=>by rw[nq];exact aU.low hx
def aM.low:∀{xs:List AV} {cs:List aL},aM K xs cs->o5 K.β.length xs=ai
 |_,_,.nil=>rfl
 |_,_,.cons _ _ _ _ hx hs=>by rw[o5,aU.low hx,aM.low hs];rfl
end
def Wx{n b g:Nat}(hb:K.β[b]?=aa g)(hn:b<n):(K.low n).β[b]?=aa g:=by show(K.β.take n)[b]?=aa g;rw[nU,aD hn,hb]
def vZ.low{n:Nat}{k:Tok}{g off sz m aA:Nat}(h:vZ K k g off sz m aA):vZ (K.low n) k g off sz m aA:=h
mutual
def aU.cut{n:Nat}:∀{x:AV} {c:aL},aU K x c->nq n x=ai->aU (K.low n) x c
 |_,_,.bad c,_=>.bad c
 |_,_,.v x hx,_=>.v x hx
 |_,_,.nil sz,_=>.nil sz
 |_,_,.iY sz a,_=>.iY sz a
 |_,_,.list k sz es g off m aA cells hn hr hv hc ht ha,h=>.list k sz es g off m aA cells hn hr (aM.cut hv (by rw[GK];rw[nq] at h;exact h)) hc ht.low ha
 |_,_,.arr b g off len aA fi hJ hb hl hc ho hr,h=>.arr b g off len aA fi hJ (Wx hb (by rw[nq] at h;exact of_decide_eq_true h)) hl hc ho hr
 |_,_,.agg cs vs hv,h=>.agg cs vs (aM.cut hv (by rw[nq] at h;exact h))
 |_,_,.tuple cs vs hv,h=>.tuple cs vs (aM.cut hv (by rw[nq] at h;exact h))
 |_,_,.box b g off hb,h=>.box b g off (Wx hb (by rw[nq] at h;exact of_decide_eq_true h))
 |_,_,.eG g off,_=>.eG g off
 |_,_,.elem sz es i off g o p cells hr hv hc hi hp ha,h=>.elem sz es i off g o p cells hr (aM.cut hv (by rw[GK];rw[nq] at h;exact h)) hc hi hp ha
 |_,_,.func fn first aA fs cs h1 h2,h=>.func fn first aA fs cs (aM.cut h1 (by rw[nq,bA] at h;exact h.1)) (aM.cut h2 (by rw[nq,bA] at h;exact h.2))
 |_,_,.yield l g hl,_=>.yield l g hl
 |_,_,.iface t x c hx,h=>.iface t x c (aU.cut hx (by rw[nq] at h;exact h))
def aM.cut{n:Nat}:∀{xs:List AV} {cs:List aL},aM K xs cs->o5 n xs=ai->aM (K.low n) xs cs
 |_,_,.nil,_=>.nil
 |_,_,.cons x c xs cs hx hs,h=>.cons x c xs cs (aU.cut hx (by rw[o5,bA] at h;exact h.1)) (aM.cut hs (by rw[o5,bA] at h;exact h.2))
end
end
section
variable {P:bB} {G:Nat->Option (List AV)} {w0 w w':World} {K K':aP} {h h':ao} {ok:bq->Nat->Code->Bool}
end
end Go.AE
end
section
namespace Go.AE
section
universe u
set_option linter.defProp false in
def goT:=ax @eX.{0,0} (ax @Option.map_none.{0,0} (ax @oa.{0,0} (ax @ev.{0,0} (ax @uN.{0,0} (ax @List.getD_cons_zero.{0} (ax @List.getD_cons_succ.{0} (ax @ja.{0} (ax @jD.{0} @pc.{0}))))))))
set_option linter.defProp false in
def goU:=ax @jv.{0} @jZ.{0}
set_option linter.defProp false in
def Wo:=ax @cH (ax @mc @Wp)
set_option linter.defProp false in
def aik:=ax @iJ.{0} (ax @List.length_nil.{0} (ax @du.{0} (ax @cH (ax @mc @Wp))))
set_option linter.defProp false in
def afI:=ax @afK (ax @ng (ax @Je (ax @afL (ax @afM @afJ))))
set_option linter.defProp false in
def adB:=ax @zn @A3
set_option linter.defProp false in
def amw:=ax @YL (ax @Tn @Xk)
end
set_option linter.defProp false in
def ZU:=@agb
set_option linter.defProp false in
def ZW:=@agf
set_option linter.defProp false in
def ZJ:=@adf
set_option linter.defProp false in
def ZL:=@adi
set_option linter.defProp false in
def ZV:=@age
set_option linter.defProp false in
def ZK:=@adh
set_option linter.defProp false in
def ZT:=@aga
set_option linter.defProp false in
def ZI:=@ade
def dZ{p:Prop}(h:p:=by first|assumption|(exact Nat.le_refl _)|omega|(simp only[aik]<;>omega)|(simp(disch:=(first|assumption|omega|(exact(cH _ _).symm)|(simp only[Wo];omega)|(refine Nat.le_antisymm ?_ ?_<;>simp only[Wo]<;>omega)|fail)) only[afI]<;>first|assumption|rfl)|(simp only[adB];assumption)|(exact Qz _ _)|(simp only[amw];first|assumption|exact Qz _ _)):p:=h
def dX{a b p:Prop}(x:a)(y:b)(f:a->b->p:=by first|exact ZU|exact ZW|exact ZJ|exact ZL|exact ZV|exact ZK|exact ZT|exact ZI):p:=f x y
end Go.AE
end
section
namespace Go.AE
section
variable {P:bB} {t0 t1 t elem:aH} {i:TypeInfo} {h:ao} {k k':Tok} {sz:Nat} {es new:List (List AV)}
def QM(h0:P.underlying t0=aa (.slice elem))(h1:P.underlying t1=aa (.slice elem))(hi:P.info? elem=aa i)(dV:0<i.size)(hz:(i.zero.map λz=>z.cells.size)=aa i.size)(lv:new≠[])
 (hb:(es.length+new.length) * i.bytes<=140737488355328) (hl:es.length+new.length<=9223372036854775807) (hs:sz=i.size∨es=[]) (hk:k=.nil∨k=.tight) {x:AV} (hx:mw h i.size x=aa new):
 sI P h #[t0,t1] (.list k sz es) x=aa (.arr h.boxes.length 0 (es.length+new.length) (es.length+new.length),h.push (es++new).flatten):=by
 unfold sI;simp only[ja,jD,pc,oa,h0,h1,hi,hx];rw[aD ⟨dV,hz⟩,aD hs,aG lv,aD ⟨hb,hl⟩];rcases hk with rfl|rfl<;>rfl
def Zh{b len:Nat}{cs:List AV}(h0:P.underlying t0=aa (.slice elem))(h1:P.underlying t1=aa (.slice elem))(hi:P.info? elem=aa i)(dV:0<i.size)(hz:(i.zero.map λz=>z.cells.size)=aa i.size)(lv:new≠[])
 (hb:(len+new.length) * i.bytes<=140737488355328) (hl:len+new.length<=9223372036854775807) (FZ:h.boxes[b]?=aa cs) (h2:0<len) (h3:len * i.size=cs.length) {x:AV} (hx:mw h i.size x=aa new):
 sI P h #[t0,t1] (.arr b 0 len len) x=aa (.arr h.boxes.length 0 (len+new.length) (len+new.length),(h.put b []).push (cs++new.flatten)):=by
 have hn:0<new.length:=by cases new with|nil=>exact absurd rfl lv|cons _ _=>simp
 unfold sI;simp only[ja,jD,pc,oa,h0,h1,hi,hx,FZ];rw[aD ⟨dV,hz⟩,aG ah,aD ⟨aT,h2,aT,h3,hb,hl⟩];rfl
def Pc:mw h sz (.list k sz es)=aa es:=by unfold mw rowsOf;simp
def Yy{b off len aA n:Nat}{m:Int}{kk:tS}(h0:P.underlying t=aa (.slice elem))(hs:dm P elem=aa n)(hn:n≠0)(h1:0<=m)(h2:m<=aA)(h3:0<aA):ie P t (.arr b off len aA) au (aa (.v (.int kk m))) au=aa (.arr b off m.toNat aA):=by
 have e1:fX aA au aA=aa aA:=rfl;have e2:fX aA (aa (.v (.int kk m))) len=aa m.toNat:=by show(if 0<=m/\m<=(aA:Int) then aa m.toNat else au)=_;rw[aD ⟨h1,h2⟩]
 have e3:fX m.toNat au 0=aa 0:=rfl;unfold ie;simp only[h0,hs,e1,e2,e3,AW,xw,ju,false_and,if_false,hn,Rz,Ff,AQ,ite_self]
end
end Go.AE
end
section
namespace Go.AE
def dO(sz:Nat)(h:ao)(x:AV)(ae:List (List AV)):Prop:=
 (∀r∈ae,r.length=sz)/\
 ((∃k s,x=.list k s ae/\(ae≠[]->s=sz))∨
  (∃b off aA cs,x=.arr b off ae.length aA/\ae.length<=aA/\h.boxes[b]?=aa cs/\(cs.drop off).take (ae.length * sz)=ae.flatten/\off+ae.length * sz<=cs.length))
section
variable {P:bB} {G:Nat->Option (List AV)} {h h':ao} {t e:aH} {sz:Nat} {x:AV} {ae:List (List AV)}
def dO.list{k:Tok}{s:Nat}(hr:∀r∈ae,r.length=sz)(hs:ae≠[]->s=sz):dO sz h (.list k s ae) ae:=⟨hr,.inl ⟨k,s,rfl,hs⟩⟩
def dO.box{b n:Nat}(hr:∀r∈ae,r.length=sz)(hn:n=ae.length)(hb:h.boxes[b]?=aa ae.flatten):dO sz h (.arr b 0 n n) ae:=by
 subst hn;refine⟨hr,.inr ⟨b,0,ae.length,ae.flatten,rfl,aJ _,hb,?_,?_⟩⟩
 ·rw[iB,<-na hr,gM]
 ·rw[na hr];omega
def dO.mono(s:dO sz h x ae)(m:∀(b:Nat) (cs:List AV),h.boxes[b]?=aa cs->h'.boxes[b]?=aa cs):dO sz h' x ae:=by
 obtain⟨hr,s⟩:=s;refine⟨hr,?_⟩;rcases s with s|⟨b,off,aA,cs,h1,h2,h3,h4⟩
 ·exact .inl s
 ·exact .inr ⟨b,off,aA,cs,h1,h2,m _ _ h3,h4⟩
def dO.ext(s:dO sz h x ae)(m:Ext h h'):dO sz h' x ae:=s.mono m.box
def dO.len(s:dO sz h x ae)(hu:P.underlying t=aa (.slice e)):dN P t x=aa (.v (.int .i64 ae.length)):=by
 rcases s.2 with⟨k,s,rfl,-⟩|⟨b,off,aA,cs,rfl,-⟩
 ·exact OX hu
 ·exact OW hu
def dO.index(s:dO sz h x ae)(hp:0<sz)(hu:P.underlying t=aa (.slice e))(hs:dm P e=aa sz){i:Nat}{row:List AV}(hi:ae[i]?=aa row):
 ∃p,(∀kk,dx P t x (.v (.int kk (i:Int)))=aa p)/\(fY P e=aa ay->aF P G h e p=row.head?)/\(fY P e=aa ai->aF P G h e p=aa (.agg row)):=by
 have az:=(aQ.1 hi).1;have ej:=s.1 row (List.mem_of_getElem? hi);rcases s.2 with⟨k,s',rfl,hk⟩|⟨b,off,aA,cs,rfl,h2,h3,h4,h5⟩
 ·have:s'=sz:=hk (by rintro rfl;simp at az);subst this;refine⟨.elem s' ae i 0,λkk=>?_,λha=>?_,λha=>?_⟩
  ·rw[ck hu hs ah ah,dS]
  ·rw[r9 ha hi,iB]
  ·rw[JS ha hs hi ah,iB,<-ej,gM]
 ·have dU:(cs.drop (off+i * sz)).take sz=row:=by have:=MO s.1 hi;rw[<-h4,Ri,Rp,xD] at this;rw[<-this];congr 1;have:(i+1) * sz<=ae.length * sz:=nX _ az;rw[fW] at this;omega
  have nk:off+i * sz+sz<=cs.length:=by have:(i+1) * sz<=ae.length * sz:=nX _ az;rw[fW] at this;omega
  refine⟨.ptr (.box b) (off+i * sz),λkk=>?_,λha=>?_,λha=>?_⟩
  ·rw[GF hu hs ah ah,dS]
  ·rw[ma ha h3,<-dU];obtain⟨n,rfl⟩:∃n,sz=n+1:=⟨sz - 1,by omega⟩;cases cs.drop (off+i * (n+1)) with|nil=>rfl|cons a l=>rfl
  ·rw[jj ha hs h3 nk,dU]
def dO.slice(s:dO sz h x ae)(hp:0<sz)(hu:P.underlying t=aa (.slice e))(hs:dm P e=aa sz){lo hi:Option AV}{l m:Nat}
 (tB:(hi=au/\m=ae.length)∨∃kk,hi=aa (.v (.int kk (m:Int)))/\m<=ae.length) (p9:(lo=au/\l=0)∨∃kk,lo=aa (.v (.int kk (l:Int)))) (BC:l<=m):
 ∃y,ie P t x lo hi au=aa y/\dO sz h y ((ae.take m).drop l):=by
 have hm:m<=ae.length:=by rcases tB with⟨-,q⟩|⟨_,-,q⟩<;>omega
 have bound:∀top,ae.length<=top->fX top hi ae.length=aa m:=λtop VM=>by
  rcases tB with⟨rfl,rfl⟩|⟨kk,rfl,q⟩
  ·rfl
  ·show(if 0<=(m:Int)/\(m:Int)<=(top:Int) then aa (m:Int).toNat else au)=_;rw[aD ⟨ah,by omega⟩,dS]
 have bound0:fX m lo 0=aa l:=by
  rcases p9 with⟨rfl,rfl⟩|⟨kk,rfl⟩
  ·rfl
  ·show(if 0<=(l:Int)/\(l:Int)<=(m:Int) then aa (l:Int).toNat else au)=_;rw[aD ⟨ah,by omega⟩,dS]
 have jg:∀r∈(ae.take m).drop l,r.length=sz:=λr hr=>s.1 r (pS (List.mem_of_mem_drop hr));rcases s.2 with⟨k,s',rfl,hk⟩|⟨b,off,aA,cs,rfl,h2,h3,h4,h5⟩
 ·have jI:fX ae.length au ae.length=aa ae.length:=rfl;have bD:sz=s'∨ae=[]:=by
   by_cases q:ae=[]
   ·exact .inr q
   ·exact .inl (hk q).symm
  refine⟨.list (wx k (decide (m=ae.length)) ay (m - l)) s' ((ae.take m).drop l),?_,jg,.inl ⟨_,_,rfl,λq=>hk (by rintro rfl;simp at q)⟩⟩;unfold ie;simp only[hu,hs,jI,bound ae.length (aJ _),bound0,AW,xw,ju,if_false,aD bD,Option.isNone_none,Bool.and_true]
 ·have jI:fX aA au aA=aa aA:=rfl;have bO:((ae.take m).drop l).length=m - l:=by rw[gE,fb];omega
  refine⟨.arr b (if aA=l then off else off+l * sz) (m - l) (aA - l),?_,jg,.inr ⟨b,_,aA - l,cs,by rw[bO],by omega,h3,?_,?_⟩⟩
  ·unfold ie;simp only[hu,hs,jI,bound aA h2,bound0,AW,xw,ju,if_false,false_and];rw[aG ah]
  ·rw[bO];by_cases q:aA=l
   ·have:m - l=0:=(by omega);rw[aD q,this,Ff,gm];have:(ae.take m).drop l=[]:=(by apply List.eq_nil_of_length_eq_zero;rw[bO];omega);rw[this];rfl
   ·rw[aG q,TR (λr hr=>s.1 r (pS hr)),MP s.1,<-h4,Rp,<-xD];have e1:min (m * sz) (ae.length * sz)=m * sz:=CU (nX _ hm);rw[e1,Ri,<-Nat.sub_mul]
  ·rw[bO];have e1:m * sz<=ae.length * sz:=nX _ hm;have e2:(m - l) * sz+l * sz=m * sz:=(by rw[<-fW,Nat.sub_add_cancel BC]);split<;>omega
def dO.got(s:dO sz h x ae):rowsOf h sz x=aa ae:=by
 rcases s.2 with⟨k,s',rfl,hk⟩|⟨b,off,aA,cs,rfl,h2,h3,h4,h5⟩
 ·unfold rowsOf;by_cases q:ae=[]
  ·simp[q]
  ·simp[hk q]
 ·unfold rowsOf;simp only[h3,aD h5,dE];apply Ih
  ·simp
  ·intro i h1 h6;rw[pg,AJ];have:=MO s.1 (a9 h6);rw[<-h4,Ri,Rp,xD] at this;rw[<-this];congr 1;have:(i+1) * sz<=ae.length * sz:=nX _ h6;rw[fW] at this;omega
def dO.news(s:dO sz h x ae):mw h sz x=aa ae:=by have:=s.got;rcases s.2 with⟨k,s',rfl,-⟩|⟨b,off,aA,cs,rfl,-⟩<;>exact this
end
end Go.AE
end
section
namespace Go.AE
section
variable {P:bB} {G:Nat->Option (List AV)} {t:aH} {x y:bH} {k k':tS} {a b:Int}
def sQ:cQ P .and t x y (.v (.int k a)) (.v (.int k b))=aa (.v (.int k (k.wrap (BitVec.ofInt k.bits a&&&BitVec.ofInt k.bits b).toNat))):=rB (v:=.int k (k.wrap (BitVec.ofInt k.bits a&&&BitVec.ofInt k.bits b).toNat)) (by simp[binOp,Op.intBits];rfl)
def Mj:cQ P .or t x y (.v (.int k a)) (.v (.int k b))=aa (.v (.int k (k.wrap (BitVec.ofInt k.bits a|||BitVec.ofInt k.bits b).toNat))):=rB (v:=.int k (k.wrap (BitVec.ofInt k.bits a|||BitVec.ofInt k.bits b).toNat)) (by simp[binOp,Op.intBits];rfl)
def Sr:cQ P .xor t x y (.v (.int k a)) (.v (.int k b))=aa (.v (.int k (k.wrap (BitVec.ofInt k.bits a^^^BitVec.ofInt k.bits b).toNat))):=rB (v:=.int k (k.wrap (BitVec.ofInt k.bits a^^^BitVec.ofInt k.bits b).toNat)) (by simp[binOp,Op.intBits];rfl)
def Mk(h:0<=b):cQ P .shl t x y (.v (.int k a)) (.v (.int k' b))=aa (.v (.int k (k.wrap (a * 2^min b.toNat k.bits)))):=by
 have hn:¬b<0:=by omega
 show(fj P (do eqGuard .shl t x y (.int k a) (.int k' b);binOp .shl t (.int k a) (.int k' b))).bind nR=_;rw[uz];have hg:fj P (eqGuard .shl t x y (.int k a) (.int k' b))=aa ():=rfl;rw[hg];simp[binOp,Op.shift,hn];rfl
def A0(h:0<=b):cQ P .shr t x y (.v (.int k a)) (.v (.int k' b))=aa (.v (.int k (a.fdiv (2^min b.toNat k.bits)))):=by
 have hn:¬b<0:=by omega
 show(fj P (do eqGuard .shr t x y (.int k a) (.int k' b);binOp .shr t (.int k a) (.int k' b))).bind nR=_;rw[uz];have hg:fj P (eqGuard .shr t x y (.int k a) (.int k' b))=aa ():=rfl;rw[hg];simp[binOp,Op.shift,hn];rfl
end
def aN(v:BitVec 32):AV:=.v (.int .u32 (v.toNat:Int))
section
variable {P:bB} {t:aH} {x y:bH} {k':tS} {u v:BitVec 32}
def wrap32(n):IntKind.u32.wrap n=n%4294967296:=by unfold IntKind.wrap;simp[IntKind.signed,IntKind.bits]
def ofInt32(v):BitVec.ofInt 32 (v.toNat:Int)=v:=by apply BitVec.eq_of_toNat_eq;rw[BitVec.toNat_ofInt];have:=v.isLt;simp;omega
def KY(v:BitVec 32):IntKind.u32.wrap (v.toNat:Int)=(v.toNat:Int):=by rw[wrap32];have:=v.isLt;omega
def C5:cQ P .and t x y (aN u) (aN v)=aa (aN (u&&&v)):=by unfold aN;rw[sQ,show IntKind.u32.bits=32 from rfl,ofInt32,ofInt32,KY]
def o7:cQ P .or t x y (aN u) (aN v)=aa (aN (u|||v)):=by unfold aN;rw[Mj,show IntKind.u32.bits=32 from rfl,ofInt32,ofInt32,KY]
def oH:cQ P .xor t x y (aN u) (aN v)=aa (aN (u^^^v)):=by unfold aN;rw[Sr,show IntKind.u32.bits=32 from rfl,ofInt32,ofInt32,KY]
def oc:cQ P .add t x y (aN u) (aN v)=aa (aN (u+v)):=by unfold aN;rw[Sq,wrap32,BitVec.toNat_add];congr 3
def sw{n:Nat}(hn:n<32):cQ P .shr t x y (aN u) (.v (.int k' (n:Int)))=aa (aN (u>>>n)):=by unfold aN;rw[A0 ah,dS,show IntKind.u32.bits=32 from rfl,CU ah,BitVec.toNat_ushiftRight,Nat.shiftRight_eq_div_pow];congr 3;rw[EK _ (by have:(0:Int)<2^n:=aac aO;omega)];simp
def rn{n:Nat}(hn:n<32):cQ P .shl t x y (aN u) (.v (.int k' (n:Int)))=aa (aN (u<<<n)):=by unfold aN;rw[Mk ah,dS,show IntKind.u32.bits=32 from rfl,CU ah,wrap32,BitVec.toNat_shiftLeft,AU];congr 3
end
end Go.AE
end
section
namespace Go.AE
section
variable {P:bB} {h:ao} {t0 t1 elem:aH} {kn k:tS} {i:TypeInfo} {zero:List AV} {sz n:Nat}
def Si(h0:P.underlying t0=aa (.slice elem))(h1:P.underlying t1=aa (.int kn))(hi:P.info? elem=aa i)(hz:(gy P elem).bind AV.bU=aa zero)(hn:0<n)(hb:n * i.bytes<=140737488355328)(hm:n<=9223372036854775807)(hs:0<i.size)(hl:zero.length=i.size):
 gd P h #[t0,t1] (.list .nil sz []) (.v (.int k (n:Nat)))=aa (.arr h.boxes.length 0 n n,h.push (bm n zero).flatten):=by
 unfold gd K4;have fG:((n:Nat):Int) * i.bytes<=140737488355328:=by
  have:((n * i.bytes:Nat):Int)<=140737488355328:=Int.ofNat_le.2 hb
  rwa [xB] at this
 simp only[ja,jD,pc,oa,h0,h1,hi,hz];rw[aD ⟨rfl,by omega,fG,by omega,hs,hl⟩,dS];rfl
def Sg{b off len aA:Nat}{cs:List AV}{new:List (List AV)}{x:AV}(h0:P.underlying t0=aa (.slice elem))(h1:P.underlying t1=aa (.slice elem))(hi:P.info? elem=aa i)(hs:0<i.size)(hz:(i.zero.map λz=>z.cells.size)=aa i.size)
 (hx:mw h i.size x=aa new) (hb:h.boxes[b]?=aa cs) (h2:len+new.length<=aA) (h3:off+aA * i.size<=cs.length):
 gd P h #[t0,t1] (.arr b off len aA) x=aa (.arr b off (len+new.length) aA,h.put b (eK cs (off+len * i.size) new.flatten)):=by
 unfold gd;simp only[ja,jD,pc,oa,h0,h1,hi,hx,hb];rw[aD ⟨hs,hz⟩,aD ⟨h2,h3⟩];rfl
end
end Go.AE
end
section
namespace Go.AE
def AD(t:Nat):Tok->Bool
 | .free i=>decide (i<t)
 |_=>ai
mutual
def aW(n l t:Nat):AV->Bool
 | .list k _ es=>AD t k&&iU n l t es
 | .arr b _ _ _=>decide (b<n)
 | .agg cs=>bg n l t cs
 | .tuple cs=>bg n l t cs
 | .ptr (.box b) _=>decide (b<n)
 | .elem _ es _ _=>iU n l t es
 | .func _ a b=>bg n l t a&&bg n l t b
 | .yield i=>decide (i<l)
 | .iface _ x=>aW n l t x
 |_=>ai
def bg(n l t:Nat):List AV->Bool
 | []=>ai
 |x::r=>aW n l t x&&bg n l t r
def iU(n l t:Nat):List (List AV)->Bool
 | []=>ai
 |r::rs=>bg n l t r&&iU n l t rs
end
def TK(n l t):∀(a b:List AV),bg n l t (a++b)=(bg n l t a&&bg n l t b)
 | [],b=>by simp[bg]
 |x::a,b=>by rw[jO,bg,bg,TK n l t a b,ZM]
def sX(n l t):∀es:List (List AV),bg n l t es.flatten=iU n l t es
 | []=>rfl
 |r::es=>by rw[oK,TK,iU,sX n l t es]
def ct:Tok->Tok
 | .free _=>.held
 |k=>k
mutual
def aI:AV->AV
 | .list k sz es=>.list (ct k) sz (fS es)
 | .tuple cs=>.tuple (cA cs)
 | .agg cs=>.agg (cA cs)
 | .iface t x=>.iface t (aI x)
 |x=>x
def cA:List AV->List AV
 | []=>[]
 |x::r=>aI x::cA r
def fS:List (List AV)->List (List AV)
 | []=>[]
 |r::rs=>cA r::fS rs
end
def Vr:∀a b:List AV,cA (a++b)=cA a++cA b
 | [],b=>rfl
 |x::a,b=>by rw[jO,cA,Vr a b,cA,jO]
def DJ:∀es:List (List AV),(fS es).flatten=cA es.flatten
 | []=>rfl
 |r::es=>by rw[fS,oK,oK,Vr,DJ es]
def Vs:∀a:List AV,(cA a).length=a.length
 | []=>rfl
 |x::a=>by rw[cA,iJ,Vs a,iJ]
def Gp:∀a:List (List AV),(fS a).length=a.length
 | []=>rfl
 |x::a=>by rw[fS,iJ,Gp a,iJ]
def JB{sz}:∀{es:List (List AV)},(∀r∈es,r.length=sz)->∀r∈fS es,r.length=sz
 | [],_,r,h=>by cases h
 |a::es,h,r,hr=>by
  rw[fS] at hr;rcases jm.1 hr with rfl|hr
  ·rw[Vs];exact h a ga
  ·exact JB (λr hr=>h r (fR _ hr)) r hr
def ahl(x):(aI x).dW=x.dW:=by cases x<;>rfl
def N9:∀a:List AV,(cA a).all AV.dW=a.all AV.dW
 | []=>rfl
 |x::a=>by rw[cA,EO,ahl,N9 a,EO]
section
variable {K:aP}
def arv{b g:Nat}(h:K.γ[b]?=aa g):b<K.γ.length:=(aQ.1 h).1
mutual
def aU.fit:∀{x:AV} {c:aL},aU K x c->aW K.β.length K.γ.length K.tn x=ai
 |_,_,.bad _=>rfl
 |_,_,.v _ _=>rfl
 |_,_,.nil _=>rfl
 |_,_,.iY _ _=>rfl
 |_,_,.list k _ es _ _ _ _ _ _ _ hv _ ht _=>by
  rw[aW,bA,<-sX];refine⟨?_,aM.fit hv⟩;cases k with|free i=>exact cz ht.2.1|_=>rfl
 |_,_,.arr _ _ _ _ _ _ _ hb _ _ _ _=>by rw[aW];exact cz (K5 hb)
 |_,_,.agg _ _ hv=>by rw[aW];exact aM.fit hv
 |_,_,.tuple _ _ hv=>by rw[aW];exact aM.fit hv
 |_,_,.box _ _ _ hb=>by rw[aW];exact cz (K5 hb)
 |_,_,.eG _ _=>rfl
 |_,_,.elem _ es _ _ _ _ _ _ _ hv _ _ _ _=>by rw[aW,<-sX];exact aM.fit hv
 |_,_,.func _ _ _ _ _ h1 h2=>by rw[aW,aM.fit h1,aM.fit h2];rfl
 |_,_,.yield _ _ hl=>by rw[aW];exact cz (arv hl)
 |_,_,.iface _ _ _ hx=>by rw[aW];exact aU.fit hx
def aM.fit:∀{xs:List AV} {cs:List aL},aM K xs cs->bg K.β.length K.γ.length K.tn xs=ai
 |_,_,.nil=>rfl
 |_,_,.cons _ _ _ _ hx hs=>by rw[bg,aU.fit hx,aM.fit hs];rfl
end
mutual
def aU.wV{K2:aP}{n l t:Nat}(hβ:∀b g:Nat,b<n->K.β[b]?=aa g->K2.β[b]?=aa g)(hγ:∀b g:Nat,b<l->K.γ[b]?=aa g->K2.γ[b]?=aa g)(iq:∀g j c,K.ic g j=aa c->K2.ic g j=aa c)(vm:K2.tk=K.tk)(tI:K2.tn=t)(nm:∀b,b<n->K2.lb b=K.lb b):
 ∀{x:AV} {c:aL},aU K x c->aW n l t x=ai->aU K2 x c
 |_,_,.bad c,_=>.bad c
 |_,_,.v x hx,_=>.v x hx
 |_,_,.nil sz,_=>.nil sz
 |_,_,.iY sz a,_=>.iY sz a
 |_,_,.list k sz es g off m aA cells hn hr hv hc ht ha,h=>by
  rw[aW,bA] at h;refine .list k sz es g off m aA cells hn hr (aM.wV hβ hγ iq vm tI nm hv (by rw[sX];exact h.2)) (λj c hj=>iq _ _ _ (hc j c hj)) ⟨ht.1,?_⟩ ha;have h1:=h.1;have h2:=ht.2;cases k with|free i=>simp only at h2 ⊢;rw[vm,tI];exact⟨of_decide_eq_true h1,h2.2⟩|_=>exact h2
 |_,_,.arr b g off len aA fi hJ hb hl hc ho hr,h=>by rw[aW] at h;have az:=of_decide_eq_true h;exact .arr b g off len aA fi hJ (hβ _ _ az hb) hl hc ho (by rw[nm b az];exact hr)
 |_,_,.agg cs vs hv,h=>.agg cs vs (aM.wV hβ hγ iq vm tI nm hv (by rw[aW] at h;exact h))
 |_,_,.tuple cs vs hv,h=>.tuple cs vs (aM.wV hβ hγ iq vm tI nm hv (by rw[aW] at h;exact h))
 |_,_,.box b g off hb,h=>.box b g off (hβ _ _ (by rw[aW] at h;exact of_decide_eq_true h) hb)
 |_,_,.eG g off,_=>.eG g off
 |_,_,.elem sz es i off g o p cells hr hv hc hi hp ha,h=>.elem sz es i off g o p cells hr (aM.wV hβ hγ iq vm tI nm hv (by rw[sX];rw[aW] at h;exact h)) (λj c hj=>iq _ _ _ (hc j c hj)) hi hp ha
 |_,_,.func fn first aA fs cs h1 h2,h=>.func fn first aA fs cs (aM.wV hβ hγ iq vm tI nm h1 (by rw[aW,bA] at h;exact h.1)) (aM.wV hβ hγ iq vm tI nm h2 (by rw[aW,bA] at h;exact h.2))
 |_,_,.yield i g hl,h=>.yield i g (hγ _ _ (by rw[aW] at h;exact of_decide_eq_true h) hl)
 |_,_,.iface t x c hx,h=>.iface t x c (aU.wV hβ hγ iq vm tI nm hx (by rw[aW] at h;exact h))
def aM.wV{K2:aP}{n l t:Nat}(hβ:∀b g:Nat,b<n->K.β[b]?=aa g->K2.β[b]?=aa g)(hγ:∀b g:Nat,b<l->K.γ[b]?=aa g->K2.γ[b]?=aa g)(iq:∀g j c,K.ic g j=aa c->K2.ic g j=aa c)(vm:K2.tk=K.tk)(tI:K2.tn=t)(nm:∀b,b<n->K2.lb b=K.lb b):
 ∀{xs:List AV} {cs:List aL},aM K xs cs->bg n l t xs=ai->aM K2 xs cs
 |_,_,.nil,_=>.nil
 |_,_,.cons x c xs cs hx hs,h=>.cons x c xs cs (aU.wV hβ hγ iq vm tI nm hx (by rw[bg,bA] at h;exact h.1)) (aM.wV hβ hγ iq vm tI nm hs (by rw[bg,bA] at h;exact h.2))
end
mutual
def aU.hold:∀{x:AV} {c:aL},aU K x c->aU K (aI x) c
 |_,_,.bad c=>.bad c
 |_,_,.v x hx=>.v x hx
 |_,_,.nil sz=>.nil sz
 |_,_,.iY sz a=>.iY sz a
 |_,_,.list k sz es g off m aA cells hn hr hv hc ht ha=>by
  have qi:aM K (fS es).flatten cells:=by rw[DJ];exact aM.hold hv
  have pY:(fS es).flatten.all AV.dW=ai:=by rw[DJ,N9];exact ha
  have DH:m=(fS es).length:=by rw[Gp];exact hn
  cases k with|free i=>exact .list .held sz _ g off m aA cells DH (JB hr) qi hc ⟨ht.1,aT⟩ pY|_=>exact .list _ sz _ g off m aA cells DH (JB hr) qi hc ht pY
 |_,_,.arr b g off len aA fi hJ hb hl hc ho hr=>.arr b g off len aA fi hJ hb hl hc ho hr
 |_,_,.agg cs vs hv=>.agg _ vs (aM.hold hv)
 |_,_,.tuple cs vs hv=>.tuple _ vs (aM.hold hv)
 |_,_,.box b g off hb=>.box b g off hb
 |_,_,.eG g off=>.eG g off
 |_,_,.elem sz es i off g o p cells hr hv hc hi hp ha=>.elem sz es i off g o p cells hr hv hc hi hp ha
 |_,_,.func fn first aA fs cs h1 h2=>.func fn first aA fs cs h1 h2
 |_,_,.yield l g hl=>.yield l g hl
 |_,_,.iface t x c hx=>.iface t _ c (aU.hold hx)
def aM.hold:∀{xs:List AV} {cs:List aL},aM K xs cs->aM K (cA xs) cs
 |_,_,.nil=>.nil
 |_,_,.cons x c xs cs hx hs=>.cons _ c _ cs (aU.hold hx) (aM.hold hs)
end
end
section
variable {P:bB} {G:Nat->Option (List AV)} {w0 w w':World} {K K':aP} {h h':ao} {ok:bq->Nat->Code->Bool}
end
end Go.AE
end
section
namespace Go.AE
section
variable {P:bB} {G:Nat->Option (List AV)} {w0:World} {aK:bq->Option (List AV->ao->Option (AV × ao))}
def xS{L:List bq}(h:(L.all λg=>match P.funcs[g]? with|some fn=>fn.body.isSome|none=>ay)=ai):∀g∈L,∃fn,P.funcs[g]?=aa fn/\fn.body.isSome=ai:=by
 intro g hg;have:=eE.1 h g hg;split at this
 ·rename_i fn gG;exact⟨fn,gG,this⟩
 ·cases this
variable {L:List bq} {R:Rec} {g:bq} {args:List AV} {h h2:ao} {x y:AV}
end
end Go.AE
end
section
namespace Go.NT
def eD:List Nat->Nat
 | []=>0
 |x::l=>x+eD l
def mA:List Int->Int
 | []=>1
 |x::l=>x * mA l
def Y8{l m}(h:l.Perm m):eD l=eD m:=by
 induction h with
 |nil=>rfl|cons x _ ih=>simp only[eD,ih]|swap x y l=>simp only[eD];omega|trans _ _ h1 h2=>exact h1.trans h2
def akA{l m}(h:l.Perm m):mA l=mA m:=by
 induction h with
 |nil=>rfl|cons x _ ih=>simp only[mA,ih]|swap x y l=>simp only[mA];rw[CK]|trans _ _ h1 h2=>exact h1.trans h2
def Y7(l m):eD (l++m)=eD l+eD m:=by
 induction l with
 |nil=>simp[eD]|cons x l ih=>simp only[jO,eD,ih];omega
def fk(h:Nat):List Nat:=List.range' 1 h
def vz{k h}:k∈fk h↔1<=k/\k<=h:=by
 unfold fk;rw[List.mem_range'];constructor
 ·rintro⟨i,hi,rfl⟩;omega
 ·rintro⟨h1,h2⟩;exact⟨k - 1,by omega,by omega⟩
def XH(h):fk (h+1)=fk h++[h+1]:=by unfold fk;rw[List.range'_1_concat,aaK 1 h]
def PO(h):(fk h).length=h:=by simp[fk]
def amx(h):(fk h).Nodup:=List.nodup_range' 1
def aj0:∀{l m:List Nat},l.Nodup->(∀x∈l,x∈m)->m.length<=l.length->l.Perm m:=by
 intro l
 induction l with
 |nil=>
  intro m _ _ bO;have:m=[]:=by cases m with|nil=>rfl|cons _ _=>simp at bO
  subst this;exact .nil
 |cons x l ih=>
  intro m hl hs bO;have hx:=hs x ga;have hp:=List.perm_cons_erase hx;rw[EX] at hl;refine List.Perm.trans (.cons x (ih hl.2 (λy hy=>?_) ?_)) hp.symm
  ·have bE:y≠x:=(by rintro rfl;exact hl.1 hy);exact(List.mem_erase_of_ne bE).2 (hs y (fR _ hy))
  ·rw[List.length_erase_of_mem hx];simp at bO;omega
def ai7{f:Nat->Nat}:∀{l:List Nat},l.Nodup->(∀x∈l,∀y∈l,f x=f y->x=y)->(l.map f).Nodup:=by
 intro l
 induction l with
 |nil=>intro _ _;exact List.nodup_nil|cons x l ih=>intro h hf;rw[EX] at h;rw[ev,EX];refine⟨λhm=>?_,ih h.2 λa ha b hb=>hf a (fR _ ha) b (fR _ hb)⟩;obtain⟨y,hy,he⟩:=jE.1 hm;have:=hf y (fR _ hy) x ga he;subst this;exact h.1 hy
def fl(a n k:Nat):Nat:=if n<2 * (a * k%n) then 1 else 0
def ab(a n k:Nat):Nat:=if n<2 * (a * k%n) then n - a * k%n else a * k%n
def mu(a n:Nat):Nat:=eD ((fk (n/2)).map (fl a n))
section
variable {a b n h:Nat}
def XB(hc:nW a n){k:Nat}(h0:0<k)(h1:k<n):a * k%n≠0:=λq=>by have:n∣k:=(LA hc).dvd_of_dvd_mul_left (E7 q);have:=CT h0 this;omega
def RX(hn:n=2 * h+1)(hc:nW a n){k:Nat}(hk:1<=k/\k<=h):1<=ab a n k/\ab a n k<=h:=by have h1:=XB hc (k:=k) ah ah;have h2:=mE (a * k) (ah:0<n);unfold ab;split<;>omega
def abm(hn:n=2 * h+1)(hc:nW a n){k l:Nat}(hk:1<=k/\k<=h)(hl:1<=l/\l<=h)(he:ab a n k=ab a n l):k=l:=by
 have zR:=mE (a * k) (ah:0<n);have tE:=mE (a * l) (ah:0<n);have key:∀{x y:Nat},x<=y->y<n->a * x%n=a * y%n->x=y:=by
  intro x y VW hy q;have hd:n∣a * y - a * x:=E7 (Nat.sub_mod_eq_zero_of_mod_eq q.symm);rw[<-Nat.mul_sub] at hd;have:=(LA hc).dvd_of_dvd_mul_left hd;rcases Fa (y - x) with q|q
  ·omega
  ·have:=CT q this;omega
 have key2:a * k%n+a * l%n≠n:=λq=>by
  have hd:n∣a * (k+l):=by rw[Ru];apply E7;rw[It,q,Nat.mod_self]
  have:=(LA hc).dvd_of_dvd_mul_left hd;have:=CT ah this;omega
 have same:a * k%n=a * l%n->k=l:=λq=>by
  rcases Nat.le_total k l with p|p
  ·exact key p ah q
  ·exact(key p ah q.symm).symm
 unfold ab at he;split at he<;>split at he
 ·exact same ah
 ·exact absurd ah key2
 ·exact absurd ah key2
 ·exact same he
def Px(hn:n=2 * h+1)(hc:nW a n):((fk h).map (ab a n)).Perm (fk h):=by refine aj0 (ai7 (amx h) λx hx y hy he=>abm hn hc (vz.1 hx) (vz.1 hy) he) (λx hx=>?_) bG;obtain⟨y,hy,rfl⟩:=jE.1 hx;exact vz.2 (RX hn hc (vz.1 hy))
def Zb{f g q}:∀{l:List Nat},(∀k∈l,f k%2=(g k+q k)%2)->eD (l.map f)%2=(eD (l.map g)+eD (l.map q))%2:=by
 intro l
 induction l with
 |nil=>intro _;rfl|cons x l ih=>intro hf;have h1:=hf x ga;have h2:=ih λk hk=>hf k (fR _ hk);simp only[ev,eD];omega
def afr(hn:n=2 * h+1)(ha:nW a n)(hb:nW b n){k:Nat}(hk:1<=k/\k<=h):fl (a * b) n k%2=(fl b n k+fl a n (ab b n k))%2:=by
 have hbr:=RX hn hb hk;have hx0:=XB ha (k:=ab b n k) ah ah;have ff:=mE (a * ab b n k) (ah:0<n);have ej:=mE (b * k) (ah:0<n);have e1:a * b * k%n=a * (b * k%n)%n:=by rw[LF,aaS]
 unfold fl;rw[e1];by_cases hr:n<2 * (b * k%n)
 ·have yc:ab b n k=n - b * k%n:=by unfold ab;rw[aD hr]
  rw[aD hr];have yo:=mE (a * (b * k%n)) (ah:0<n);have hs:(a * (b * k%n)%n+a * ab b n k%n)%n=0:=by rw[<-It,<-Ru,yc,(ah:b * k%n+(n - b * k%n)=n),Nat.mul_mod_left]
  have Ab:a * (b * k%n)%n+a * ab b n k%n=n:=by
   have hd:=E7 hs;obtain⟨c,hc⟩:=hd;rcases c with _|_|c
   ·omega
   ·omega
   ·exfalso;have:n * 2<=n * (c+1+1):=aaR n ah;omega
  split<;>split<;>omega
 ·have yc:ab b n k=b * k%n:=by unfold ab;rw[aG hr]
  rw[aG hr,yc];simp
def aiW(hn:n=2 * h+1)(ha:nW a n)(hb:nW b n):mu (a * b) n%2=(mu a n+mu b n)%2:=by
 have hh:n/2=h:=by omega
 unfold mu;rw[hh,Zb (g:=fl b n) (q:=λk=>fl a n (ab b n k)) λk hk=>afr hn ha hb (vz.1 hk)];have e:(fk h).map (λk=>fl a n (ab b n k))=((fk h).map (ab b n)).map (fl a n):=by rw[AL];rfl
 rw[e,Y8 ((Px hn hb).map (fl a n))];omega
def Y9(c):∀m:Nat,eD ((fk m).map λk=>if c<k then 1 else 0)=m - c:=by
 intro m
 induction m with
 |zero=>simp[fk,eD]|succ m ih=>rw[XH,oM,Y7,ih];simp only[ev,uN,eD];split<;>omega
def ap3(c):∀m:Nat,eD ((fk m).map λk=>if k<=c then 1 else 0)=min c m:=by
 intro m
 induction m with
 |zero=>simp[fk,eD]|succ m ih=>rw[XH,oM,Y7,ih];simp only[ev,uN,eD];split<;>omega
def KM{f g}:∀{l:List Nat},(∀k∈l,f k=g k)->eD (l.map f)=eD (l.map g):=by
 intro l
 induction l with
 |nil=>intro _;rfl|cons x l ih=>intro hf;simp only[ev,eD];rw[hf x ga,ih λk hk=>hf k (fR _ hk)]
def aiY(hn:n=2 * h+1):mu 2 n=h - h/2:=by
 have hh:n/2=h:=by omega
 unfold mu;rw[hh,<-Y9 (h/2) h];refine KM λk hk=>?_;have:=vz.1 hk;unfold fl;rw[nF ah];split<;>split<;>omega
def aiX(hn:n=2 * h+1):mu 1 n=0:=by
 have hh:n/2=h:=by omega
 unfold mu;rw[hh];have:(fk h).map (fl 1 n)=(fk h).map λk=>if h<k then 1 else 0:=by apply Io;intro k hk;have:=vz.1 hk;unfold fl;rw[CW,nF ah];split<;>split<;>omega
 rw[this,Y9];omega
def aiV:mu (a%n) n=mu a n:=by unfold mu;refine KM λk _=>?_;unfold fl;rw[Rt]
def WE(hn:n=2 * h+1)(hc:nW a n)(ha:a%2=1):mu a n%2=eD ((fk h).map λk=>a * k/n)%2:=by
 have hh:n/2=h:=by omega
 have step:∀k∈fk h,fl a n k%2=((a * k/n)+(ab a n k+k))%2:=by
  intro k _;have hd:=Rq (a * k) n;have hr:=mE (a * k) (ah:0<n);have p1:a * k%2=k%2:=by rw[sN,ha];simp
  have p2:n * (a * k/n)%2=(a * k/n)%2:=by rw[sN,(ah:n%2=1)];simp
  generalize n * (a * k/n)=u at *
  generalize a * k/n=v at *
  unfold fl ab;generalize a * k%n=r at *
  split<;>omega
 unfold mu;rw[hh,Zb step];have e:eD ((fk h).map λk=>ab a n k+k)=eD ((fk h).map (ab a n))+eD ((fk h).map λk=>k):=by
  generalize fk h=l
  induction l with
  |nil=>rfl|cons x l ih=>simp only[ev,eD];rw[ih];omega
 rw[e,Y8 (Px hn hc),List.map_id'];omega
end
def afF(f:Nat->Nat->Nat):∀(l m:List Nat),eD (l.map λk=>eD (m.map λj=>f k j))=eD (m.map λj=>eD (l.map λk=>f k j)):=by
 intro l m
 induction l with
 |nil=>
  simp only[uN,eD]
  induction m with
  |nil=>rfl|cons x m ih=>simp only[ev,eD];rw[<-ih]
 |cons x l ih=>
  simp only[ev,eD];rw[ih];clear ih
  induction m with
  |nil=>rfl|cons y m ih=>simp only[ev,eD];rw[<-ih];omega
def TT{m n g h k}(hn:n=2 * h+1)(hm:m=2 * g+1)(hk:k<=h):m * k/n=eD ((fk g).map λl=>if n * l<=m * k then 1 else 0):=by
 have eC:m * k/n<=g:=by
  have:m * k/n<g+1:=by rw[Nat.div_lt_iff_lt_mul ah];have h1:m * k<=m * h:=aaR m hk;have h2:(g+1) * n=m * h+(g+1+h):=(by subst hn hm;simp only[fW,Ru,nY,CW];have:g * (2 * h)=2 * g * h:=(by rw[LG 2 g,LF]);omega);omega
  omega
 have:(fk g).map (λl=>if n * l<=m * k then 1 else 0)=(fk g).map λl=>if l<=m * k/n then 1 else 0:=by
  apply Io;intro l _;have:(n * l<=m * k)↔l<=m * k/n:=by rw[Nat.le_div_iff_mul_le ah,LG]
  simp only[this]
 rw[this,ap3];omega
def ah4{m n g h}(hn:n=2 * h+1)(hm:m=2 * g+1)(hc:nW m n):
 eD ((fk h).map λk=>m * k/n)+eD ((fk g).map λl=>n * l/m)=h * g:=by
 have e1:eD ((fk h).map λk=>m * k/n)=eD ((fk h).map λk=>eD ((fk g).map λl=>if n * l<=m * k then 1 else 0)):=
  KM λk hk=>TT hn hm (vz.1 hk).2
 have e2:eD ((fk g).map λl=>n * l/m)=eD ((fk g).map λl=>eD ((fk h).map λk=>if m * k<=n * l then 1 else 0)):=
  KM λl hl=>TT hm hn (vz.1 hl).2
 rw[e1,e2,afF (λl k=>if m * k<=n * l then 1 else 0)];have one:∀k∈fk h,∀l∈fk g,(if n * l<=m * k then 1 else 0)+(if m * k<=n * l then 1 else 0)=1:=by
  intro k hk l hl;have hk:=vz.1 hk;have bE:m * k≠n * l:=λq=>by have hd:n∣m * k:=⟨l,q⟩;have:=(LA hc).dvd_of_dvd_mul_left hd;have:=CT ah this;omega
  split<;>split<;>omega
 have inner:∀(k:Nat) (ls:List Nat),k∈fk h->(∀l∈ls,l∈fk g)->eD (ls.map λl=>if n * l<=m * k then 1 else 0)+eD (ls.map λl=>if m * k<=n * l then 1 else 0)=ls.length:=by
  intro k ls hk
  induction ls with
  |nil=>intro _;rfl|cons x ls ih=>intro hs;have h1:=one k hk x (hs x ga);have h2:=ih λl hl=>hs l (fR _ hl);simp only[ev,eD,iJ];omega
 have outer:∀(ks:List Nat),(∀k∈ks,k∈fk h)->eD (ks.map λk=>eD ((fk g).map λl=>if n * l<=m * k then 1 else 0))+eD (ks.map λk=>eD ((fk g).map λl=>if m * k<=n * l then 1 else 0))=ks.length * g:=by
  intro ks
  induction ks with
  |nil=>intro _;simp[eD]|cons x ks ih=>intro hs;have h1:=inner x (fk g) (hs x ga) (λ_ h=>h);rw[PO] at h1;have h2:=ih λl hl=>hs l (fR _ hl);simp only[ev,eD,iJ,fW,CW];omega
 have:=outer (fk h) (λ_ h=>h);rw[PO] at this;exact this
def ak5{m n g h}(hn:n=2 * h+1)(hm:m=2 * g+1)(hc:nW m n):(mu m n+mu n m)%2=h * g%2:=by have e1:=WE hn hc ah;have e2:=WE hm hc.symm ah;have:=ah4 hn hm hc;rw[It,e1,e2,<-It,this]
end Go.NT
end
section
namespace Go.NT
def Pl:∀c:Nat,(1:Int)^c=1:=by
 intro c
 induction c with
 |zero=>rfl|succ c ih=>rw[xC,ih];rfl
def yq(p:Nat):Prop:=2<=p/\∀d,d∣p->d=1∨d=p
def yq.coprime{p k}(hp:yq p)(h0:0<k)(h1:k<p):Nat.Coprime k p:=by
 have hd:Nat.gcd k p∣p:=Nat.gcd_dvd_right k p;rcases hp.2 _ hd with q|q
 ·exact q
 ·have:=CT h0 (Nat.gcd_dvd_left k p);omega
def akC(a):∀l:List Nat,mA (l.map λ(k:Nat)=>a * (k:Int))=a^l.length * mA (l.map λ(k:Nat)=>(k:Int)):=by
 intro l
 induction l with
 |nil=>simp[mA]|cons x l ih=>simp only[ev,mA,ih,iJ,xC];rw[xA,xA,CK (x:Int),<-xA a,yS a,xA]
def akD(f)(g):∀l:List Nat,mA (l.map λk=>(-1)^f k * g k)=(-1)^eD (l.map f) * mA (l.map g):=by
 intro l
 induction l with
 |nil=>simp[mA,eD]|cons x l ih=>simp only[ev,mA,eD,ih,Rb];rw[xA,xA,CK (g x)]
def akB{p}{f g}:∀{l:List Nat},(∀k∈l,p∣f k - g k)->p∣mA (l.map f) - mA (l.map g):=by
 intro l
 induction l with
 |nil=>intro _;simp[mA]|cons x l ih=>
  intro h;have h1:=h x ga;have h2:=ih λk hk=>h k (fR _ hk);simp only[ev,mA];generalize mA (l.map f)=F at *
  generalize mA (l.map g)=G at *
  have e:f x * F - g x * G=(f x - g x) * F+g x * (F - G):=by rw[Li,yT];omega
  rw[e];exact xz (Int.dvd_mul_of_dvd_left h1) (EJ h2)
def cancel{p}(hp:yq p):∀(l:List Nat) (x:Int),(∀k∈l,0<k/\k<p)->(p:Int)∣x * mA (l.map λ(k:Nat)=>(k:Int))->(p:Int)∣x:=by
 intro l
 induction l with
 |nil=>intro x _ h;simpa [mA] using h|cons k l ih=>
  intro x hk h;obtain⟨h0,h1⟩:=hk k ga;refine ih x (λj hj=>hk j (fR _ hj)) ?_;simp only[ev,mA] at h;rw[CK] at h;generalize x * mA (l.map λ(k:Nat)=>(k:Int))=y at *
  have hn:=Z6.2 h;rw[Int.natAbs_mul,Q8,Q8] at hn;have:=(hp.coprime h0 h1).symm.dvd_of_dvd_mul_left hn;exact Z6.1 (by rw[Q8];exact this)
def Uc{p h a}(hp:yq p)(hn:p=2 * h+1)(hc:Nat.Coprime a p):(p:Int)∣(a:Int)^h - (-1)^mu a p:=by
 have hh:p/2=h:=by omega
 have step:∀k∈fk h,(p:Int)∣(a:Int) * (k:Int) - (-1)^fl a p k * (ab a p k:Int):=by
  intro k _;have hd:=Rq (a * k) p;have hr:=mE (a * k) (ah:0<p);have jJ:(a:Int) * (k:Int)=(p:Int) * ((a * k/p:Nat):Int)+((a * k%p:Nat):Int):=by rw[<-xB,<-xB,<-Z7,hd]
  unfold fl ab;by_cases q:p<2 * (a * k%p)
  ·rw[aD q,aD q,jJ];have e:((p - a * k%p:Nat):Int)=(p:Int) - ((a * k%p:Nat):Int):=(by omega);rw[e];refine⟨((a * k/p:Nat):Int)+1,?_⟩;rw[Lf];simp only[Ib,Int.pow_one];omega
  ·rw[aG q,aG q,jJ];refine⟨((a * k/p:Nat):Int),?_⟩;simp only[Lh,EL];omega
 have h1:=akB step;rw[akC,akD,PO] at h1;have e1:(fk h).map (λk=>(ab a p k:Int))=((fk h).map (ab a p)).map λ(k:Nat)=>(k:Int):=by rw[AL];rfl
 rw[e1,akA ((Px hn hc).map λ(k:Nat)=>(k:Int)),<-Li] at h1;have:=cancel hp (fk h) _ (λk hk=>by have:=vz.1 hk;omega) h1;unfold mu;rw[hh];exact this
def afb{p h a}(hp:yq p)(hn:p=2 * h+1)(h0:0<a)(h1:a<p):(a^h%p=1)↔mu a p%2=0:=by
 have hg:=Uc hp hn (hp.coprime h0 h1);have nM:=hp.1;have Of:((a^h:Nat):Int)=(a:Int)^h:=by simp
 rw[<-Of] at hg;constructor
 ·intro q;rcases CV (mu a p) with r|r
  ·exact r
  ·exfalso;have:((-1:Int))^mu a p= -1:=(by obtain⟨c,hc⟩:∃c,mu a p=2 * c+1:=⟨mu a p/2,by omega⟩;rw[hc,xC,EM];simp[Pl]);rw[this] at hg;have hd:p∣a^h+1:=(by have e:((a^h:Nat):Int) - -1=((a^h+1:Nat):Int):=(by omega);rw[e] at hg;exact Q9.1 hg);have:=Nat.mod_eq_zero_of_dvd hd;rw[It,q] at this;have h3:1%p=1:=nF ah;rw[h3] at this;have:p∣2:=E7 this;have:=CT ah this;omega
 ·intro r;have:((-1:Int))^mu a p=1:=by obtain⟨c,hc⟩:∃c,mu a p=2 * c:=⟨mu a p/2,by omega⟩;rw[hc,EM];simp[Pl]
  rw[this] at hg;have mq:0<a^h:=LJ h0;have hd:p∣a^h - 1:=by have e:((a^h:Nat):Int) - 1=((a^h - 1:Nat):Int):=(by omega);rw[e] at hg;exact Q9.1 hg
  obtain⟨c,hc⟩:=hd;have:a^h=p * c+1:=by omega
  rw[this,aaP,nF ah]
def apB{x n}(ho:n%2=1)(hc:nW (2 * x) n):mu (2 * x) n%2=(mu x n+(if n%8=3∨n%8=5 then 1 else 0))%2:=by
 have hn:n=2 * (n/2)+1:=by omega
 have h2:nW 2 n:=Nat.Coprime.coprime_mul_right hc;have hx:nW x n:=aaJ hc;rw[aiW hn h2 hx,aiY hn];split<;>omega
def apD{x n}(ho:n%2=1)(hx:x%2=1)(hc:nW x n):mu x n%2=(mu (n%x) x+(if x%4=3/\n%4=3 then 1 else 0))%2:=by
 have hn:n=2 * (n/2)+1:=by omega
 have hm:x=2 * (x/2)+1:=by omega
 have h:=ak5 hn hm hc;rw[aiV];have e:(n/2) * (x/2)%2=(if x%4=3/\n%4=3 then 1 else 0):=by rw[sN];rcases CV (n/2) with p|p<;>rcases CV (x/2) with q|q<;>rw[p,q]<;>split<;>omega
 rw[e] at h;split at h<;>split<;>omega
def aej{x n}(hc:nW x n):nW (n%x) x:=by
 unfold nW at *
 rw[<-Nat.gcd_rec,hc]
def D9(p:Nat):Nat->Nat->Bool
 |0,lo=>Nat.blt 0 (p%lo)
 |k+1,lo=>D9 p k lo&&D9 p k (lo+2^k)
def ai6{p}:∀{k lo:Nat},D9 p k lo=ai->∀d,lo<=d->d<lo+2^k->p%d≠0:=by
 intro k
 induction k with
 |zero=>
  intro lo h d h1 h2;have:d=lo:=by simp at h2;omega
  subst this;unfold D9 at h;have:1<=p%d:=by simpa [Nat.blt] using h
  omega
 |succ k ih=>
  intro lo h d h1 h2;unfold D9 at h;rw[bA] at h;rw[AT] at h2;rcases dT d (lo+2^k) with q|q
  ·exact ih h.1 d h1 q
  ·exact ih h.2 d q ah
def V5{p k}(h2:2<=p)(h:D9 p k 2=true)(hk:p<(2^k+2) * (2^k+2)):yq p:=by
 refine⟨h2,λd hd=>?_⟩;obtain⟨e,he⟩:=hd;have cY:d≠0:=by rintro rfl;simp at he;omega
 have aV:e≠0:=by rintro rfl;simp at he;omega
 by_cases hU:d=1
 ·exact .inl hU
 by_cases ot:e=1
 ·right;rw[he,ot,nY]
 exfalso;have key:∀{x y:Nat},p=x * y->2<=x->x<2+2^k->False:=by intro x y VW hx az;exact ai6 h x hx az (by rw[VW,Nat.mul_mod_right])
 rcases dT d (2+2^k) with q|q
 ·exact key he ah q
 ·rcases dT e (2+2^k) with r|r
  ·exact key (by rw[he,LG]) ah r
  ·have:=ry q r;rw[<-he] at this;rw[aaK (2^k) 2] at hk;omega
def P:Nat:=2147483579
def Q:Nat:=1073741789
def RD:yq P:=V5 (k:=16) aO (by decide+kernel) aO
def aa3:yq Q:=V5 (k:=15) aO (by decide+kernel) aO
end Go.NT
end
section
namespace Go.NT
def Dj:Nat->Nat->Nat->Nat->Nat->Nat
 |0,_,_,_,c=>c
 |k+1,m,a,n,c=>if n=0 then c else Dj k m (a * a%m) (n/2) (if n%2=1 then c * a%m else c)
def I4{m}(hm:0<m):∀{k a n c:Nat},n<2^k->c<m->Dj k m a n c=c * a^n%m:=by
 intro k
 induction k with
 |zero=>
  intro a n c hn hc;have:n=0:=by simp at hn;exact hn
  subst this;simp[Dj,nF hc]
 |succ k ih=>
  intro a n c hn hc;unfold Dj;by_cases h0:n=0
  ·subst h0;simp[nF hc]
  ·rw[aG h0];have tF:n/2<2^k:=(by rw[AT] at hn;omega);have VI:∀e,(a * a%m)^e%m=a^(2 * e)%m:=λe=>(by rw[<-Fc,Fe,Rv]);split
   ·rename_i ho;rw[ih tF (mE _ hm),sN,VI,Nat.mod_mod,<-sN,LF,<-aaZ,show(2 * (n/2)).succ=n by omega]
   ·rename_i ho;rw[ih tF hc,sN,VI,<-sN,(ah:2 * (n/2)=n)]
def sn(a n:Nat):Nat:=Dj 31 P a n 1
def Py{a n}(hn:n<2^31):sn a n=a^n%P:=by unfold sn;rw[I4 aO hn aO,CW]
def elem(x:Nat):Bool:=decide (1<=x)&&decide (x<P)&&Nat.beq (sn x Q) 1
def elem_iff{x}:elem x=ai↔1<=x/\x<P/\x^Q%P=1:=by unfold elem;rw[Py aO];simp only[bA,decide_eq_true_eq];exact⟨λh=>⟨h.1.1,h.1.2,jF h.2⟩,λh=>⟨⟨h.1,h.2.1⟩,by rw[h.2.2];rfl⟩⟩
def aeS{x}(h0:1<=x)(h1:x<P):elem x=decide (mu x P%2=0):=by have:=afb RD (h:=Q) (a:=x) aO ah h1;rw[EG,elem_iff,decide_eq_true_eq,<-this];exact⟨λh=>h.2.2,λh=>⟨h0,h1,h⟩⟩
def Di:elem 1=ai:=by rw[elem_iff];exact⟨aO,by decide,by rw[aaV];rfl⟩
def FI{x y}(hx:elem x=ai)(hy:elem y=ai):elem (x * y%P)=ai:=by
 rw[elem_iff] at *
 obtain⟨x1,x2,x3⟩:=hx;obtain⟨y1,y2,y3⟩:=hy;have hp:(x * y%P)^Q%P=1:=by rw[<-Fc,Nat.mul_pow,sN,x3,y3];rfl
 refine⟨?_,mE _ aO,hp⟩;rcases Fa (x * y%P) with q|q
 ·rw[q] at hp;have:(0:Nat)^Q=0:=Nat.zero_pow aO;rw[this] at hp;cases hp
 ·exact q
def aeT{x}(hx:elem x=ai)(n):elem (x^n%P)=ai:=by
 induction n with
 |zero=>exact Di|succ n ih=>
  have:=FI ih hx
  rwa [Rt,<-AT] at this
def akw{x}(hx:elem x=ai)(n):x^(n%Q)%P=x^n%P:=by obtain⟨-,-,h⟩:=elem_iff.1 hx;have e:n=Q * (n/Q)+n%Q:=(Rq n Q).symm;rw[show x^n=x^(Q * (n/Q)+n%Q) by rw[<-e],aaX,Fe,sN,Fc (x^Q),h,aaV];simp
end Go.NT
end
section
namespace Go.NT
def Qi:Int:=1073741789
def fmod(n:Int):Int:=n%Qi
def cS(a b:Int):Int:=(fmod a+fmod b)%Qi
def db(a b:Int):Int:=fmod a * fmod b%Qi
def fL(n:Int):Int:=((Dj 31 Q (fmod n).toNat (Q - 2) 1:Nat):Int)
def okF(x:Int):Prop:=0<=x/\x<Qi
def LO:(0:Int)<Qi:=by decide
def AX:Qi=(Q:Int):=rfl
def Dn(n):okF (fmod n):=⟨Ia _ aO,HZ _ LO⟩
def Dm{x}(h:okF x):fmod x=x:=Lc h.1 h.2
def A9(a b):cS a b=(a+b)%Qi:=by unfold cS fmod;rw[<-ZX]
def tc(a b):db a b=a * b%Qi:=by unfold db fmod;rw[<-AH]
def I0(a b):okF (cS a b):=⟨Ia _ aO,HZ _ LO⟩
def I9(a b):okF (db a b):=⟨Ia _ aO,HZ _ LO⟩
def An:okF 0:=by unfold okF;decide
def TC{x}(h:okF x):cS x 0=x:=by rw[A9,Int.add_zero,<-fmod];exact Dm h
def afx(n):db n 0=0:=by rw[tc,Lg];rfl
def arl(n):db 0 n=0:=by rw[tc,Ic];rfl
def om(n x y:Int):Int:=cS x (-(db n y))
def I7(n x y):om n x y=(x - n * y)%Qi:=by unfold om;rw[A9,tc,<-Int.sub_eq_add_neg,aad,CJ _ (CI _),<-aad]
def afu(n x y):okF (om n x y):=I0 _ _
def MQ{n x}(h:okF x):om n x 0=x:=by unfold om;rw[afx,aaa];exact TC h
def afw{x y}(h:okF x):om 0 x y=x:=by unfold om;rw[arl,aaa];exact TC h
def afv(n y):om (-n) 0 y=db y n:=by rw[I7,tc,Z9,Int.sub_neg,EN,yS]
def afg{p h a}(hp:yq p)(hn:p=2 * h+1)(h0:0<a)(h1:a<p):a^(p - 1)%p=1:=by
 have hg:=Uc hp hn (hp.coprime h0 h1);have nM:=hp.1;have h2:(p:Int)∣(a:Int)^(2 * h) - 1:=by
  obtain⟨c,hc⟩:=hg;have e:((-1:Int)^mu a p) * ((-1:Int)^mu a p)=1:=by rw[<-Rb,(ah:mu a p+mu a p=2 * mu a p),EM];simp[Pl]
  have e2:(a:Int)^(2 * h)=(a:Int)^h * (a:Int)^h:=by rw[<-Rb,(ah:2 * h=h+h)]
  refine⟨c * ((a:Int)^h+(-1)^mu a p),?_⟩;rw[<-xA,<-hc,Li,Lf,Lf,e2,yS ((-1)^mu a p) ((a:Int)^h),e];omega
 rw[(ah:p - 1=2 * h)];have mq:0<a^(2 * h):=LJ h0;have Of:((a^(2 * h):Nat):Int)=(a:Int)^(2 * h):=by simp
 rw[<-Of] at h2;have hd:p∣a^(2 * h) - 1:=by
  have e:((a^(2 * h):Nat):Int) - 1=((a^(2 * h) - 1:Nat):Int):=by omega
  rw[e] at h2;exact Q9.1 h2
 obtain⟨c,hc⟩:=hd;have:a^(2 * h)=p * c+1:=by omega
 rw[this,aaP,nF ah]
def TJ(n):okF (fL n):=by unfold fL okF;rw[I4 aO aO aO];exact⟨ah,by rw[AX];exact aab.2 (mE _ aO)⟩
def MT{x}(h:okF x)(h0:x≠0):db x (fL x)=1:=by
 obtain⟨n,rfl⟩:∃n:Nat,x=n:=⟨x.toNat,by have:=h.1;omega⟩;have hn:n<Q:=by have:=h.2;rw[AX] at this;exact aab.1 this
 have hf:=afg (h:=536870894) aa3 aO (ah:0<n) hn;unfold fL;rw[Dm h,dS,I4 aO aO aO,CW,tc,AX,<-xB,<-Ra,aaS,LG,<-AT,
  (aO:(Q - 2).succ=Q - 1),hf]
 rfl
def al(l:List Int)(i:Nat):Int:=l.getD i 0
def lF(n:Int)(a b:List Int):List Int:=EY (om n) a b
def uT(c:Nat)(a own:List Int):List Int:=if al a c=0 then a else a.take c++lF (al a c) (a.drop c) (own.drop c)
def gU(c:Nat)(a:List Int)(n:Int):List Int:=a.take c++(a.drop c).map (db · n)
def scaleB(a:List Int)(n:Int):List Int:=lF (-n) (bm a.length 0) a
def qI(t:List (List Int))(r c:Nat):Option Nat:=(bL t.length).find? λk=>decide (r<=k)&& !(decide (al (t.getD k []) c=0))
def xo(st:List (List Int) × List Nat)(c:Nat):List (List Int) × List Nat:=
 match qI st.1 st.2.length c with
 |none=>st
 |some k=>
  let own:=gU c (st.1.getD k []) (fL (al (st.1.getD k []) c))
  let t1:=(st.1.set k (st.1.getD st.2.length [])).set st.2.length own
  (t1.mapIdx λi a=>if i=st.2.length then own else uT c a own,st.2++[c])
def uG(st:List (List Int) × List Nat)(c:Nat):List (List Int) × List Nat:=
 match qI st.1 st.2.length c with
 |none=>st
 |some k=>
  let own:=scaleB (st.1.getD k []) (fL (al (st.1.getD k []) c))
  let t1:=st.1.set k (st.1.getD st.2.length [])
  ((t1.map λa=>lF (al a c) a own).set st.2.length own,st.2++[c])
def Ek(t:List (List Int))(many:Nat):List (List Int) × List Nat:=(bL many).foldl xo (t,[])
def iH(t:List (List Int))(many:Nat):List (List Int) × List Nat:=(bL many).foldl uG (t,[])
structure xK(w c:Nat)(st:List (List Int) × List Nat):Prop where
 len:∀a∈st.1,a.length=w
 ok:∀a∈st.1,∀x∈a,okF x
 zero:∀i a,st.2.length<=i->st.1[i]?=aa a->∀j,j<c->al a j=0
def fx{l}{i}(h):al l i=l[i]:=by unfold al;rw[eQ,a9 h];rfl
def qE{l}(h:∀x∈l,okF x)(i):okF (al l i):=by
 unfold al;rw[eQ];rcases dT i l.length with q|q
 ·rw[a9 q];exact h _ (iS q)
 ·rw[qB q];exact An
def yE{a b}(hl:a.length=b.length)(h:∀i,i<a.length->al a i=al b i):a=b:=by apply Ih hl;intro i h1 h2;rw[<-fx h1,<-fx h2];exact h i h1
def xR{n}{a b}(hl:a.length=b.length){i}(hi:i<a.length):al (lF n a b) i=om n (al a i) (al b i):=by
 unfold lF;have h1:i<(EY (om n) a b).length:=by rw[aau];omega
 rw[fx h1,aas,fx hi,fx ah]
def Ag{n}{a b}(hl:a.length=b.length):(lF n a b).length=a.length:=by unfold lF;rw[aau];omega
def C6{a x}{c}(hc:c<=a.length)(i):al (a.take c++x) i=if i<c then al a i else al x (i - c):=by
 unfold al;simp only[eQ];split
 ·rename_i h;rw[ru (by rw[fb];omega),nU,aD h]
 ·rename_i h;rw[ET (by rw[fb];omega),fb,CU hc]
def IE(a)(c i):al (a.drop c) i=al a (c+i):=by unfold al;simp only[eQ,pR]
def adV{c}{a own}(hl:a.length=own.length)(hc:c<a.length)(ha:∀x∈a,okF x)(hz:∀j,j<c->al own j=0):uT c a own=lF (al a c) a own:=by
 unfold uT;split
 ·rename_i h;rw[h];refine(yE (Ag hl) λi hi=>?_).symm;rw[Ag hl] at hi;rw[xR hl hi,afw (qE ha i)]
 ·have hd:(a.drop c).length=(own.drop c).length:=by simp[hl]
  refine yE ?_ λi hi=>?_
  ·rw[du,Ag hd,Ag hl,fb,gE];omega
  ·have pD:i<a.length:=(by rw[du,Ag hd,fb,gE] at hi;omega);rw[C6 ah,xR hl pD];split
   ·rename_i q;rw[hz i q,MQ (qE ha i)]
   ·rename_i q;rw[xR hd (by rw[gE];omega),IE,IE,(ah:c+(i - c)=i)]
def KB{c}{a}{n}(hc:c<=a.length)(hz:∀j,j<c->al a j=0):gU c a n=scaleB a n:=by
 unfold gU scaleB;have hr:(bm a.length (0:Int)).length=a.length:=by simp
 refine yE ?_ λi hi=>?_
 ·rw[Ag hr,du,bJ,fb,gE,hr];omega
 ·have pD:i<a.length:=by rw[du,bJ,fb,gE] at hi;omega
  have h0:al (bm a.length (0:Int)) i=0:=by rw[fx (by simpa using pD)];simp
  rw[C6 hc,xR hr (by rw[hr];exact pD),h0,afv];split
  ·rename_i q;rw[hz i q,tc,Ic];rfl
  ·rename_i q;have hm:i - c<((a.drop c).map (db · n)).length:=(by rw[bJ,gE];omega);rw[fx hm,pg,Rl,<-fx (ah:c+(i - c)<a.length),(ah:c+(i - c)=i)]
end Go.NT
end
section
namespace Go.NT
def Dl{t}{r c k}(h:qI t r c=aa k):k<t.length/\r<=k/\al (t.getD k []) c≠0:=by unfold qI at h;have h1:=List.find?_some h;have h2:=List.mem_of_find?_eq_some h;rw[fD] at h2;simp only[bA,decide_eq_true_eq,yP,decide_eq_false_iff_not] at h1;exact⟨h2,h1⟩
def TG{t}{r c}(h:qI t r c=au){k}(hk:k<t.length)(hr:r<=k):al (t.getD k []) c=0:=by unfold qI at h;rw[List.find?_eq_none] at h;have:=h k (fD.2 hk);simp only[bA,decide_eq_true_eq,yP,decide_eq_false_iff_not,not_and,Lb] at this;exact this hr
def kJ{t:List (List Int)}{k}(hk):t.getD k []=t[k]:=by rw[eQ,a9 hk];rfl
section
variable {w c:Nat} {st:List (List Int) × List Nat}
structure Own(w c:Nat)(own:List Int):Prop where
 len:own.length=w
 ok:∀x∈own,okF x
 zero:∀j,j<c->al own j=0
 one:al own c=1
def J8{a:List Int}(hl:a.length=w)(hc:c<w)(ha:∀x∈a,okF x)(hz:∀j,j<c->al a j=0)(h0:al a c≠0):Own w c (gU c a (fL (al a c))):=by
 refine⟨?_,?_,?_,?_⟩
 ·unfold gU;rw[du,bJ,fb,gE];omega
 ·intro x hx;unfold gU at hx;rcases List.mem_append.1 hx with q|q
  ·exact ha x (pS q)
  ·obtain⟨y,-,rfl⟩:=jE.1 q;exact I9 _ _
 ·intro j hj;unfold gU;rw[C6 ah,aD hj];exact hz j hj
 ·unfold gU;rw[C6 ah,aG ah];have hm:c - c<((a.drop c).map (db · (fL (al a c)))).length:=by rw[bJ,gE];omega
  rw[fx hm,pg,Rl];have e:a[c+(c - c)]' ah=al a c:=by rw[fx ah];congr 1;omega
  rw[e];exact MT (qE ha c) h0
def YS(R:xK w c st)(hc:c<w):xo st c=uG st c:=by
 unfold xo uG;cases hf:qI st.1 st.2.length c with
 |none=>rfl|some k=>
  obtain⟨k1,k2,k3⟩:=Dl hf;rw[kJ k1] at k3;have hk:=R.len _ (iS k1);have zU:=R.ok _ (iS k1);have rQ:=R.zero k _ k2 (a9 k1);simp only[kJ k1];have O:=J8 hk hc zU rQ k3;rw[<-KB ah rQ];generalize gU c st.1[k] (fL (al st.1[k] c))=own at *
  congr 1;apply Ih
  ·simp
  ·intro i h1 h2;rw[List.getElem_mapIdx];by_cases hi:i=st.2.length
   ·rw[aD hi];subst hi;rw[Lp]
   ·rw[aG hi,Lo (λq=>hi q.symm),Lo (λq=>hi q.symm),pg];have az:i<st.1.length:=(by simpa using h1);have hm:(st.1.set k (st.1.getD st.2.length []))[i]'(by simpa using az)∈st.1:=by
     rw[EV];split
     ·rw[kJ ah];exact iS _
     ·exact iS _
    exact adV ((R.len _ hm).trans O.len.symm) (by rw[R.len _ hm];exact hc) (R.ok _ hm) O.zero
def QC(R:xK w c st)(hc:c<w):xK w (c+1) (uG st c):=by
 unfold uG;cases hf:qI st.1 st.2.length c with
 |none=>
  refine⟨R.len,R.ok,λi a hi ha j hj=>?_⟩;rcases dT j c with q|q
  ·exact R.zero i a hi ha j q
  ·have:j=c:=(by omega);subst this;have az:=(aQ.1 ha).1;have:=TG hf az hi;rw[kJ az] at this;rw[<-(aQ.1 ha).2];exact this
 |some k=>
  obtain⟨k1,k2,k3⟩:=Dl hf;rw[kJ k1] at k3;have hk:=R.len _ (iS k1);have zU:=R.ok _ (iS k1);have rQ:=R.zero k _ k2 (a9 k1);simp only[kJ k1];have O:=J8 hk hc zU rQ k3;rw[<-KB ah rQ];generalize gU c st.1[k] (fL (al st.1[k] c))=own at *
  have ej:st.2.length<st.1.length:=by omega
  have wQ:∀a∈st.1.set k (st.1.getD st.2.length []),a∈st.1:=λa ha=>by
   rcases vU ha with q|q
   ·exact q
   ·rw[q,kJ ej];exact iS _
  refine⟨λa ha=>?_,λa ha=>?_,λi a hi ha j hj=>?_⟩
  ·rcases vU ha with q|q
   ·obtain⟨b,hb,rfl⟩:=jE.1 q;have:=R.len _ (wQ b hb);rw[Ag (this.trans O.len.symm)];exact this
   ·rw[q];exact O.len
  ·rcases vU ha with q|q
   ·obtain⟨b,hb,rfl⟩:=jE.1 q;intro x hx;unfold lF at hx;obtain⟨i,h1,rfl⟩:=AM.1 hx;rw[aas];exact afu _ _ _
   ·rw[q];exact O.ok
  ·simp only[du,Lq] at hi;have bE:st.2.length≠i:=(by omega);rw[Ik bE,eR] at ha;have az:i<st.1.length:=by
    rcases dT i st.1.length with q|q
    ·exact q
    ·rw[qB (by simpa using q)] at ha;cases ha
   rw[a9 (by simpa using az),eX,dE] at ha;have hb:∃b,(st.1.set k (st.1.getD st.2.length []))[i]'(by simpa using az)=b/\b.length=w/\(∀x∈b,okF x)/\∀j,j<c->al b j=0:=by
    refine⟨_,rfl,R.len _ (wQ _ (iS _)),R.ok _ (wQ _ (iS _)),λj hj=>?_⟩;rw[EV];split
    ·rw[kJ ej];exact R.zero st.2.length _ (aJ _) (a9 ej) j hj
    ·exact R.zero i _ ah (a9 az) j hj
   obtain⟨b,e,b1,b2,b3⟩:=hb;rw[e] at ha;subst ha;rw[xR (b1.trans O.len.symm) ah];rcases dT j c with q|q
   ·rw[b3 j q,O.zero j q,MQ An]
   ·have:j=c:=(by omega);subst this;rw[O.one,I7,Ib,Rc];rfl
end
def ak9{t}{w many}(hl:∀a∈t,a.length=w)(ho:∀a∈t,∀x∈a,okF x)(hm:many<=w):Ek t many=iH t many:=by
 unfold Ek iH;have key:∀n,n<=w->(bL n).foldl xo (t,[])=(bL n).foldl uG (t,[])/\xK w n ((bL n).foldl uG (t,[])):=by
  intro n
  induction n with
  |zero=>intro _;exact⟨rfl,hl,ho,λ_ _ _ _ j hj=>by omega⟩|succ n ih=>intro hn;obtain⟨h1,h2⟩:=ih ah;rw[oN,oL,oL,h1];simp only[xE,Ll];exact⟨YS h2 ah,QC h2 ah⟩
 exact(key many hm).1
end Go.NT
end
section
namespace Go.NT
def cG:List Int->Int
 | []=>0
 |x::l=>x+cG l
def apV(l m):cG (l++m)=cG l+cG m:=by
 induction l with
 |nil=>simp[cG]|cons x l ih=>simp only[jO,cG,ih];omega
def dot(y row:List Int):Int:=cG ((bL y.length).map λi=>al y i * al row i)
def res(y row:List Int):Int:=dot y row - al row y.length
def Sat(y row:List Int):Prop:=Qi∣res y row
def ap5{f g q}{n}:∀{l:List Nat},(∀i∈l,Qi∣f i - (g i - n * q i))->Qi∣cG (l.map f) - (cG (l.map g) - n * cG (l.map q)):=by
 intro l
 induction l with
 |nil=>intro _;simp[cG]|cons x l ih=>
  intro h;have h1:=h x ga;have h2:=ih λi hi=>h i (fR _ hi);simp only[ev,cG,Lf];have e:f x+cG (l.map f) - (g x+cG (l.map g) - (n * q x+n * cG (l.map q)))=(f x - (g x - n * q x))+(cG (l.map f) - (cG (l.map g) - n * cG (l.map q))):=by omega
  rw[e];exact xz h1 h2
def TS(n x y):Qi∣om n x y - (x - n * y):=by rw[I7];have:=ZZ (x - n * y) Qi;refine⟨-((x - n * y)/Qi),?_⟩;rw[Int.mul_neg];omega
def XC{n}{y a b}(hl:a.length=b.length)(hy:y.length<a.length):Qi∣res y (lF n a b) - (res y a - n * res y b):=by
 have h1:Qi∣dot y (lF n a b) - (dot y a - n * dot y b):=by
  unfold dot;refine ap5 λi hi=>?_;have hi:=fD.1 hi;rw[xR hl ah];obtain⟨c,hc⟩:=TS n (al a i) (al b i);refine⟨al y i * c,?_⟩;have:al y i * om n (al a i) (al b i) - (al y i * al a i - n * (al y i * al b i))=al y i * (om n (al a i) (al b i) - (al a i - n * al b i)):=by rw[yT,yT,CK n]
  rw[this,hc,CK]
 have h2:Qi∣al (lF n a b) y.length - (al a y.length - n * al b y.length):=by rw[xR hl hy];exact TS _ _ _
 unfold res;have e:dot y (lF n a b) - al (lF n a b) y.length - (dot y a - al a y.length - n * (dot y b - al b y.length))=(dot y (lF n a b) - (dot y a - n * dot y b)) - (al (lF n a b) y.length - (al a y.length - n * al b y.length)):=by rw[yT];omega
 rw[e];exact Q7 h1 h2
def aop{n}{y a b}(hl:a.length=b.length)(hy:y.length<a.length)(h1:Sat y (lF n a b))(h2:Sat y b):Sat y a:=by
 unfold Sat at *
 have h3:=XC (n:=n) hl hy;have e:res y a=res y (lF n a b) - (res y (lF n a b) - (res y a - n * res y b))+n * res y b:=by omega
 rw[e];exact xz (Q7 h1 h3) (EJ h2)
def alj(y)(n):res y (bm n 0)=0:=by
 have hz:∀i,al (bm n (0:Int)) i=0:=λi=>by unfold al;rw[eQ,Lm];split<;>rfl
 unfold res dot;simp only[hz,Lg];generalize bL y.length=l
 induction l with
 |nil=>rfl|cons x l ih=>simp only[ev,cG];omega
def aoq{y a}{x}(hy:y.length<a.length)(hx:okF x)(h0:x≠0)(h:Sat y (scaleB a (fL x))):Sat y a:=by
 unfold Sat scaleB at *
 have h1:=XC (n:= -(fL x)) (y:=y) (a:=bm a.length (0:Int)) (b:=a) bG (by simpa using hy);rw[alj] at h1;have h2:Qi∣fL x * res y a:=by
  have e:fL x * res y a=res y (lF (-(fL x)) (bm a.length 0) a) - (res y (lF (-(fL x)) (bm a.length 0) a) - (0 - -(fL x) * res y a)):=by rw[Z9];omega
  rw[e];exact Q7 h h1
 have h3:Qi∣x * fL x - 1:=by have:=MT hx h0;rw[tc] at this;have h4:=ZZ (x * fL x) Qi;rw[this] at h4;exact⟨x * fL x/Qi,by omega⟩
 obtain⟨c,hc⟩:=h2;obtain⟨d,hd⟩:=h3;refine⟨x * c - d * res y a,?_⟩;have e1:x * (fL x * res y a)=x * (Qi * c):=by rw[hc]
 have e2:(x * fL x - 1) * res y a=Qi * d * res y a:=by rw[hd]
 rw[<-xA] at e1;rw[Li,EL,e1] at e2;rw[yT,<-xA Qi d,CK Qi x];omega
section
variable {w c:Nat} {st:List (List Int) × List Nat}
def apI{y:List Int}(R:xK w c st)(hc:c<w)(hy:y.length<w)(h:∀a∈(uG st c).1,Sat y a):∀a∈st.1,Sat y a:=by
 unfold uG at h;cases hf:qI st.1 st.2.length c with
 |none=>rw[hf] at h;exact h|some k=>
  rw[hf] at h;obtain⟨k1,k2,k3⟩:=Dl hf;rw[kJ k1] at k3;simp only[kJ k1] at h;have hk:=R.len _ (iS k1);have zU:=R.ok _ (iS k1);have rQ:=R.zero k _ k2 (a9 k1);have O:=J8 hk hc zU rQ k3;have ej:st.2.length<st.1.length:=by omega
  have DR:=KB (n:=fL (al st.1[k] c)) (ah:c<=st.1[k].length) rQ;rw[kJ ej] at h;have ho:Sat y (scaleB st.1[k] (fL (al st.1[k] c))):=h _ (AM.2 ⟨st.2.length,by simpa using ej,by rw[Lp]⟩);have np:∀i (hi:i<st.1.length),i≠st.2.length->Sat y ((st.1.set k st.1[st.2.length])[i]'(by simpa using hi)):=λi hi bE=>by
   have hm:=h ((((st.1.set k st.1[st.2.length]).map λa=>lF (al a c) a (scaleB st.1[k] (fL (al st.1[k] c)))).set st.2.length (scaleB st.1[k] (fL (al st.1[k] c))))[i]'(by simpa using hi)) (iS _);rw[Lo (λq=>bE q.symm),pg] at hm;have mL:((st.1.set k st.1[st.2.length])[i]'(by simpa using hi)).length=w:=by
    rw[EV];split
    ·exact R.len _ (iS _)
    ·exact R.len _ (iS _)
   refine aop ?_ (by rw[mL];exact hy) hm ho;rw[mL,<-DR,O.len]
  intro a ha;obtain⟨i,hi,rfl⟩:=AM.1 ha;by_cases e1:i=k
  ·subst e1;exact aoq ah (qE zU c) k3 ho
  ·by_cases e2:i=st.2.length
   ·subst e2;have:=np k k1 (λq=>e1 q.symm);rw[Lp] at this;exact this
   ·have:=np i hi e2;rw[Lo (λq=>e1 q.symm)] at this;exact this
end
end Go.NT
end
section
namespace Go.NT
structure Iw(c:Nat)(st:List (List Int) × List Nat):Prop where
 lt:∀k p:Nat,st.2[k]?=aa p->p<c
 inc:∀j k p q:Nat,j<k->st.2[j]?=aa p->st.2[k]?=aa q->p<q
 val:∀k p:Nat,st.2[k]?=aa p->∀(i:Nat) (a:List Int),st.1[i]?=aa a->al a p=if i=k then 1 else 0
 len:st.2.length<=st.1.length
section
variable {w c:Nat} {st:List (List Int) × List Nat}
def apE(R:xK w c st)(V:Iw c st)(hc:c<w):Iw (c+1) (uG st c):=by
 unfold uG;cases hf:qI st.1 st.2.length c with
 |none=>exact⟨λk p h=>by have:=V.lt k p h;omega,V.inc,V.val,V.len⟩
 |some k=>
  obtain⟨k1,k2,k3⟩:=Dl hf;rw[kJ k1] at k3;have hk:=R.len _ (iS k1);have zU:=R.ok _ (iS k1);have rQ:=R.zero k _ k2 (a9 k1);simp only[kJ k1];have O:=J8 hk hc zU rQ k3;have ej:st.2.length<st.1.length:=by omega
  rw[<-KB ah rQ,kJ ej];generalize gU c st.1[k] (fL (al st.1[k] c))=own at *
  refine⟨λj p h=>?_,λj l p q oW hp hq=>?_,λj p hp i a ha=>?_,?_⟩
  ·rcases Bh h with h|⟨-,rfl⟩
   ·have:=V.lt j p h;omega
   ·omega
  ·rcases Bh hq with hq|⟨rfl,rfl⟩
   ·rcases Bh hp with hp|⟨rfl,-⟩
    ·exact V.inc j l p q oW hp hq
    ·have:=(aQ.1 hq).1;omega
   ·rcases Bh hp with hp|⟨rfl,-⟩
    ·exact V.lt j p hp
    ·omega
  ·-- the row at i
   have dG:i<st.1.length:=(by have:=(aQ.1 ha).1;simpa using this);by_cases hi:i=st.2.length
   ·subst hi;rw[a9 (by simpa using ej),Lp,dE] at ha;subst ha;rcases Bh hp with hp|⟨rfl,rfl⟩
    ·have h1:=V.lt j p hp;have h2:=(aQ.1 hp).1;rw[O.zero p h1,aG ah]
    ·rw[O.one,aD rfl]
   ·rw[Ik (λq=>hi q.symm),eR,a9 (by simpa using dG),eX,dE] at ha;have hb:∃b,(st.1.set k st.1[st.2.length])[i]'(by simpa using dG)=b/\b.length=w/\(∀x∈b,okF x)/\∀j p,st.2[j]?=aa p->al b p=if i=j then 1 else 0:=by
     refine⟨_,rfl,?_,?_,λj p hp=>?_⟩
     ·rw[EV];split<;>exact R.len _ (iS _)
     ·rw[EV];split<;>exact R.ok _ (iS _)
     ·rw[EV];have oW:=(aQ.1 hp).1;split
      ·rename_i e;rw[V.val j p hp st.2.length _ (a9 ej),aG ah,aG ah]
      ·exact V.val j p hp i _ (a9 dG)
    obtain⟨b,e,b1,b2,b3⟩:=hb;rw[e] at ha;subst ha;have hpw:p<w:=by
     rcases Bh hp with h|⟨-,rfl⟩
     ·have:=V.lt j p h;omega
     ·exact hc
    rw[xR (b1.trans O.len.symm) ah];rcases Bh hp with hp|⟨rfl,rfl⟩
    ·rw[O.zero p (V.lt j p hp),MQ (qE b2 p)];exact b3 j p hp
    ·rw[O.one,I7,Ib,Rc,aG hi];rfl
  ·simp only[du,Lq,nE,bJ];omega
where
 Bh {l:List Nat} {x i y:Nat} (h:(l++[x])[i]?=aa y):l[i]?=aa y∨(i=l.length/\y=x):=by
  rcases Nat.lt_trichotomy i l.length with az|lQ|F9
  ·rw[ru az] at h;exact .inl h
  ·subst lQ;simp at h;exact .inr ⟨rfl,h.symm⟩
  ·rw[qB (by simp;omega)] at h;cases h
end
def Kf{t}{w many}(hl:∀a∈t,a.length=w)(ho:∀a∈t,∀x∈a,okF x)(hm:many<=w):xK w many (iH t many)/\Iw many (iH t many):=by
 unfold iH
 induction many with
 |zero=>exact⟨⟨hl,ho,λ_ _ _ _ j hj=>by omega⟩,⟨λk p h=>by simp at h,λj k p q _ h=>by simp at h,λk p h=>by simp at h,df _⟩⟩|succ n ih=>obtain⟨h1,h2⟩:=ih ah;rw[oN,oL];simp only[xE,Ll];exact⟨QC h1 ah,apE h1 h2 ah⟩
def ala{t}{w many}{y}(hl:∀a∈t,a.length=w)(ho:∀a∈t,∀x∈a,okF x)(hm:many<=w)(hy:y.length<w)(h:∀a∈(iH t many).1,Sat y a):∀a∈t,Sat y a:=by
 induction many with
 |zero=>exact h|succ n ih=>
  refine ih ah ?_;have h1:=(Kf hl ho (ah:n<=w)).1;have e:iH t (n+1)=uG (iH t n) n:=by unfold iH;rw[oN,oL];rfl
  rw[e] at h;exact apI h1 ah hy h
def qt(st:List (List Int) × List Nat)(n:Nat):List Int:=st.2.zipIdx.foldl (λy p=>y.set p.1 (al (st.1.getD p.2 []) n)) (bm n 0)
def IF{l}{i j}{x}(hi:i<l.length):al (l.set i x) j=if j=i then x else al l j:=by
 unfold al;simp only[eQ,mU];by_cases h:i=j
 ·subst h;simp[hi]
 ·rw[aG h,aG (λq=>h q.symm)]
def FJ(f:Nat × Nat->Int):∀(l:List (Nat × Nat)) (y:List Int),(l.foldl (λy p=>y.set p.1 (f p)) y).length=y.length:=by
 intro l
 induction l with
 |nil=>intro y;rfl|cons p l ih=>intro y;rw[xE,ih];simp
def Ja(f:Nat × Nat->Int){i}:∀(l:List (Nat × Nat)) (y:List Int),(∀p∈l,p.1≠i)->al (l.foldl (λy p=>y.set p.1 (f p)) y) i=al y i:=by
 intro l
 induction l with
 |nil=>intro y _;rfl|cons p l ih=>intro y h;rw[xE,ih _ λq hq=>h q (fR _ hq)];have:=h p ga;unfold al;simp only[eQ];rw[Ik this]
def KE(st)(n):(qt st n).length=n:=by unfold qt;rw[FJ (λp=>al (st.1.getD p.2 []) n)];simp
def ao0{st}{n i}(h:i∉st.2):al (qt st n) i=0:=by
 unfold qt;rw[Ja (λp=>al (st.1.getD p.2 []) n) _ _ λp hp q=>?_]
 ·unfold al;rw[eQ,Lm];split<;>rfl
 ·have:=List.fst_mem_of_mem_zipIdx hp;rw[q] at this;exact h this
def ao2{c}{st}{n k p}(V:Iw c st)(hn:c<=n)(h:st.2[k]?=aa p):al (qt st n) p=al (st.1.getD k []) n:=by
 unfold qt;obtain⟨hk,hp⟩:=aQ.1 h;have hz:st.2.zipIdx=(st.2.zipIdx.take k)++(p,k)::(st.2.zipIdx.drop (k+1)):=by
  have zS:k<st.2.zipIdx.length:=by simpa using hk
  have:=(xI k st.2.zipIdx).symm;rw[ER zS] at this;rw[aar,hp] at this;simpa using this
 rw[hz,oL,xE,Ja (λp=>al (st.1.getD p.2 []) n) _ _ λq hq e=>?_]
 ·rw[IF,aD rfl];rw[FJ (λp=>al (st.1.getD p.2 []) n)];have:=V.lt k p h;simp;omega
 ·obtain⟨i,hi,rfl⟩:=AM.1 hq;rw[Rl,aar] at e;simp only at e;have dG:k+1+i<st.2.length:=by simp at hi;omega
  have:=V.inc k (k+1+i) p _ ah h (a9 dG);omega
def Za{f}{p}:∀n,p<n->(∀i,i<n->i≠p->f i=0)->cG ((List.range n).map f)=f p:=by
 intro n
 induction n with
 |zero=>intro h;omega|succ n ih=>
  intro hp h;rw[oN,oM,apV];simp only[ev,uN,cG];rcases dT p n with q|q
  ·rw[ih q λi hi=>h i ah,h n ah ah];omega
  ·have:p=n:=(by omega);subst this;have hz:cG ((bL p).map f)=0:=by
    have:∀l:List Nat,(∀i∈l,f i=0)->cG (l.map f)=0:=by
     intro l
     induction l with
     |nil=>intro _;rfl|cons x l ih2=>intro hl;simp only[ev,cG];rw[hl x ga,ih2 λi hi=>hl i (fR _ hi)];rfl
    exact this _ λi hi=>h i (by have:=fD.1 hi;omega) (by have:=fD.1 hi;omega)
   rw[hz];omega
def ao1{t}{n}(hl:∀a∈t,a.length=n+1)(ho:∀a∈t,∀x∈a,okF x)(NW:∀i a,(iH t n).2.length<=i->(iH t n).1[i]?=aa a->al a n=0):
 ∀a∈t,Sat (qt (iH t n) n) a:=by
 obtain⟨R,V⟩:=Kf hl ho (ah:n<=n+1);refine ala hl ho (ah:n<=n+1) (by rw[KE];omega) λa ha=>?_;obtain⟨k,hk,rfl⟩:=AM.1 ha;have BB:=a9 hk;unfold Sat res dot;rw[KE];rcases dT k (iH t n).2.length with q|q
 ·have hp:=a9 q;have az:=V.lt k _ hp;rw[Za (p:=(iH t n).2[k]) n az,ao2 V (aJ _) hp,V.val k _ hp k _ BB,aD rfl,kJ hk,Ib,Rc]
  ·exact ZY _
  ·intro i hi bE;by_cases hm:i∈(iH t n).2
   ·obtain⟨j,hj,rfl⟩:=AM.1 hm;rw[V.val j _ (a9 hj) k _ BB,aG (λe=>bE (by subst e;rfl)),Lg]
   ·rw[ao0 hm,Ic]
 ·rw[NW k _ q BB];have hz:∀l:List Nat,(∀i∈l,i<n)->cG (l.map λi=>al (qt (iH t n) n) i * al (iH t n).1[k] i)=0:=by
   intro l
   induction l with
   |nil=>intro _;rfl|cons x l ih=>intro h;simp only[ev,cG];rw[R.zero k _ q BB x (h x ga),Lg,ih λi hi=>h i (fR _ hi)];rfl
  rw[hz _ λi hi=>fD.1 hi];exact ZY _
end Go.NT
end
section
namespace Go.NT
abbrev eF:=BitVec 32
def dD(x:eF)(n:Nat):eF:=(x>>>n)|||(x<<<(32 - n))
def D2:List Nat:=[
 0x428a2f98,0x71374491,0xb5c0fbcf,0xe9b5dba5,0x3956c25b,0x59f111f1,0x923f82a4,0xab1c5ed5,
 0xd807aa98,0x12835b01,0x243185be,0x550c7dc3,0x72be5d74,0x80deb1fe,0x9bdc06a7,0xc19bf174,
 0xe49b69c1,0xefbe4786,0x0fc19dc6,0x240ca1cc,0x2de92c6f,0x4a7484aa,0x5cb0a9dc,0x76f988da,
 0x983e5152,0xa831c66d,0xb00327c8,0xbf597fc7,0xc6e00bf3,0xd5a79147,0x06ca6351,0x14292967,
 0x27b70a85,0x2e1b2138,0x4d2c6dfc,0x53380d13,0x650a7354,0x766a0abb,0x81c2c92e,0x92722c85,
 0xa2bfe8a1,0xa81a664b,0xc24b8b70,0xc76c51a3,0xd192e819,0xd6990624,0xf40e3585,0x106aa070,
 0x19a4c116,0x1e376c08,0x2748774c,0x34b0bcb5,0x391c0cb3,0x4ed8aa4a,0x5b9cca4f,0x682e6ff3,
 0x748f82ee,0x78a5636f,0x84c87814,0x8cc70208,0x90befffa,0xa4506ceb,0xbef9a3f7,0xc67178f2]
def yw(t:Nat):eF:=BitVec.ofNat 32 (D2.getD t 0)
def start:List eF:=[0x6a09e667#32,0xbb67ae85#32,0x3c6ef372#32,0xa54ff53a#32,0x510e527f#32,0x9b05688c#32,0x1f83d9ab#32,0x5be0cd19#32]
def dp(b:List UInt8)(i:Nat):UInt8:=b.getD i 0
def cU(w:List eF)(i:Nat):eF:=w.getD i 0#32
def pP(b:List UInt8)(i:Nat):eF:=BitVec.ofNat 32 (((dp b i).toNat * 256+(dp b (i+1)).toNat) * 256 * 256+(dp b (i+2)).toNat * 256+(dp b (i+3)).toNat)
def D8(w:List eF)(t:Nat):eF:=
 cU w (t - 16)+(dD (cU w (t - 15)) 7^^^dD (cU w (t - 15)) 18^^^(cU w (t - 15))>>>3)+cU w (t - 7)+(dD (cU w (t - 2)) 17^^^dD (cU w (t - 2)) 19^^^(cU w (t - 2))>>>10)
def gV(b:List UInt8):Nat->List eF
 |0=>[]
 |n+1=>gV b n++[if n<16 then pP b (4 * n) else D8 (gV b n) n]
def He(w:List eF)(v:List eF)(t:Nat):List eF:=
 let e:=cU v 4
 let a:=cU v 0
 let p:=cU v 7+(dD e 6^^^dD e 11^^^dD e 25)+((e&&&cU v 5)^^^(~~~e&&&cU v 6))+yw t+cU w t
 let q:=(dD a 2^^^dD a 13^^^dD a 22)+((a&&&cU v 1)^^^(a&&&cU v 2)^^^(cU v 1&&&cU v 2))
 [p+q,a,cU v 1,cU v 2,cU v 3+p,e,cU v 5,cU v 6]
def wh(s:List eF)(b:List UInt8):List eF:=
 let w:=gV b 64
 let v:=(bL 64).foldl (He w) s
 EY (·+·) s v
def oI(n:Nat):Nat:=(119 - n%64)%64
def oE(n:Nat):List UInt8:=(bL 8).map λi=>UInt8.ofNat (n * 8/2^(8 * (7 - i)))
def qp(b:List UInt8):List UInt8:=b++0x80::bm (oI b.length) 0++oE b.length
def gf:Nat->List eF->List UInt8->List eF
 |0,s,_=>s
 |n+1,s,b=>gf n (wh s (b.take 64)) (b.drop 64)
def js(s:List eF):List UInt8:=s.flatMap λx=>[UInt8.ofNat (x.toNat/16777216),UInt8.ofNat (x.toNat/65536),UInt8.ofNat (x.toNat/256),UInt8.ofNat x.toNat]
def eJ(b:List UInt8):List UInt8:=js (gf ((qp b).length/64) start (qp b))
def fZ(bh b:List UInt8):List UInt8:=eJ (eJ bh++b)
def adP(e f g:eF):g^^^(e&&&(f^^^g))=(e&&&f)^^^(~~~e&&&g):=by apply BitVec.eq_of_getLsbD_eq;intro i hi;simp only[BitVec.getLsbD_xor,BitVec.getLsbD_and,BitVec.getLsbD_not,hi,decide_true,vR];cases e.getLsbD i<;>cases f.getLsbD i<;>cases g.getLsbD i<;>rfl
def aiH(a b c:eF):(a&&&b)|||(c&&&(a|||b))=(a&&&b)^^^(a&&&c)^^^(b&&&c):=by apply BitVec.eq_of_getLsbD_eq;intro i hi;simp only[BitVec.getLsbD_xor,BitVec.getLsbD_and,BitVec.getLsbD_or];cases a.getLsbD i<;>cases b.getLsbD i<;>cases c.getLsbD i<;>rfl
end Go.NT
end
section
namespace Go.NT
inductive Vl where
 |int (n:Int)
 |text (s:List UInt8)
 |list (l:List Vl)
def fB:Nat->Nat->List UInt8
 |0,u=>[UInt8.ofNat u]
 |k+1,u=>if u<128 then [UInt8.ofNat u] else UInt8.ofNat (u%128+128)::fB k (u/128)
def kU(n:Int):Nat:=if 0<=n then 2 * n.toNat else 2 * (-(n+1)).toNat+1
mutual
def dM:Vl->List UInt8
 | .int n=>1::fB 9 (kU n)
 | .text s=>2::(fB 9 s.length++s)
 | .list l=>3::(fB 9 l.length++iC l)
def iC:List Vl->List UInt8
 | []=>[]
 |v::l=>dM v++iC l
end
mutual
def gg:Vl->Nat
 | .list l=>gO l+1
 |_=>0
def gO:List Vl->Nat
 | []=>0
 |v::l=>max (gg v) (gO l)
end
def Ts(l m):iC (l++m)=iC l++iC m:=by
 induction l with
 |nil=>simp[iC]|cons v l ih=>simp only[jO,iC,ih,tV]
def WQ{k u}(h:128<=u):fB (k+1) u=UInt8.ofNat (u%128+128)::fB k (u/128):=by rw[fB,aG ah]
def WO{k u}(h:u<128):fB k u=[UInt8.ofNat u]:=by
 cases k with|zero=>rfl|succ k=>rw[fB,aD h]
end Go.NT
end
section
namespace Go.NT
def cE(n:Int):Bool:=decide (0<=n)&&decide (n<Qi)
def dn(ae:List (List Int))(ag:List Int):Int:=
 if decide (64<ae.length)||ae.any (λr=>decide (64<r.length)) then 2
 else if ae.length≠ag.length then 230
 else if (bL ae.length).all λi=> !(ae.getD i []).isEmpty&&decide ((ae.getD i []).length=(ae.getD 0 []).length)&&(decide (0<=al ag i)&&decide (al ag i<=63))&&(ae.getD i []).all cE then 0
 else 230
def bV(ae:List (List Int)):Nat:=if ae.length=0 then 1 else (ae.getD 0 []).length
def gY(n:Nat):List Int:=1::bm (n - 1) 0
def fE:Int->List Int->Bool
 |_,[]=>ai
 |dH,n::l=>decide (dH<n)&&decide (n<=63)&&fE n l
def jk(ag ar:List Int):List Nat:=(bL ag.length).filter λi=>ar.contains (al ag i)
def iR(ae:List (List Int))(target:List Int):List (List Int):=(bL target.length).map λk=>ae.map (λr=>al r k)++[al target k]
def uU(ae:List (List Int))(target:List Int):Option (List Int):=
 let st:=iH (iR ae target) ae.length
 if (st.1.drop st.2.length).all (λa=>decide (al a ae.length=0)) then aa (qt st ae.length) else au
def sD(n:Nat)(at_:List Nat)(l:List Int):List Int:=at_.zipIdx.foldl (λy p=>y.set p.1 (al l p.2)) (bm n 0)
def iL(ae:List (List Int))(ag ar:List Int):List Int × Bool × Int:=
 if dn ae ag≠0 then ([],ay,dn ae ag)
 else if !fE (-1) ar then ([],ay,1)
 else match uU ((jk ag ar).map λi=>ae.getD i []) (gY (bV ae)) with
  |none=>([],ay,0)
  |some l=>(sD ae.length (jk ag ar) l,ai,0)
structure Pr where
 aC:Int
 no:Int
 d:Int
 e:Int
def b9(x:Int):Bool:=decide (1<=x)&&elem x.toNat
def Pr.val(p:Pr):Vl:=.list [.int p.aC,.int p.no,.int p.d,.int p.e]
def Eg(l:List Pr):Vl:=.list (l.map Pr.val)
def nh(b:List UInt8):Nat:=((b.take 8).foldl (λn c=>n * 256+c.toNat) 0%9223372036854775808)%Q
def tq(bh:List UInt8)(v:Vl):Nat:=nh (fZ bh (dM v))
def Kz:List UInt8:=[98,105,110,100]
def xj:List UInt8:=[115,105,103,110]
def gF(c0:Int)(text:List UInt8)(l:List Pr)(aC:Int):Nat:=tq Kz (.list [.int c0,.text text,Eg l,.int aC])
def qX(c0:Int)(text:List UInt8)(l:List Pr)(p:Pr):Nat:=p.d.toNat * sn p.e.toNat (gF c0 text l p.aC)%P
def jX(c0:Int)(text:List UInt8)(l:List Pr):Nat:=l.foldl (λx p=>x * qX c0 text l p%P) 1
def sC(point key:Int)(text:List UInt8):Nat:=tq xj (.list [.int point,.int key,.text text])
def mb:Int->List Pr->Bool
 |_,[]=>ai
 |dH,x::l=>decide (dH<x.aC)&&decide (x.aC<64)&&decide (0<=x.no)&&decide (x.no<4096)&&b9 x.d&&b9 x.e&&mb x.aC l
def dJ(ae:List (List Int))(ag:List Int)(epoch:Int)(av:List Int)(text:List UInt8)(l:List Pr):Int:=
 if dn ae ag≠0 then dn ae ag
 else if !(decide (0<=epoch)&&decide (epoch<=64)&&decide (av.length=bV ae)&&av.all b9) then 380
 else if 65536<text.length then 2
 else if 64<l.length then 420
 else if !mb (-1) l then 420
 else match iL ae ag (l.map Pr.aC) with
  |(_,ok,e)=>if e≠0∨ok=ay∨l.length=0 then 420 else 0
end Go.NT
end
section
namespace Go.NT
def br(x:Nat)(n:Int):Nat:=sn x (fmod n).toNat
def MS(n):(fmod n).toNat<Q:=by have:=Dn n;obtain⟨h1,h2⟩:=this;rw[AX] at h2;omega
def yC(x)(n):br x n=x^(fmod n).toNat%P:=Py (pj (MS n) aO)
def Xl{x}(hx:elem x=ai)(n:Nat):br x (n:Int)=x^n%P:=by
 have e:(fmod (n:Int)).toNat=n%Q:=by unfold fmod;rw[AX,<-Ra,dS]
 rw[yC,e,akw hx]
def akq(x)(n):br x (fmod n)=br x n:=by unfold br;rw[Dm (Dn n)]
def Ar{x}(hx:elem x=ai)(n):elem (br x n)=ai:=by rw[yC];exact aeT hx _
def GW{x}{a b}(h:a%Qi=b%Qi):br x a=br x b:=by unfold br fmod;rw[h]
def Bg(n):((fmod n).toNat:Int)=fmod n:=by have:=(Dn n).1;omega
def Eh{x}(hx:elem x=ai)(a b):br x (a+b)=br x a * br x b%P:=by
 have h:(a+b)%Qi=(((fmod a).toNat+(fmod b).toNat:Nat):Int)%Qi:=by rw[Z7,Bg,Bg,ZX];rfl
 rw[GW h,Xl hx,aaX,sN,<-yC,<-yC]
def GX{x}(hx:elem x=ai)(a b):br x (a * b)=br (br x a) b:=by
 have h:(a * b)%Qi=(((fmod a).toNat * (fmod b).toNat:Nat):Int)%Qi:=by rw[xB,Bg,Bg,AH];rfl
 rw[GW h,Xl hx,Fe,yC (br x a) b,yC x a,<-Fc]
def Xm(x):br x 0=1:=by rw[yC];rfl
def akt{x}(hx:elem x=ai):br x 1=x:=by rw[yC];show x^1%P=x;rw[Nat.pow_one,nF (elem_iff.1 hx).2.1]
def aks{x}(hx:elem x=ai)(a):br x a * br x (-a)%P=1:=by rw[<-Eh hx,Int.add_right_neg,Xm]
end Go.NT
end
section
namespace Go.Proofs.YtnfciiiohoafaaaGreatDoor
open Go.AE Go.RowKit
def Qy:List AV:=NT.start.map aN
def GO:List AV:=NT.D2.map λ(n:Nat)=>AV.v (.int .u32 (n:Int))
def Gt:Nat->Option (List AV):=λg=>if g=0 then aa Qy else if g=1 then aa GO else if g=1022017∨g=1022035∨g=1023037∨g=1023048∨g=1023063∨g=1023125∨g=1094104 then aa [] else au
def aK:bq->Option (List AV->ao->Option (AV × ao)):=λ_=>au
noncomputable abbrev W:=whole aj Gt aK
structure aq(p:Prop):Prop where
 out:p
def im(n:Int):AV:=.v (.int .i64 n)
def vq(n:Int):List AV:=[im n]
def ints(l:List Int):List (List AV):=l.map vq
def eT(l):(ints l).length=l.length:=by simp[ints]
def V2(l)(i:Nat):(ints l)[i]?=(l[i]?).map vq:=by simp[ints]
def i64(n:Int):Prop:= -9223372036854775808<=n/\n<=9223372036854775807
def eM:fY aj 3=aa ay:=by kernel_rfl
def iQ:dm aj 3=aa 1:=by kernel_rfl
def Wg{h}{l}{i}{x}(hx:l[i]?=aa x):aF aj Gt h 3 (.elem 1 (ints l) i 0)=aa (im x):=by
 have hr:(ints l)[i]?=aa (vq x):=by rw[V2,hx];rfl
 rw[r9 eM hr];rfl
def abY{h}{d}{ts}{ty:Nat}{s x}(bE:1000 * ty+d≠22017/\1000 * ty+d≠22035/\1000 * ty+d≠23037/\1000 * ty+d≠23048/\1000 * ty+d≠23063/\1000 * ty+d≠23125/\1000 * ty+d≠94104):rI aj Gt (aa d) h .append ts ty [s,x]=gd aj h ts s x:=by refine ab0 ?_;unfold HP Gt;rw[aG ah,aG ah,aG (by simp only[Iu];omega)];rfl
def abZ{h}{d}{ts}{ty:Nat}{s x}(hy:1000 * ty+d=22017∨1000 * ty+d=22035∨1000 * ty+d=23037∨1000 * ty+d=23048∨1000 * ty+d=23063∨1000 * ty+d=23125∨1000 * ty+d=94104):rI aj Gt (aa d) h .append ts ty [s,x]=sI aj h ts s x:=by refine ab1 ?_;unfold HP Gt;rw[aG ah,aG ah,aD (by simp only[Iu];omega)];rfl
def aR{α:Type}[BEq α][ReflBEq α](a:α):(a==a)=ai:=beq_self_eq_true a
def aw{p:Prop}(h:p:=by kernel_rfl):p:=h
set_option linter.defProp false in
def gW:=ax goS (ax goT (ax goH (ax goU (ax @abY (ax @abZ (ax @Hc.eq_1 (ax @vJ.eq_1 (ax @vJ.eq_2 (ax @vJ.eq_3 (ax @dK.eq_1 (ax @dK.eq_2 (ax @dK.eq_3 (ax @dK.eq_4 (ax @dK.eq_5 (ax @dK.eq_6 (ax @dK.eq_7 (ax @dK.eq_8 (ax @dK.eq_9 (ax @dK.eq_10 (ax @dK.eq_11 (ax @dK.eq_12 (ax @dK.eq_13 (ax @dK.eq_14 (ax @dK.eq_15 (ax @dK.eq_16 (ax @dK.eq_17 (ax @dK.eq_18 (ax @dK.eq_19 (ax @dK.eq_20 (ax @dK.eq_21 (ax @dK.eq_22 @dK.eq_23)))))))))))))))))))))))))))))))
def gS{p:Prop}(h:p:=by simp only[gW,reduceIte,Nat.reduceEqDiff,aR]):p:=h
def gR{p:Prop}(h:p:=by simp only[gW,reduceIte,Nat.reduceEqDiff,aR]<;>rfl):p:=h
def gA{p:Prop}(h:p:=by simp only[gW,reduceIte,Nat.reduceEqDiff,aR]<;>assumption):p:=h
def xY{p q:Prop}(x:q)(f:aq q->p:=by intro h;(repeat' (first|simp(maxSteps:=9999999) (disch:=first|exact dZ|fail) only[gW,reduceIte,Nat.reduceEqDiff,aR, *,-h]|refine dX ?_ ?_<;>(intro _;try omega)));exact h.out;fail_if_success refine ?_):p:=f ⟨x⟩
def bR{a0:Prop}{p q:Prop}(y0:a0)(x:q)(f:a0->aq q->p:=by intro y0 h;(repeat' (first|simp(maxSteps:=9999999) (disch:=first|exact dZ|fail) only[gW,reduceIte,Nat.reduceEqDiff,aR, *,-h]|refine dX ?_ ?_<;>(intro _;try omega)));exact h.out;fail_if_success refine ?_):p:=f y0 ⟨x⟩
def mJ{a0:Prop}{p:Prop}(y0:a0)(f:a0->p:=by intro y0;(repeat' (first|simp(maxSteps:=9999999) (disch:=first|exact dZ|fail) only[gW,reduceIte,Nat.reduceEqDiff,aR, *]|refine dX ?_ ?_<;>(intro _;try omega)));fail_if_success refine ?_):p:=f y0
def cq{a0 a1:Prop}{p q:Prop}(y0:a0)(y1:a1)(x:q)(f:a0->a1->aq q->p:=by intro y0 y1 h;(repeat' (first|simp(maxSteps:=9999999) (disch:=first|exact dZ|fail) only[gW,reduceIte,Nat.reduceEqDiff,aR, *,-h]|refine dX ?_ ?_<;>(intro _;try omega)));exact h.out;fail_if_success refine ?_):p:=f y0 y1 ⟨x⟩
def jq{a0 a1:Prop}{p:Prop}(y0:a0)(y1:a1)(f:a0->a1->p:=by intro y0 y1;(repeat' (first|simp(maxSteps:=9999999) (disch:=first|exact dZ|fail) only[gW,reduceIte,Nat.reduceEqDiff,aR, *]|refine dX ?_ ?_<;>(intro _;try omega)));fail_if_success refine ?_):p:=f y0 y1
def eg{a0 a1 a2:Prop}{p q:Prop}(y0:a0)(y1:a1)(y2:a2)(x:q)(f:a0->a1->a2->aq q->p:=by intro y0 y1 y2 h;(repeat' (first|simp(maxSteps:=9999999) (disch:=first|exact dZ|fail) only[gW,reduceIte,Nat.reduceEqDiff,aR, *,-h]|refine dX ?_ ?_<;>(intro _;try omega)));exact h.out;fail_if_success refine ?_):p:=f y0 y1 y2 ⟨x⟩
def qM{a0 a1 a2:Prop}{p:Prop}(y0:a0)(y1:a1)(y2:a2)(f:a0->a1->a2->p:=by intro y0 y1 y2;(repeat' (first|simp(maxSteps:=9999999) (disch:=first|exact dZ|fail) only[gW,reduceIte,Nat.reduceEqDiff,aR, *]|refine dX ?_ ?_<;>(intro _;try omega)));fail_if_success refine ?_):p:=f y0 y1 y2
def bW{a0 a1 a2 a3:Prop}{p q:Prop}(y0:a0)(y1:a1)(y2:a2)(y3:a3)(x:q)(f:a0->a1->a2->a3->aq q->p:=by intro y0 y1 y2 y3 h;(repeat' (first|simp(maxSteps:=9999999) (disch:=first|exact dZ|fail) only[gW,reduceIte,Nat.reduceEqDiff,aR, *,-h]|refine dX ?_ ?_<;>(intro _;try omega)));exact h.out;fail_if_success refine ?_):p:=f y0 y1 y2 y3 ⟨x⟩
def oo{a0 a1 a2 a3:Prop}{p:Prop}(y0:a0)(y1:a1)(y2:a2)(y3:a3)(f:a0->a1->a2->a3->p:=by intro y0 y1 y2 y3;(repeat' (first|simp(maxSteps:=9999999) (disch:=first|exact dZ|fail) only[gW,reduceIte,Nat.reduceEqDiff,aR, *]|refine dX ?_ ?_<;>(intro _;try omega)));fail_if_success refine ?_):p:=f y0 y1 y2 y3
def pW{a0:Prop}{p q:Prop}(y0:a0)(x:q)(f:a0->aq q->p:=by intro y0 h;(repeat' (first|simp(maxSteps:=9999999) (disch:=first|exact dZ|fail) only[gW,reduceIte,Nat.reduceEqDiff,aR, *,-h]|(refine dX ?_ ?_<;>(intro _;try omega))|refine uF aw ?_));exact h.out;fail_if_success refine ?_):p:=f y0 ⟨x⟩
def kK{a0:Prop}{p:Prop}(y0:a0)(f:a0->p:=by intro y0;(repeat' (first|simp(maxSteps:=9999999) (disch:=first|exact dZ|fail) only[gW,reduceIte,Nat.reduceEqDiff,aR, *]|(refine dX ?_ ?_<;>(intro _;try omega))|refine uF aw ?_));fail_if_success refine ?_):p:=f y0
def MY{a0 a1:Prop}{p q:Prop}(y0:a0)(y1:a1)(x:q)(f:a0->a1->aq q->p:=by intro y0 y1 h;(repeat' (first|simp(maxSteps:=9999999) (disch:=first|exact dZ|fail) only[gW,reduceIte,Nat.reduceEqDiff,aR, *,-h]|(refine dX ?_ ?_<;>(intro _;try omega))|refine uF aw ?_));exact h.out;fail_if_success refine ?_):p:=f y0 y1 ⟨x⟩
def Ug{a0 a1:Prop}{p:Prop}(y0:a0)(y1:a1)(f:a0->a1->p:=by intro y0 y1;(repeat' (first|simp(maxSteps:=9999999) (disch:=first|exact dZ|fail) only[gW,reduceIte,Nat.reduceEqDiff,aR, *]|(refine dX ?_ ?_<;>(intro _;try omega))|refine uF aw ?_));fail_if_success refine ?_):p:=f y0 y1
def MZ{a0 a1 a2:Prop}{p q:Prop}(y0:a0)(y1:a1)(y2:a2)(x:q)(f:a0->a1->a2->aq q->p:=by intro y0 y1 y2 h;(repeat' (first|simp(maxSteps:=9999999) (disch:=first|exact dZ|fail) only[gW,reduceIte,Nat.reduceEqDiff,aR, *,-h]|(refine dX ?_ ?_<;>(intro _;try omega))|refine uF aw ?_));exact h.out;fail_if_success refine ?_):p:=f y0 y1 y2 ⟨x⟩
def wB{a0 a1 a2:Prop}{p:Prop}(y0:a0)(y1:a1)(y2:a2)(f:a0->a1->a2->p:=by intro y0 y1 y2;(repeat' (first|simp(maxSteps:=9999999) (disch:=first|exact dZ|fail) only[gW,reduceIte,Nat.reduceEqDiff,aR, *]|(refine dX ?_ ?_<;>(intro _;try omega))|refine uF aw ?_));fail_if_success refine ?_):p:=f y0 y1 y2
def Jg{a0 a1 a2 a3:Prop}{p:Prop}(y0:a0)(y1:a1)(y2:a2)(y3:a3)(f:a0->a1->a2->a3->p:=by intro y0 y1 y2 y3;(repeat' (first|simp(maxSteps:=9999999) (disch:=first|exact dZ|fail) only[gW,reduceIte,Nat.reduceEqDiff,aR, *]|(refine dX ?_ ?_<;>(intro _;try omega))|refine uF aw ?_));fail_if_success refine ?_):p:=f y0 y1 y2 y3
end Go.Proofs.YtnfciiiohoafaaaGreatDoor
end
section
namespace Go.Proofs.YtnfciiiohoafaaaGreatDoor
open Go.AE Go.NT
def HQ(n):(n.tmod 1073741789<0->fmod n=n.tmod 1073741789+1073741789)/\(¬n.tmod 1073741789<0->fmod n=n.tmod 1073741789)/\ -1073741789<n.tmod 1073741789/\n.tmod 1073741789<1073741789:=by
 unfold fmod Qi;rcases Int.le_total 0 n with h|h
 ·rw[CM h];omega
 ·obtain⟨m,rfl⟩:∃m,n= -m:=⟨-n,by omega⟩;rw[Int.neg_tmod,CM ah];omega
def Yh:Tryz.f82.results.toList=[.tmp 2]:=aw
def Qf:Tryz.f81.results.toList=[.tmp 2]:=aw
def anw:Tryz.f28.results.toList=[.tmp 4]:=aw
def anx:Tryz.f29.results.toList=[.tmp 4]:=aw
def JX(n:Int)(h:ao):W.call 82 [im n] h=aa (.ret (im (fmod n)),h):=by
 obtain⟨m1,m2,m3,m4⟩:=HQ n;unfold im;refine cN rfl Tryz.func82 rfl ?_;by_cases c:n.tmod 1073741789<0
 ·have e:=m1 c;clear m1 m2;exact kK @Yh
 ·have e:=m2 c;clear m1 m2;exact kK @Yh
def MR(n):0<=fmod n/\fmod n<1073741789:=Dn n
def KR{a:Int}(h:0<=a):a.tmod 1073741789=a%1073741789:=CM h
def O8(a b:Int)(h:ao):W.call 29 [im a,im b] h=aa (.ret (im (db a b)),h):=by
 have ca:=JX a;have cb:=JX b;obtain⟨a1,a2⟩:=MR a;obtain⟨b1,b2⟩:=MR b;have p0:0<=fmod a * fmod b:=Z5 a1 b1;have p1:fmod a * fmod b<=1073741789 * 1073741789:=Z4 ah ah b1 ah;have e:db a b=(fmod a * fmod b).tmod 1073741789:=by rw[KR p0];rfl
 rw[e];unfold im at *
 refine cN rfl Tryz.func29 rfl ?_;exact kK @anx
def uH(l:List Int):Int:=l.foldl cS 0
def Y1(l)(x):uH (l++[x])=cS (uH l) x:=by unfold uH;rw[oL];rfl
def YZ(l):okF (uH l):=by
 rcases List.eq_nil_or_concat l with rfl|⟨l',x,rfl⟩
 ·exact An
 ·rw[List.concat_eq_append,Y1];exact I0 _ _
def gx{α:Type}{l:List α}{i}{x}(h:l[i]?=aa x):l.take (i+1)=l.take i++[x]:=by obtain⟨hi,rfl⟩:=aQ.1 h;rw[aaI hi]
def ap0(l:List Int)(k:Tok)(hl:l.length<=9223372036854775807)(h:ao):W.call 81 [.list k 1 (ints l)] h=aa (.ret (im (uH l)),h):=by
 have u23:=eY;have a3:=eM;have s3:=iQ;refine cN rfl Tryz.func81 rfl ?_;refine MY @Qf @eT ?_;refine de (λm e h'=>∃i:Nat,i<=l.length/\m=l.length - i/\e.get 6=.list k 1 (ints l)/\e.get 7=.v (.int .i64 (l.length:Nat))/\e.get 8=.v (.int .i64 i)/\e.get 3=.v (.int .i64 (uH (l.take i)))/\e.defers=[]/\h'=h) ?_ l.length _ _ ?_;rotate_left 1
 ·refine⟨0,df _,rfl,?_,?_,?_,?_,?_,rfl⟩<;>(first|assumption|(simp only[gW,reduceIte,aY,aR,eT]<;>rfl))
 rintro m e h' ⟨i,hi,rfl,g6,g7,g8,g3,hd,rfl⟩;by_cases az:i<l.length
 ·obtain⟨x,hx⟩:∃x,l[i]?=aa x:=⟨_,a9 az⟩;have hr:(ints l)[i]?=aa (vq x):=by rw[V2,hx];rfl
  have aha:(i:Int)<((ints l).length:Int):=by rw[eT];omega
  have cx:=JX x;obtain⟨x1,x2⟩:=MR x;obtain⟨s1,s2⟩:=YZ (l.take i);have s2:uH (l.take i)<1073741789:=s2;have e1:uH (l.take (i+1))=(uH (l.take i)+fmod x).tmod 1073741789:=by rw[gx hx,Y1,KR ah];show(fmod (uH (l.take i))+fmod x)%Qi=_;rw[Dm (YZ _)];rfl
  unfold im at cx;generalize uH (l.take i)=s at *
  have NY:=Wg (h:=h') hx;unfold im at NY;refine MZ @Qf @eT @ck ?_;exact⟨l.length - (i+1),by omega,i+1,by omega,rfl,by trivial,by trivial,by simp,by rw[e1],by trivial,by trivial⟩
 ·have:i=l.length:=by omega
  subst this;rw[gM] at g3
  repeat' (first|simp(maxSteps:=999999)(disch:=first|exact dZ|fail)only[gW,reduceIte,aY,aR,Qf,eT,im, *]|(refine dX ?_ ?_<;>(intro _;try omega))|refine uF aw ?_)
def abz(a b:Int)(h:ao):W.call 28 [im a,im b] h=aa (.ret (im (cS a b)),h):=by
 have c:=ap0 [a,b] .tight bG h;have e:uH [a,b]=cS a b:=by show cS (cS 0 a) b=cS a b;rw[A9,A9,A9,EN,Int.emod_add_emod]
 rw[e] at c;have bl:gN aj 23 2 [(0,im a),(1,im b)]=aa (.list .tight 1 (ints [a,b])):=aw;unfold im at *
 refine cN rfl Tryz.func28 rfl ?_;exact kK @anw
def PB(a):∀k:Nat,(a%Qi)^k%Qi=a^k%Qi:=by
 intro k
 induction k with
 |zero=>simp|succ k ih=>rw[xC,xC,AH,ih,CJ _ (CI _),<-AH]
def ai2(n)(k):(((fmod n).toNat^k%Q:Nat):Int)=n^k%Qi:=by rw[Ra,Int.natCast_pow,Bg,<-AX];exact PB n k
def tW(r:Int)(l:Nat)(s x:Int):Prop:=okF x/\(x * s^l)%Qi=r
def tW.Eb{r s x}{l}(h:tW r l s x)(ho:l%2=1):tW r (l/2) (db s s) (db x s):=by
 refine⟨I9 _ _,?_⟩;rw[<-h.2,tc,tc,AH,PB,CJ _ (CI _),<-AH,xA];congr 2;have e:l=2 * (l/2)+1:=by omega
 rw[show s^l=s^(2 * (l/2)+1) by rw[<-e],xC,EM,yS,show s * s=s^2 by rw[xC,xC,Lh,EL]]
def tW.even{r s x}{l}(h:tW r l s x)(ho:l%2=0):tW r (l/2) (db s s) x:=by
 refine⟨h.1,?_⟩;rw[<-h.2,tc,AH,PB,<-AH];congr 2;have e:l=2 * (l/2):=by omega
 rw[show s^l=s^(2 * (l/2)) by rw[<-e],EM,show s * s=s^2 by rw[xC,xC,Lh,EL]]
def tW.done{r s x}(h:tW r 0 s x):x=r:=by rw[<-h.2,Lh,Ib];exact(Lc h.1.1 h.1.2).symm
def tW.start(n):tW (fL n) 1073741787 n 1:=by
 refine⟨by unfold okF;decide,?_⟩;have e:(fL n)=(((fmod n).toNat^(Q - 2)%Q:Nat):Int):=by unfold fL;rw[I4 aO aO aO,CW]
 rw[e,ai2,EL];rfl
def Hr:Tryz.f201.results.toList=[.tmp 2,.tmp 3]:=aw
def ahV(n:Int)(h:ao):W.call 201 [im n] h=aa (.ret (.tuple [im (if fmod n=0 then 0 else fL n),im (if fmod n=0 then 90 else 0)]),h):=by
 have cn:=JX n;by_cases hz:fmod n=0
 ·rw[aD hz,aD hz];unfold im at *
  refine cN rfl abb rfl ?_;exact kK @Hr
 ·rw[aG hz,aG hz];have P0:=aq.mk (tW.start n);unfold im at *
  refine cN rfl abb rfl ?_;refine pW @Hr ?_;refine de (λm e h'=>∃(s x:Int),m<=1073741787/\tW (fL n) m s x/\e.get 4=.v (.int .i64 (m:Nat))/\e.get 5=.v (.int .i64 s)/\e.get 2=.v (.int .i64 x)/\e.defers=[]/\h'=h) ?_ 1073741787 _ _ ?_;rotate_left 1
  ·exact⟨n,1,aJ _,P0.out,by exact gR,by exact gR,by exact gR,by exact gR,rfl⟩
  rintro l e h' ⟨s,x,hl,hI,g4,g5,g2,hd,rfl⟩;have kI:=aq.mk hI;have c1:=O8 x s;have c2:=O8 s s;unfold im at c1 c2;by_cases h0:l=0
  ·subst h0;have hx:=hI.done;clear hI;exact kK @Hr
  ·have hdiv:((l:Nat):Int).tdiv 2=((l/2:Nat):Int):=(by rw[aae ah];omega);have DG:((l:Nat):Int).tmod 2=((l%2:Nat):Int):=(by rw[CM ah];omega);have fO:¬((l:Nat):Int)=0:=(by omega);clear hI;rcases CV l with ho|ho
   ·rw[ho] at DG;refine pW @Hr ?_;exact⟨l/2,by omega,_,_,by omega,kI.out.even ho,by trivial,by trivial,by trivial,by trivial,by trivial⟩
   ·rw[ho] at DG;refine pW @Hr ?_;exact⟨l/2,by omega,_,_,by omega,kI.out.Eb ho,by trivial,by trivial,by trivial,by trivial,by trivial⟩
def KC(b:Bool):Nat:=if b=ai then 0 else 1
def rA(x a n:Nat)(sq:Bool):Prop:=1<=a/\n%2=1/\nW a n/\a<=P/\n<=P/\mu x P%2=(mu a n+KC sq)%2
def Yr(b):(KC (!b)+1)%2=KC b%2:=by cases b<;>rfl
def rA.even{x a n}{sq}(h:rA x a n sq)(he:a%2=0):rA x (a/2) n (if n%8=3∨n%8=5 then !sq else sq):=by
 obtain⟨h1,h2,h3,h4,h5,h6⟩:=h;have e:a=2 * (a/2):=by omega
 have hc:nW (2 * (a/2)) n:=by rw[<-e];exact h3
 have hs:=apB h2 hc;rw[<-e] at hs;refine⟨ah,h2,aaJ hc,by omega,h5,?_⟩;rw[h6];have:=Yr sq;split at hs<;>rename_i q
 ·rw[aD q];omega
 ·rw[aG q];omega
def rA.Eb{x a n}{sq}(h:rA x a n sq)(ho:a%2=1)(hg:1<a):rA x (n%a) a (if a%4=3/\n%4=3 then !sq else sq):=by
 obtain⟨h1,h2,h3,h4,h5,h6⟩:=h;have hs:=apD h2 ho h3;have hl:=mE n (ah:0<a);have h0:n%a≠0:=λq=>by have hd:=E7 q;have:=Nat.dvd_gcd (Nat.dvd_refl a) hd;rw[h3] at this;have:=CT aO this;omega
 refine⟨ah,ho,aej h3,by omega,h4,?_⟩;rw[h6];have:=Yr sq;split at hs<;>rename_i q
 ·rw[aD q];omega
 ·rw[aG q];omega
def rA.done{x n}{sq}(h0:1<=x)(hx:x<P)(h:rA x 1 n sq):elem x=sq:=by
 obtain⟨-,h2,-,-,-,h6⟩:=h;rw[aiX (h:=n/2) ah] at h6;rw[aeS h0 hx];cases sq
 ·rw[cX];rw[h6];decide
 ·rw[cz];rw[h6];rfl
def rA.start{x}(h0:1<=x)(hx:x<P):rA x x P ai:=⟨h0,by decide,RD.coprime h0 hx,mV hx,aJ _,by rw[show KC ai=0 from rfl,AQ]⟩
def uD:Tryz.f46.results.toList=[.tmp 2]:=aw
def KQ(a b):((a:Nat):Int).tdiv (b:Nat)=((a/b:Nat):Int):=by rw[aae ah];simp
def o9(a b):((a:Nat):Int).tmod (b:Nat)=((a%b:Nat):Int):=by rw[CM ah];simp
def IV{x}(h:x<1∨2147483579<=x):b9 x=ay:=by
 unfold b9;rcases h with h|h
 ·rw[cX ah];rfl
 ·have:elem x.toNat=ay:=by rw[Bool.eq_false_iff];intro q;have:=(elem_iff.1 q).2.1;have hP:P=2147483579:=rfl;omega
  rw[this,Bool.and_false]
def KW(x:Int)(h:ao):W.call 46 [im x] h=aa (.ret (.v (.bool (b9 x))),h):=by
 by_cases hx:x<1
 ·rw[IV (.inl hx)];unfold im;refine cN rfl RT rfl ?_;exact kK @uD
 by_cases hy:2147483579<=x
 ·rw[IV (.inr hy)];unfold im;refine cN rfl RT rfl ?_;exact kK @uD
 obtain⟨n0,rfl⟩:∃n:Nat,x=n:=⟨x.toNat,by omega⟩;have h1:1<=n0:=by omega
 have h2:n0<P:=by have:P=2147483579:=rfl;omega
 have wO:∀{m:Nat} {sq:Bool},rA n0 1 m sq->b9 (n0:Int)=sq:=λhh=>by unfold b9;rw[cz ah,dS,hh.done h1 h2];rfl
 have k0:=aq.mk (rA.start h1 h2);have kf:=aq.mk @wO;clear wO;unfold im;generalize b9 (n0:Int)=res at *
 have hnP:(n0:Int)<2147483579:=by omega
 clear h2;refine cN rfl RT rfl ?_;refine pW @uD ?_;refine de (λm e h'=>∃(n:Nat) (sq:Bool),rA n0 m n sq/\e.get 0=.v (.int .i64 (m:Nat))/\e.get 3=.v (.int .i64 (n:Nat))/\e.get 4=.v (.bool sq)/\e.defers=[]/\h'=h) ?_ n0 _ _ ?_;rotate_left 1
 ·exact⟨2147483579,ai,k0.out,by exact gR,by exact gR,by exact gR,by exact gR,rfl⟩
 rintro a e h' ⟨n,sq,hI,g0,g3,g4,hd,rfl⟩;have kI:=aq.mk hI;have wF:=hI.1;have ha4:a<=2147483579:=hI.2.2.2.1;by_cases DK:a=1
 ·subst DK;have hr:=kf.out hI;clear hI;exact kK @uD
 have F9:(1:Int)<(a:Int):=by omega
 clear hI;refine pW @uD ?_;refine de (λm e Uh=>∃(sq:Bool),m<=a/\rA n0 m n sq/\e.get 0=.v (.int .i64 (m:Nat))/\e.get 3=.v (.int .i64 (n:Nat))/\e.get 4=.v (.bool sq)/\e.defers=[]/\Uh=h') ?_ a _ _ ?_;rotate_left 1
 ·exact⟨sq,aJ _,kI.out,by first|assumption|(exact gA),by first|assumption|(exact gA),by first|assumption|(exact gA),by first|assumption|(exact gA),rfl⟩
 clear g0 g3 g4 hd kI sq;rintro b e Uh ⟨sq,zG,hI,g0,g3,g4,hd,rfl⟩;have kI:=aq.mk hI;have jI:=hI.1;have tF:=hI.2.1;have arW:n<=2147483579:=hI.2.2.2.2.1;clear hI;have m2:((b:Nat):Int).tmod 2=((b%2:Nat):Int):=o9 b 2;have d2:((b:Nat):Int).tdiv 2=((b/2:Nat):Int):=KQ b 2;have m8:((n:Nat):Int).tmod 8=((n%8:Nat):Int):=o9 n 8;have mb4:((b:Nat):Int).tmod 4=((b%4:Nat):Int):=o9 b 4;have mn4:((n:Nat):Int).tmod 4=((n%4:Nat):Int):=o9 n 4;have mnb:=o9 n b;rcases CV b with hb|hb
 ·have hE:=kI.out.even hb;rw[hb,tU] at m2;by_cases c3:n%8=3
  ·rw[aD (.inl c3)] at hE;have m8:((n:Nat):Int).tmod 8=3:=(by rw[m8,c3];rfl);have kE:=aq.mk hE;clear hE;refine pW @uD ?_;exact⟨b/2,by omega,_,by omega,kE.out,(by first|exact aT|exact rfl),(by first|exact aT|exact rfl),(by first|exact aT|exact rfl),(by first|exact aT|exact rfl),(by first|exact aT|exact rfl)⟩
  ·by_cases c5:n%8=5
   ·rw[aD (.inr c5)] at hE;have m8:((n:Nat):Int).tmod 8=5:=(by rw[m8,c5];rfl);have kE:=aq.mk hE;clear hE;refine pW @uD ?_;exact⟨b/2,by omega,_,by omega,kE.out,(by first|exact aT|exact rfl),(by first|exact aT|exact rfl),(by first|exact aT|exact rfl),(by first|exact aT|exact rfl),(by first|exact aT|exact rfl)⟩
   ·rw[aG ah] at hE;have kE:=aq.mk hE;have c3':¬(((n%8:Nat):Int)=3):=(by omega);have c5':¬(((n%8:Nat):Int)=5):=(by omega);clear hE;refine pW @uD ?_;exact⟨b/2,by omega,_,by omega,kE.out,(by first|exact aT|exact rfl),(by first|exact aT|exact rfl),(by first|exact aT|exact rfl),(by first|exact aT|exact rfl),(by first|exact aT|exact rfl)⟩
 ·rw[hb,Z8] at m2;by_cases agu:b=1
  ·subst agu;have hr:=kf.out kI.out;exact kK @uD
  ·have hO:=kI.out.Eb hb ah;have bE:¬((b:Nat):Int)=1:=(by omega);have hnz:¬((b:Nat):Int)=0:=(by omega);have az:=mE n (ah:0<b);by_cases c4:b%4=3
   ·by_cases c5:n%4=3
    ·rw[aD ⟨c4,c5⟩] at hO;have mb4:((b:Nat):Int).tmod 4=3:=(by rw[mb4,c4];rfl);have mn4:((n:Nat):Int).tmod 4=3:=(by rw[mn4,c5];rfl);have kO:=aq.mk hO;clear hO;refine pW @uD ?_;exact⟨n%b,by omega,b,_,kO.out,(by first|exact aT|exact rfl),(by first|exact aT|exact rfl),(by first|exact aT|exact rfl),(by first|exact aT|exact rfl),(by first|exact aT|exact rfl)⟩
    ·rw[aG ah] at hO;have mb4:((b:Nat):Int).tmod 4=3:=(by rw[mb4,c4];rfl);have c5':¬(((n%4:Nat):Int)=3):=(by omega);have kO:=aq.mk hO;clear hO;refine pW @uD ?_;exact⟨n%b,by omega,b,_,kO.out,(by first|exact aT|exact rfl),(by first|exact aT|exact rfl),(by first|exact aT|exact rfl),(by first|exact aT|exact rfl),(by first|exact aT|exact rfl)⟩
   ·rw[aG ah] at hO;have c4':¬(((b%4:Nat):Int)=3):=(by omega);have kO:=aq.mk hO;clear hO;refine pW @uD ?_;exact⟨n%b,by omega,b,_,kO.out,(by first|exact aT|exact rfl),(by first|exact aT|exact rfl),(by first|exact aT|exact rfl),(by first|exact aT|exact rfl),(by first|exact aT|exact rfl)⟩
def XX:Tryz.f171.results.toList=[.tmp 2]:=aw
def Kp:Tryz.f150.results.toList=[.tmp 4]:=aw
def Qj:Tryz.f94.results.toList=[.tmp 2]:=aw
def XR:Tryz.f132.results.toList=[.tmp 4,.tmp 5]:=aw
def PY:Tryz.f140.results.toList=[.tmp 4,.tmp 5]:=aw
def afe(n:Int)(h:ao):W.call 171 [im n] h=aa (.ret (im (fmod n)),h):=by
 obtain⟨m1,m2,m3,m4⟩:=HQ n;unfold im;refine cN rfl Tryz.func171 rfl ?_;by_cases c:n.tmod 1073741789<0
 ·have e:=m1 c;clear m1 m2;exact kK @XX
 ·have e:=m2 c;clear m1 m2;exact kK @XX
def nG(r n a c:Nat):Prop:=c<P/\a<P/\c * a^n%P=r
def nG.Eb{r n a c}(h:nG r n a c)(ho:n%2=1):nG r (n/2) (a * a%P) (c * a%P):=by refine⟨mE _ aO,mE _ aO,?_⟩;rw[<-h.2.2,Rt,sN,<-Fc,<-sN,LF,<-Rv,<-Fe,<-aaZ,show(2 * (n/2)).succ=n by omega]
def nG.even{r n a c}(h:nG r n a c)(ho:n%2=0):nG r (n/2) (a * a%P) c:=by refine⟨h.1,mE _ aO,?_⟩;rw[<-h.2.2,sN,<-Fc,<-sN,<-Rv,<-Fe,(ah:2 * (n/2)=n)]
def nG.done{r a c}(h:nG r 0 a c):c=r:=by rw[<-h.2.2,Nat.pow_zero,nY,nF h.1]
def nG.start{a n}(ha:a<P)(hn:n<2^31):nG (sn a n) n a 1:=⟨aO,ha,by rw[Py hn,CW]⟩
def nG.bound{r n a c}(h:nG r n a c):c * a<=4611685722074649241/\a * a<=4611685722074649241:=by obtain⟨h1,h2,-⟩:=h;have h1:c<=2147483579:=mV h1;have h2:a<=2147483579:=mV h2;exact⟨ry h1 h2,ry h2 h2⟩
def XN(r a n:Nat)(hn:n<=2147483647)(hI:nG r n a 1)(h:ao):W.call 150 [im (a:Nat),im (n:Nat)] h=aa (.ret (im (r:Nat)),h):=by
 have P0:=aq.mk hI;clear hI;unfold im at *
 refine cN rfl Tryz.func150 rfl ?_;refine pW @Kp ?_;refine de (λm e h'=>∃(s x:Nat),m<=2147483647/\nG r m s x/\e.get 1=.v (.int .i64 (m:Nat))/\e.get 0=.v (.int .i64 (s:Nat))/\e.get 5=.v (.int .i64 (x:Nat))/\e.defers=[]/\h'=h) ?_ n _ _ ?_;rotate_left 1
 ·exact⟨a,1,hn,P0.out,by exact gR,by exact gR,by exact gR,by exact gR,rfl⟩
 rintro l e h' ⟨s,x,hl,hI,g1,g0,g5,hd,rfl⟩;have kI:=aq.mk hI;obtain⟨b1,b2⟩:=hI.bound;by_cases h0:l=0
 ·subst h0;have hx:=hI.done;clear hI;exact kK @Kp
 ·have hdiv:((l:Nat):Int).tdiv 2=((l/2:Nat):Int):=KQ l 2;have DG:((l:Nat):Int).tmod 2=((l%2:Nat):Int):=o9 l 2;have fO:(0:Int)<((l:Nat):Int):=by omega
  have e1:((x:Nat):Int) * (s:Nat)=((x * s:Nat):Int):=(xB _ _).symm;have e2:((s:Nat):Int) * (s:Nat)=((s * s:Nat):Int):=(xB _ _).symm;have e3:((x * s:Nat):Int).tmod 2147483579=((x * s%P:Nat):Int):=o9 (x * s) 2147483579;have e4:((s * s:Nat):Int).tmod 2147483579=((s * s%P:Nat):Int):=o9 (s * s) 2147483579;clear hI;rcases CV l with ho|ho
  ·rw[ho,tU] at DG;refine pW @Kp ?_;exact⟨l/2,by omega,_,_,by omega,kI.out.even ho,(by first|exact aT|exact rfl),(by first|exact aT|exact rfl),(by first|exact aT|exact rfl),(by first|exact aT|exact rfl),(by first|exact aT|exact rfl)⟩
  ·rw[ho,Z8] at DG;refine pW @Kp ?_;exact⟨l/2,by omega,_,_,by omega,kI.out.Eb ho,(by first|exact aT|exact rfl),(by first|exact aT|exact rfl),(by first|exact aT|exact rfl),(by first|exact aT|exact rfl),(by first|exact aT|exact rfl)⟩
def eU(a n:Int):Int:=if b9 a=ai then ((br a.toNat n:Nat):Int) else 0
def mo(a:Int):Int:=if b9 a=ai then 0 else 100
def jy(a b:Int):Int:=if b9 a=ai/\b9 b=ai then ((a.toNat * b.toNat%P:Nat):Int) else 0
def nf(a b:Int):Int:=if b9 a=ai/\b9 b=ai then 0 else 100
def A7{a}(h:b9 a=ai):∃n:Nat,a=n/\elem n=ai/\1<=n/\n<P:=by unfold b9 at h;rw[bA,decide_eq_true_eq] at h;have:=elem_iff.1 h.2;exact⟨a.toNat,by omega,h.2,this.1,this.2.1⟩
def Ky(x:Int)(h:ao):W.call 94 [im x] h=aa (.ret (.v (.bool (b9 x))),h):=by
 by_cases hx:x<1
 ·rw[IV (.inl hx)];unfold im;refine cN rfl RV rfl ?_;exact kK @Qj
 by_cases hy:2147483579<=x
 ·rw[IV (.inr hy)];unfold im;refine cN rfl RV rfl ?_;exact kK @Qj
 obtain⟨n0,rfl⟩:∃n:Nat,x=n:=⟨x.toNat,by omega⟩;have h2:n0<P:=by have:P=2147483579:=rfl;omega
 have cp:∀h,W.call 150 [.v (.int .i64 (n0:Nat)),.v (.int .i64 1073741789)] h=aa (.ret (.v (.int .i64 (sn n0 Q:Nat))),h):=XN (sn n0 Q) n0 1073741789 aO (nG.start h2 aO);have e:b9 (n0:Int)=decide (((sn n0 Q:Nat):Int)=1):=by
  unfold b9 elem;rw[cz ah,dS,cz ah,cz h2,vR,vR,vR,EG,decide_eq_true_eq];constructor
  ·intro q;rw[jF q];rfl
  ·intro q;have:sn n0 Q=1:=(by omega);rw[this];rfl
 rw[e];generalize sn n0 Q=r at *
 have VV:(1:Int)<=(n0:Int):=by omega
 have hy1:(n0:Int)<2147483579:=by omega
 clear e h2 hx hy;unfold im;refine cN rfl RV rfl ?_;exact kK @Qj
def Qc:Tryz.f69.results.toList=[.tmp 4,.tmp 5]:=aw
def Qg:Tryz.f84.results.toList=[.tmp 2]:=aw
def mul_tmod{a b}(ha:a<P)(hb:b<P):((a:Nat):Int) * (b:Nat)<=4611685722074649241/\(0:Int)<=((a:Nat):Int) * (b:Nat)/\(((a:Nat):Int) * (b:Nat)).tmod 2147483579=((a * b%P:Nat):Int):=by have h1:a<=2147483579:=mV ha;have h2:b<=2147483579:=mV hb;have:=ry h1 h2;have e:((a:Nat):Int) * (b:Nat)=((a * b:Nat):Int):=(xB _ _).symm;rw[e];exact⟨ah,by omega,o9 (a * b) 2147483579⟩
def afW(a b:Int)(h:ao):W.call 69 [im a,im b] h=aa (.ret (.tuple [im (jy a b),im (nf a b)]),h):=by
 have ca:=KW a;have cb:=KW b;unfold jy nf;by_cases ha:b9 a=ai
 ·by_cases hb:b9 b=ai
  ·rw[aD ⟨ha,hb⟩,aD ⟨ha,hb⟩];rw[ha] at ca;rw[hb] at cb;obtain⟨x,rfl,-,-,x2⟩:=A7 ha;obtain⟨y,rfl,-,-,y2⟩:=A7 hb;obtain⟨m1,m2,-⟩:=mul_tmod x2 y2;simp only[dS];have e1:((x:Nat):Int) * (y:Nat)=((x * y:Nat):Int):=(xB _ _).symm;have e3:((x * y:Nat):Int).tmod 2147483579=((x * y%P:Nat):Int):=o9 (x * y) 2147483579;rw[e1] at m1 m2;have m4:x * y%P<2147483579:=mE _ aO;clear ha hb;unfold im at *
   refine cN rfl RU rfl ?_;exact kK @Qc
  ·have gQ:b9 b=ay:=(by simpa using hb);rw[aG (λq=>hb q.2),aG (λq=>hb q.2)];rw[ha] at ca;rw[gQ] at cb;unfold im at *
   refine cN rfl RU rfl ?_;exact kK @Qc
 ·have pY:b9 a=ay:=by simpa using ha
  rw[aG (λq=>ha q.1),aG (λq=>ha q.1)];rw[pY] at ca;unfold im at *
  refine cN rfl RU rfl ?_;exact kK @Qc
def uw(l:List Int):Int:=l.foldl (λa x=>(a * (x.tmod 1073741789+1073741789)).tmod 1073741789) 1
def aif(l)(x):uw (l++[x])=(uw l * (x.tmod 1073741789+1073741789)).tmod 1073741789:=by unfold uw;rw[oL];rfl
def aie(n):uw [n]=fmod n:=by
 obtain⟨m1,m2,m3,m4⟩:=HQ n;show(1 * (n.tmod 1073741789+1073741789)).tmod 1073741789=fmod n;rw[EL,KR ah];by_cases c:n.tmod 1073741789<0
 ·rw[m1 c];omega
 ·rw[m2 c];omega
def Wm{a x:Int}(h:0<=a/\a<1073741789):0<=a * (x.tmod 1073741789+1073741789)/\a * (x.tmod 1073741789+1073741789)<=2305843013508661242/\0<=(a * (x.tmod 1073741789+1073741789)).tmod 1073741789/\(a * (x.tmod 1073741789+1073741789)).tmod 1073741789<1073741789:=by obtain⟨-,-,m3,m4⟩:=HQ x;have p0:0<=a * (x.tmod 1073741789+1073741789):=Z5 h.1 ah;have p1:a * (x.tmod 1073741789+1073741789)<=1073741789 * 2147483578:=Z4 ah ah ah ah;rw[KR p0];omega
def aid(l):0<=uw l/\uw l<1073741789:=by
 unfold uw;have key:∀(l:List Int) (a:Int),0<=a/\a<1073741789->0<=l.foldl (λa x=>(a * (x.tmod 1073741789+1073741789)).tmod 1073741789) a/\l.foldl (λa x=>(a * (x.tmod 1073741789+1073741789)).tmod 1073741789) a<1073741789:=by
  intro l
  induction l with
  |nil=>intro a h;exact h|cons x l ih=>intro a h;exact ih _ (Wm h).2.2
 exact key l 1 ⟨aO,by decide⟩
def aih(l:List Int)(k:Tok)(hl:l.length<=9223372036854775807)(h:ao):W.call 84 [.list k 1 (ints l)] h=aa (.ret (im (uw l)),h):=by
 have u23:=eY;have a3:=eM;have s3:=iQ;refine cN rfl Tryz.func84 rfl ?_;refine MY @Qg @eT ?_;refine de (λm e h'=>∃i:Nat,i<=l.length/\m=l.length - i/\e.get 6=.list k 1 (ints l)/\e.get 7=.v (.int .i64 (l.length:Nat))/\e.get 8=.v (.int .i64 i)/\e.get 3=.v (.int .i64 (uw (l.take i)))/\e.defers=[]/\h'=h) ?_ l.length _ _ ?_;rotate_left 1
 ·refine⟨0,df _,rfl,?_,?_,?_,?_,?_,rfl⟩<;>(first|assumption|(simp only[gW,reduceIte,aY,aR,eT]<;>rfl))
 rintro m e h' ⟨i,hi,rfl,g6,g7,g8,g3,hd,rfl⟩;by_cases az:i<l.length
 ·obtain⟨x,hx⟩:∃x,l[i]?=aa x:=⟨_,a9 az⟩;have aha:(i:Int)<((ints l).length:Int):=by rw[eT];omega
  obtain⟨-,-,x1,x2⟩:=HQ x;obtain⟨s1,s2,s3',s4⟩:=Wm (x:=x) (aid (l.take i));have e1:uw (l.take (i+1))=(uw (l.take i) * (x.tmod 1073741789+1073741789)).tmod 1073741789:=by rw[gx hx,aif]
  generalize uw (l.take i)=s at *
  have NY:=Wg (h:=h') hx;unfold im at NY;refine MZ @Qg @eT @ck ?_;exact⟨l.length - (i+1),by omega,i+1,by omega,rfl,by trivial,by trivial,by simp,by rw[e1],by trivial,by trivial⟩
 ·have:i=l.length:=by omega
  subst this;rw[gM] at g3
  repeat' (first|simp(maxSteps:=999999)(disch:=first|exact dZ|fail)only[gW,reduceIte,aY,aR,Qg,eT,im, *]|(refine dX ?_ ?_<;>(intro _;try omega))|refine uF aw ?_)
def Xv{h:ao}{z cs}{b}(hb:b=h.boxes.length):(h.push z).put b cs=h.push cs:=by subst hb;exact ss h z cs
def akP{h:ao}{z cs}{b}(hb:b≠h.boxes.length):(h.push z).put b cs=(h.put b cs).push z:=by
 unfold ao.push ao.put;simp only;congr 1;rcases dT b h.boxes.length with az|eo
 ·rw[List.set_append_left _ _ az]
 ·rw[Lv _ _ eo,aaE (by simp;omega),aaE eo]
def anD:Tryz.f83.results.toList=[.tmp 4]:=aw
def PZ:Tryz.f147.results.toList=[]:=aw
def P8:Tryz.f30.results.toList=[.cell 4 3,.tmp 5]:=aw
def K3:(gy aj 3).bind AV.bU=aa [im 0]:=aw
def abS{t}{x y}{n}(hn:n<=9223372036854775807):cQ aj .and t x y (.v (.int .i64 (n:Nat))) (.v (.int .i64 1))=aa (.v (.int .i64 ((n%2:Nat):Int))):=by
 rw[sQ];congr 3;have e1:BitVec.ofInt IntKind.i64.bits (n:Int)=BitVec.ofNat 64 n:=by apply BitVec.eq_of_toNat_eq;show(BitVec.ofInt 64 (n:Int)).toNat=(BitVec.ofNat 64 n).toNat;rw[BitVec.toNat_ofInt,BitVec.toNat_ofNat];omega
 have e2:(BitVec.ofNat 64 n&&&1#64).toNat=n%2:=by rw[BitVec.toNat_and,BitVec.toNat_ofNat,show(1#64:BitVec 64).toNat=1 from rfl,Nat.and_one_is_mod];omega
 have e3:(BitVec.ofInt IntKind.i64.bits (n:Int)&&&BitVec.ofInt IntKind.i64.bits 1).toNat=n%2:=by rw[e1];exact e2
 rw[e3,fh ah ah]
def aoK{t}{x y}{n}:cQ aj .shr t x y (.v (.int .i64 (n:Nat))) (.v (.int .u64 1))=aa (.v (.int .i64 ((n/2:Nat):Int))):=by rw[A0 aO];congr 3;show((n:Nat):Int).fdiv (2^1)=_;rw[EK _ aO];simp
def nt{h:ao}{b}{cs}(hb:h.boxes[b]?=aa cs):h.put b cs=h:=by
 unfold ao.put;have:h.boxes.set b cs=h.boxes:=by
  apply sM;intro k;rw[mU];split
  ·rename_i e;subst e;rw[aD (aQ.1 hb).1,hb]
  ·rfl
 rw[this]
def lX{H}{b}{x}(hb:H.boxes[b]?=aa [x]):aF aj Gt H 3 (.ptr (.box b) 0)=aa x:=by rw[ma eM hb];rfl
def Az{H}{b}{x}{n}(hb:H.boxes[b]?=aa [x]):b8 aj H 3 (.ptr (.box b) 0) (.v (.int .i64 n))=aa (H.put b [.v (.int .i64 n)]):=fw (off:=0) (cs:=[x]) (xs:=[im n]) rfl iQ hb rfl (aJ 1)
def RE(l bc:Nat)(rec:gZ):Prop:=∀(s c:Nat) (b:Bool) (H:ao),s<P->c<P->H.loops[l]?=aa rec->H.boxes[bc]?=aa [im (c:Nat)]->W.round l [im (s:Nat),.v (.bool b)] H=aa (.ret (.v (.bool ai)),H.put bc [im ((if b=ai then c * s%P else c:Nat):Int)])
def zf{P}{R}{e}{h}{t l:Nat}{args}{ts}(hy:e.get t=.yield l):lO P R e h {callee:=.value (.tmp t),args,argTypes:=ts}=R.round l (args.toList.map e.eval) h:=by rw[SK,hy]
def apb(l bn ba bc:Nat)(rec:gZ)(hR:RE l bc rec)(h1:bn≠ba)(h2:bn≠bc)(h3:ba≠bc)(r n a c:Nat)(hn:n<=2147483647)(hI:nG r n a c)(h:ao)
 (Bm:h.boxes[bn]?=aa [im (n:Nat)]) (zG:h.boxes[ba]?=aa [im (a:Nat)]) (Dv:h.boxes[bc]?=aa [im (c:Nat)]) (hl:h.loops[l]?=aa rec):
 ∃h',W.call 147 [.yield l,.ptr (.box bn) 0,.ptr (.box ba) 0] h=aa (.ret (.tuple []),h')/\h'.boxes[bc]?=aa [im (r:Nat)]/\h'.loops=h.loops/\∀h0:ao,Ext h0 h->h0.boxes.length<=bn->h0.boxes.length<=ba->h0.boxes.length<=bc->Ext h0 h':=by
 have kR:=aq.mk hR;have kI:=aq.mk hI;clear hR hI;refine ij rfl Tryz.func147 rfl ?_;refine bR @PZ ?_;refine de (λm e h'=>∃(a c:Nat),m<=2147483647/\nG r m a c/\e.get 0=.yield l/\e.get 1=.ptr (.box bn) 0/\e.get 2=.ptr (.box ba) 0/\e.defers=[]/\h'.boxes[bn]?=aa [im (m:Nat)]/\h'.boxes[ba]?=aa [im (a:Nat)]/\h'.boxes[bc]?=aa [im (c:Nat)]/\h'.loops=h.loops/\∀h0:ao,Ext h0 h->h0.boxes.length<=bn->h0.boxes.length<=ba->h0.boxes.length<=bc->Ext h0 h') ?_ n _ _ ?_;rotate_left 1
 ·exact⟨a,c,hn,kI.out,by exact gR,by exact gR,by exact gR,by exact gR,Bm,zG,Dv,rfl,λ_ x _ _ _=>x⟩
 clear Bm zG Dv kI n a c hn;rintro m e H ⟨a,c,hm,hI,g0,g1,g2,hd,Bm,zG,Dv,N2,hX⟩;have kI:=aq.mk hI;have kX:=aq.mk hX;have ln:=lX Bm;have la:=lX zG;clear hX;by_cases h0:m=0
 ·subst h0;have hx:=hI.done;subst hx;unfold im at ln la;clear hI;refine bR @PZ ?_;exact⟨_,rfl,Dv,N2,kX.out⟩
 have mq:(0:Int)<((m:Nat):Int):=by omega
 have q1:∀(t:aH) (x y:bH),cQ aj .and t x y (.v (.int .i64 (m:Nat))) (.v (.int .i64 1))=aa (.v (.int .i64 ((m%2:Nat):Int))):=λt x y=>abS ah;obtain⟨m1,m2,m3⟩:=mul_tmod hI.2.1 hI.2.1;have vd:H.loops[l]?=aa rec:=by rw[N2];exact hl
 have rd:=kR.out a c (decide ((m%2:Nat)=1)) H hI.2.1 hI.1 vd Dv;have FR:nG r (m/2) (a * a%P) (if decide (m%2=1)=ai then c * a%P else c):=by
  rcases CV m with ho|ho
  ·rw[ho];exact hI.even ho
  ·rw[ho];exact hI.Eb ho
 have kI2:=aq.mk FR;have Jl:decide (((m%2:Nat):Int)=1)=decide (m%2=1):=by rw[decide_eq_decide];omega
 have ag1:=(aQ.1 Bm).1;have agZ:=(aQ.1 zG).1;have ag0:=(aQ.1 Dv).1;clear hI FR hl;generalize (if decide (m%2=1)=ai then c * a%P else c)=c2 at *
 generalize decide (m%2=1)=bt at *
 unfold im at *
 have la2:∀x,aF aj Gt (H.put bc x) 3 (.ptr (.box ba) 0)=aa (.v (.int .i64 (a:Nat))):=λx=>lX (by rw[cP h3];exact zG);have sa2:∀x n,b8 aj (H.put bc x) 3 (.ptr (.box ba) 0) (.v (.int .i64 n))=aa ((H.put bc x).put ba [.v (.int .i64 n)]):=λx n=>Az (by rw[cP h3];exact zG);have ln2:∀x y,aF aj Gt ((H.put bc x).put ba y) 3 (.ptr (.box bn) 0)=aa (.v (.int .i64 (m:Nat))):=λx y=>lX (by rw[cP h1,cP h2];exact Bm);have sn2:∀x y n,b8 aj ((H.put bc x).put ba y) 3 (.ptr (.box bn) 0) (.v (.int .i64 n))=aa (((H.put bc x).put ba y).put bn [.v (.int .i64 n)]):=λx y n=>Az (by rw[cP h1,cP h2];exact Bm);refine eg @PZ @zf @aoK ?_;refine⟨m/2,by omega,a * a%P,c2,by omega,kI2.out,aT,aT,aT,aT,?_,?_,?_,N2,λh0 x p1 p2 p3=>(((kX.out h0 x p1 p2 p3).fI p3 _).fI p2 _).fI p1 _⟩
 ·exact ey (by rw[mc,mc];exact ag1)
 ·rw[cP (Ne.symm h1)];exact ey (by rw[mc];exact agZ)
 ·rw[cP (Ne.symm h2),cP (Ne.symm h3)];exact ey ag0
def Hd{e:Env}{l p q t:Nat}{r:gZ}{x y}(hp:r.params=#[p,q])(ht:r.tmps=e.tmps):(mT l r [x,y]).get t=if q=t then y else if p=t then x else e.get t:=by unfold mT;rw[hp,ht];have h1:=D7 (e.tmps.set p x) q t y;have h2:=D7 e.tmps p t x;show((e.tmps.set p x).set q y).get t=_;rw[h1,h2];rfl
def apc(a n:Int)(h:ao):W.call 83 [im a,im n] h=aa (.ret (.func (.func 147) [] [.ptr (.box (h.boxes.length+1)) 0,.ptr (.box h.boxes.length) 0]),(h.push [im a]).push [im n]):=by have bx:∀n:Int,(AV.v (.int .i64 n)).bU=aa [.v (.int .i64 n)]:=λ_=>rfl;unfold im;refine cN rfl Tryz.func83 rfl ?_;exact qM @anD @bK @cH
def af0(a n:Int)(h:ao):∃h',W.call 30 [im a,im n] h=aa (.ret (.tuple [im (eU a n),im (mo a)]),h')/\Ext h h':=by
 have ca:=KW a;have z3:=K3;have a3:=eM;unfold eU mo;by_cases ha:b9 a=ai;rotate_left 1
 ·have pY:b9 a=ay:=by simpa using ha
  rw[aG ha,aG ha];rw[pY] at ca;unfold im at *
  refine ij rfl abf rfl ?_;refine bW @P8 @Az @lX (ax @Xv @cH) ?_;exact⟨_,rfl,.push _ _⟩
 rw[aD ha,aD ha];rw[ha] at ca;obtain⟨x,rfl,-,x1,x2⟩:=A7 ha;clear ha;have cl:=aih [n] .tight bG;rw[aie] at cl;obtain⟨m,hm⟩:∃m:Nat,fmod n=m:=⟨(fmod n).toNat,(Bg n).symm⟩;have Gg:m<Q:=by have:=MS n;rw[hm,dS] at this;exact this
 have he:br (x:Int).toNat n=sn x m:=by unfold br;rw[hm,dS,dS]
 rw[he];rw[hm] at cl;have bl:gN aj 23 1 [(0,im n)]=aa (.list .tight 1 (ints [n])):=aw;have bx:∀n:Int,(im n).bU=aa [im n]:=λ_=>rfl;have csq:=λH=>apc (x:Nat) (m:Nat) H;have DU:=nG.start (n:=m) x2 (pj Gg aO);generalize sn x m=r at *
 clear he hm;have kS:=aq.mk (ax DU (ax x2 (ax Gg x1)));clear DU x2 Gg x1;unfold im at *
 refine ij rfl abf rfl ?_;refine bW @P8 @Az @lX (ax @Xv @cH) ?_;refine bM.gen λe he hd hp mM=>?_;have g4:e.get 4=.ptr (.box h.boxes.length) 0:=by rw[he];exact gS
 have g15:e.get 15=.func (.func 147) [] [.ptr (.box (h.boxes.length+1+1)) 0,.ptr (.box (h.boxes.length+1)) 0]:=by rw[he];exact gS
 have hdf:e.defers=[]:=by rw[hd];exact gS
 clear he hd hp mM;refine Ct (by rw[zw];exact g15) λrec w1 w2 w3 w4 w5 w6=>?_;have hL:(((h.push [AV.v (.int .i64 1)]).push [AV.v (.int .i64 (x:Nat))]).push [AV.v (.int .i64 (m:Nat))]).loops.length=h.loops.length:=rfl;rw[hL];have PR:RE h.loops.length h.boxes.length rec:=by
  intro s c b H hs hc hl hb;obtain⟨m1,m2,-⟩:=mul_tmod hc hs;have e1:((c:Nat):Int) * (s:Nat)=((c * s:Nat):Int):=(xB _ _).symm;have e3:((c * s:Nat):Int).tmod 2147483579=((c * s%P:Nat):Int):=o9 (c * s) 2147483579;rw[e1] at m1 m2;have r1:∀t,(mT h.loops.length rec [im (s:Nat),.v (.bool b)]).get t=if 17=t then .v (.bool b) else if 16=t then im (s:Nat) else e.get t:=λt=>Hd w2 w1
  have fG:(H.busy h.loops.length rec).boxes[h.boxes.length]?=aa [im (c:Nat)]:=hb;have l1:=lX fG;have jK:=hb;have s1:=λn=>Az (n:=n) fG;refine Ki hl (by rw[w2];rfl) ?_;rw[w3];unfold im at *
  refine bM.gen λe2 jf jJ nM DO=>?_;have q16:e2.get 16=.v (.int .i64 (s:Nat)):=by rw[jf,r1];rfl
  have q17:e2.get 17=.v (.bool b):=by rw[jf,r1];rfl
  have q4:e2.get 4=.ptr (.box h.boxes.length) 0:=by rw[jf,r1];exact g4
  clear jf r1 g4 g15 cl csq ca bl;have dy:h.loops.length<H.loops.length:=(aQ.1 hl).1;have iM:H.loops.set h.loops.length rec=H.loops:=by
   apply sM;intro k;rw[mU];split
   ·rename_i e;subst e;exact hl.symm
   ·rfl
  have zZ:{rec with state:=LoopState.ready,pending:=au}=rec:=by cases rec;cases w5;cases w6;rfl
  cases b with
  |true=>
   refine xY ?_;refine⟨aT,rec,rfl,w5,?_⟩;refine cq @l1 @s1 ?_;refine⟨{rec with state:=.busy},?_,rfl,?_⟩
   ·show(H.loops.set h.loops.length _)[h.loops.length]?=_;simp[dy]
   ·show(H.put h.boxes.length _)=_;simp only[ao.put,ao.busy,CQ,zZ,iM]
  |false=>
   refine xY ?_;refine⟨aT,rec,rfl,w5,{rec with state:=.busy},?_,rfl,?_⟩
   ·show(H.loops.set h.loops.length _)[h.loops.length]?=_;simp[dy]
   ·have hq:H.put h.boxes.length [AV.v (Value.int IntKind.i64 (c:Nat))]=H:=nt jK;refine(show H.put h.boxes.length _=H from hq).trans ?_;simp only[ao.busy,CQ,zZ,iM]
 have uf:∀{z:gZ},((((h.push [AV.v (.int .i64 1)]).push [AV.v (.int .i64 (x:Nat))]).push [AV.v (.int .i64 (m:Nat))]).loop z).boxes[h.boxes.length]?=aa [im ((1:Nat):Int)]:=λ{z}=>aZ (aZ (bp _ _));have jI:∀{z:gZ},((((h.push [AV.v (.int .i64 1)]).push [AV.v (.int .i64 (x:Nat))]).push [AV.v (.int .i64 (m:Nat))]).loop z).boxes[h.boxes.length+1]?=aa [im (x:Nat)]:=λ{z}=>aZ (ng (by rw[cH]));have fG:∀{z:gZ},((((h.push [AV.v (.int .i64 1)]).push [AV.v (.int .i64 (x:Nat))]).push [AV.v (.int .i64 (m:Nat))]).loop z).boxes[h.boxes.length+1+1]?=aa [im (m:Nat)]:=λ{z}=>ng (by rw[cH,cH]);have gv:=@Ch (((h.push [AV.v (.int .i64 1)]).push [AV.v (.int .i64 (x:Nat))]).push [AV.v (.int .i64 (m:Nat))]) rec;have Gg:=kS.out.2.2.1;obtain⟨h',c1,c2,c3,c4⟩:=apb h.loops.length (h.boxes.length+1+1) (h.boxes.length+1) h.boxes.length rec PR ah ah ah r m x 1 (by unfold Q at Gg;omega) kS.out.1 _ fG jI uf gv;refine⟨_,h',c1,rec,by rw[c3];exact gv,by rw[w5];decide,.inl ⟨w6,?_⟩⟩;have hX:Ext h h':=c4 h ((((Ext.push h _).trans (Ext.push _ _)).trans (Ext.push _ _)).trans ((Fr.Ai (bn:=h.boxes.length+3) (l0:=h.loops.length) (n0:=h.tn) _ _).ext (by simp only[cH];omega) (aJ _) (aJ _))) ah ah (aJ _);have az:h.boxes.length<h'.boxes.length:=(aQ.1 c2).1;generalize hH:h'.eH h.loops.length {rec with state:=.exhausted}=H;have hb:H.boxes[h.boxes.length]?=aa [im (r:Nat)]:=by rw[<-hH];exact c2
 have hX2:Ext h H:=by rw[<-hH];exact((Fr.Cj (bn:=h.boxes.length) (l0:=h.loops.length) (n0:=h.tn) hX (aJ _)).trans (.eH (aJ _) _)).ext (aJ _) (aJ _) (aJ _)
 clear c1 c2 c3 c4 hH gv uf jI fG PR w1 w2 w3 w4 w5 w6 hX az;have l1:=lX hb;unfold im at *
 have s1:=λn=>Az (n:=n) hb;have l2:∀y,aF aj Gt (H.put h.boxes.length [.v (.int .i64 y)]) 3 (.ptr (.box h.boxes.length) 0)=aa (.v (.int .i64 y)):=λy=>lX (ey (aQ.1 hb).1);refine bR @P8 ?_;exact⟨_,rfl,hX2.fI (aJ _) _⟩
abbrev aX(b:List UInt8):List (List AV):=b.map jQ
def Ya:Tryz.f220.results.toList=[.tmp 2]:=aw
def xe:Tryz.f221.results.toList=[.tmp 4]:=aw
def Yb:Tryz.f222.results.toList=[.tmp 8]:=aw
def IB:fY aj 5=aa ay:=aw
def sH:dm aj 5=aa 1:=aw
def Ti(n)(h):mY aj h 5 42 (.v (.int .u8 n))=aa (.v (.int .u32 (IntKind.u32.wrap n)),h):=aw
def uc(n)(h):mY aj h 3 179 (.v (.int .i64 n))=aa (.v (.int .u64 (IntKind.u64.wrap n)),h):=aw
def jc(b:List UInt8):Nat->Nat
 |0=>0
 |i+1=>jc b i * 256+(dp b i).toNat
def uI(b:UInt8):b.toNat<256:=b.toNat_lt
def R0(b):∀i,jc b i<256^i
 |0=>Nat.zero_lt_one
 |i+1=>by have:=R0 b i;have:=uI (dp b i);unfold jc;rw[AT];omega
def abn(b):BitVec.ofNat 32 (jc b 4)=pP b 0:=by unfold pP;refine congrArg (BitVec.ofNat 32) ?_;show(((0 * 256+(dp b 0).toNat) * 256+(dp b 1).toNat) * 256+(dp b 2).toNat) * 256+(dp b 3).toNat=((dp b 0).toNat * 256+(dp b 1).toNat) * 256 * 256+(dp b 2).toNat * 256+(dp b 3).toNat;omega
def or8{t}{x y}{n m}(hn:n<16777216)(hm:m<256):cQ aj .or t x y (aN (BitVec.ofNat 32 n<<<8)) (.v (.int .u32 (IntKind.u32.wrap (m:Nat))))=aa (aN (BitVec.ofNat 32 (n * 256+m))):=by
 have e1:AV.v (.int .u32 (IntKind.u32.wrap (m:Nat)))=aN (BitVec.ofNat 32 m):=by unfold aN;rw[wrap32,BitVec.toNat_ofNat];congr 2
 rw[e1,o7];congr 2;apply BitVec.eq_of_toNat_eq;rw[BitVec.toNat_or,BitVec.toNat_shiftLeft,BitVec.toNat_ofNat,BitVec.toNat_ofNat,BitVec.toNat_ofNat];have:n%2^32=n:=nF ah;rw[this];have h1:n<<<8=n * 256:=by rw[AU]
 have h2:n<<<8%2^32=n<<<8:=nF ah;rw[h2,nF (ah:m<2^32),<-Nat.shiftLeft_add_eq_or_of_lt (ah:m<2^8),h1];exact(nF ah).symm
def aoF{t}{x y}{u}:cQ aj .shl t x y (aN u) (.v (.int .u64 8))=aa (aN (u<<<8)):=rn (n:=8) aO
def aqW(b:List UInt8)(x:AV)(h:ao)(s:dO 1 h x (aX b))(hb:4<=b.length):W.call 220 [x] h=aa (.ret (aN (pP b 0)),h):=by
 have u28:=jb;have a5:=IB;have s5:=sH;obtain⟨y,y1,y2⟩:=s.slice (t:=28) (lo:=au) (hi:=aa (.v (.int .i64 4))) (l:=0) (m:=4) aO u28 sH (.inr ⟨.i64,rfl,by simpa using hb⟩) (.inl ⟨rfl,rfl⟩) aO;have y3:=y2.len u28;rw[show((Lw 4 (aX b)).drop 0).length=4 by simp;omega] at y3;have kY:=aq.mk y2;clear s y2;refine cN rfl Tryz.func220 rfl ?_;refine pW @Ya ?_;refine de (λm e h'=>∃i:Nat,i<=4/\m=4 - i/\e.get 6=y/\e.get 7=.v (.int .i64 (4:Nat))/\e.get 8=.v (.int .i64 i)/\e.get 2=aN (BitVec.ofNat 32 (jc b i))/\e.defers=[]/\h'=h) ?_ 4 _ _ ?_;rotate_left 1
 ·refine⟨0,df _,rfl,?_,?_,?_,?_,?_,rfl⟩<;>(first|assumption|(exact gR))
 rintro m e h' ⟨i,hi,rfl,g6,g7,g8,g2,hd,rfl⟩;by_cases hc:i=4
 ·subst hc;rw[abn] at g2;exact kK @Ya
 ·have az:i<4:=by omega
  have fG:i<b.length:=by omega
  obtain⟨p,p1,p2,-⟩:=kY.out.index (G:=Gt) (t:=28) (i:=i) (row:=jQ (b[i])) aO u28 sH (by simp[az,fG]);have p4:=p2 IB;have e1:(jQ b[i]).head?=aa (.v (.int .u8 (((dp b i).toNat:Nat):Int))):=by unfold dp;rw[eQ,a9 fG];rfl
  rw[e1] at p4;have l1:=R0 b i;have l2:jc b i<16777216:=mD l1 (by have:256^i<=256^3:=Nat.pow_le_pow_right aO ah;exact this);have l3:=uI (dp b i);clear p2 e1 l1;refine MZ @Ti @or8 @aoF ?_;refine⟨4 - (i+1),by omega,i+1,by omega,rfl,aT,aT,?_,?_,aT,aT⟩
  ·rfl
  ·rfl
def w9(v:eF)(n)(hn:n<32):(v<<<(32 - n))|||(v>>>n)=NT.dD v n:=by unfold NT.dD;rw[BitVec.or_comm]
def amE(v:eF)(h:ao):W.call 221 [aN v,.v (.int .i64 (-2))] h=aa (.ret (aN (NT.dD v 2)),h):=by
 have c1:∀(t:aH) (x y:bH),cQ aj .and t x y (.v (.int .u64 (IntKind.u64.wrap (-2)))) (.v (.int .u64 31))=aa (.v (.int .u64 30)):=λt x y=>by rw[sQ];rfl
 have c2:∀(t:aH) (x y:bH),cQ aj .shl t x y (aN v) (.v (.int .u64 30))=aa (aN (v<<<30)):=λt x y=>rn (n:=30) aO;have c3:∀(t:aH) (x y:bH),cQ aj .shr t x y (aN v) (.v (.int .u64 (IntKind.u64.wrap (32 - 30))))=aa (aN (v>>>2)):=λt x y=>sw (n:=2) aO;have c4:=w9 v 2 aO;refine cN rfl xL rfl ?_;exact wB @xe @uc @o7
def amH(v:eF)(h:ao):W.call 221 [aN v,.v (.int .i64 (-6))] h=aa (.ret (aN (NT.dD v 6)),h):=by
 have c1:∀(t:aH) (x y:bH),cQ aj .and t x y (.v (.int .u64 (IntKind.u64.wrap (-6)))) (.v (.int .u64 31))=aa (.v (.int .u64 26)):=λt x y=>by rw[sQ];rfl
 have c2:∀(t:aH) (x y:bH),cQ aj .shl t x y (aN v) (.v (.int .u64 26))=aa (aN (v<<<26)):=λt x y=>rn (n:=26) aO;have c3:∀(t:aH) (x y:bH),cQ aj .shr t x y (aN v) (.v (.int .u64 (IntKind.u64.wrap (32 - 26))))=aa (aN (v>>>6)):=λt x y=>sw (n:=6) aO;have c4:=w9 v 6 aO;refine cN rfl xL rfl ?_;exact wB @xe @uc @o7
def amI(v:eF)(h:ao):W.call 221 [aN v,.v (.int .i64 (-7))] h=aa (.ret (aN (NT.dD v 7)),h):=by
 have c1:∀(t:aH) (x y:bH),cQ aj .and t x y (.v (.int .u64 (IntKind.u64.wrap (-7)))) (.v (.int .u64 31))=aa (.v (.int .u64 25)):=λt x y=>by rw[sQ];rfl
 have c2:∀(t:aH) (x y:bH),cQ aj .shl t x y (aN v) (.v (.int .u64 25))=aa (aN (v<<<25)):=λt x y=>rn (n:=25) aO;have c3:∀(t:aH) (x y:bH),cQ aj .shr t x y (aN v) (.v (.int .u64 (IntKind.u64.wrap (32 - 25))))=aa (aN (v>>>7)):=λt x y=>sw (n:=7) aO;have c4:=w9 v 7 aO;refine cN rfl xL rfl ?_;exact wB @xe @uc @o7
def amz(v:eF)(h:ao):W.call 221 [aN v,.v (.int .i64 (-11))] h=aa (.ret (aN (NT.dD v 11)),h):=by
 have c1:∀(t:aH) (x y:bH),cQ aj .and t x y (.v (.int .u64 (IntKind.u64.wrap (-11)))) (.v (.int .u64 31))=aa (.v (.int .u64 21)):=λt x y=>by rw[sQ];rfl
 have c2:∀(t:aH) (x y:bH),cQ aj .shl t x y (aN v) (.v (.int .u64 21))=aa (aN (v<<<21)):=λt x y=>rn (n:=21) aO;have c3:∀(t:aH) (x y:bH),cQ aj .shr t x y (aN v) (.v (.int .u64 (IntKind.u64.wrap (32 - 21))))=aa (aN (v>>>11)):=λt x y=>sw (n:=11) aO;have c4:=w9 v 11 aO;refine cN rfl xL rfl ?_;exact wB @xe @uc @o7
def amA(v:eF)(h:ao):W.call 221 [aN v,.v (.int .i64 (-13))] h=aa (.ret (aN (NT.dD v 13)),h):=by
 have c1:∀(t:aH) (x y:bH),cQ aj .and t x y (.v (.int .u64 (IntKind.u64.wrap (-13)))) (.v (.int .u64 31))=aa (.v (.int .u64 19)):=λt x y=>by rw[sQ];rfl
 have c2:∀(t:aH) (x y:bH),cQ aj .shl t x y (aN v) (.v (.int .u64 19))=aa (aN (v<<<19)):=λt x y=>rn (n:=19) aO;have c3:∀(t:aH) (x y:bH),cQ aj .shr t x y (aN v) (.v (.int .u64 (IntKind.u64.wrap (32 - 19))))=aa (aN (v>>>13)):=λt x y=>sw (n:=13) aO;have c4:=w9 v 13 aO;refine cN rfl xL rfl ?_;exact wB @xe @uc @o7
def amB(v:eF)(h:ao):W.call 221 [aN v,.v (.int .i64 (-17))] h=aa (.ret (aN (NT.dD v 17)),h):=by
 have c1:∀(t:aH) (x y:bH),cQ aj .and t x y (.v (.int .u64 (IntKind.u64.wrap (-17)))) (.v (.int .u64 31))=aa (.v (.int .u64 15)):=λt x y=>by rw[sQ];rfl
 have c2:∀(t:aH) (x y:bH),cQ aj .shl t x y (aN v) (.v (.int .u64 15))=aa (aN (v<<<15)):=λt x y=>rn (n:=15) aO;have c3:∀(t:aH) (x y:bH),cQ aj .shr t x y (aN v) (.v (.int .u64 (IntKind.u64.wrap (32 - 15))))=aa (aN (v>>>17)):=λt x y=>sw (n:=17) aO;have c4:=w9 v 17 aO;refine cN rfl xL rfl ?_;exact wB @xe @uc @o7
def amC(v:eF)(h:ao):W.call 221 [aN v,.v (.int .i64 (-18))] h=aa (.ret (aN (NT.dD v 18)),h):=by
 have c1:∀(t:aH) (x y:bH),cQ aj .and t x y (.v (.int .u64 (IntKind.u64.wrap (-18)))) (.v (.int .u64 31))=aa (.v (.int .u64 14)):=λt x y=>by rw[sQ];rfl
 have c2:∀(t:aH) (x y:bH),cQ aj .shl t x y (aN v) (.v (.int .u64 14))=aa (aN (v<<<14)):=λt x y=>rn (n:=14) aO;have c3:∀(t:aH) (x y:bH),cQ aj .shr t x y (aN v) (.v (.int .u64 (IntKind.u64.wrap (32 - 14))))=aa (aN (v>>>18)):=λt x y=>sw (n:=18) aO;have c4:=w9 v 18 aO;refine cN rfl xL rfl ?_;exact wB @xe @uc @o7
def amD(v:eF)(h:ao):W.call 221 [aN v,.v (.int .i64 (-19))] h=aa (.ret (aN (NT.dD v 19)),h):=by
 have c1:∀(t:aH) (x y:bH),cQ aj .and t x y (.v (.int .u64 (IntKind.u64.wrap (-19)))) (.v (.int .u64 31))=aa (.v (.int .u64 13)):=λt x y=>by rw[sQ];rfl
 have c2:∀(t:aH) (x y:bH),cQ aj .shl t x y (aN v) (.v (.int .u64 13))=aa (aN (v<<<13)):=λt x y=>rn (n:=13) aO;have c3:∀(t:aH) (x y:bH),cQ aj .shr t x y (aN v) (.v (.int .u64 (IntKind.u64.wrap (32 - 13))))=aa (aN (v>>>19)):=λt x y=>sw (n:=19) aO;have c4:=w9 v 19 aO;refine cN rfl xL rfl ?_;exact wB @xe @uc @o7
def amF(v:eF)(h:ao):W.call 221 [aN v,.v (.int .i64 (-22))] h=aa (.ret (aN (NT.dD v 22)),h):=by
 have c1:∀(t:aH) (x y:bH),cQ aj .and t x y (.v (.int .u64 (IntKind.u64.wrap (-22)))) (.v (.int .u64 31))=aa (.v (.int .u64 10)):=λt x y=>by rw[sQ];rfl
 have c2:∀(t:aH) (x y:bH),cQ aj .shl t x y (aN v) (.v (.int .u64 10))=aa (aN (v<<<10)):=λt x y=>rn (n:=10) aO;have c3:∀(t:aH) (x y:bH),cQ aj .shr t x y (aN v) (.v (.int .u64 (IntKind.u64.wrap (32 - 10))))=aa (aN (v>>>22)):=λt x y=>sw (n:=22) aO;have c4:=w9 v 22 aO;refine cN rfl xL rfl ?_;exact wB @xe @uc @o7
def amG(v:eF)(h:ao):W.call 221 [aN v,.v (.int .i64 (-25))] h=aa (.ret (aN (NT.dD v 25)),h):=by
 have c1:∀(t:aH) (x y:bH),cQ aj .and t x y (.v (.int .u64 (IntKind.u64.wrap (-25)))) (.v (.int .u64 31))=aa (.v (.int .u64 7)):=λt x y=>by rw[sQ];rfl
 have c2:∀(t:aH) (x y:bH),cQ aj .shl t x y (aN v) (.v (.int .u64 7))=aa (aN (v<<<7)):=λt x y=>rn (n:=7) aO;have c3:∀(t:aH) (x y:bH),cQ aj .shr t x y (aN v) (.v (.int .u64 (IntKind.u64.wrap (32 - 7))))=aa (aN (v>>>25)):=λt x y=>sw (n:=25) aO;have c4:=w9 v 25 aO;refine cN rfl xL rfl ?_;exact wB @xe @uc @o7
def amK(v:eF)(h:ao):W.call 222 [aN v,.v (.int .i64 6),.v (.int .i64 11),.v (.int .i64 25)] h=aa (.ret (aN (NT.dD v 6^^^NT.dD v 11^^^NT.dD v 25)),h):=by
 have w1:IntKind.i64.wrap (0 - 6)= -6:=by decide
 have w2:IntKind.i64.wrap (0 - 11)= -11:=by decide
 have w3:IntKind.i64.wrap (0 - 25)= -25:=by decide
 have c1:=amH v;have c2:=amz v;have c3:=amG v;refine cN rfl abe rfl ?_;exact Ug @Yb @oH
def amJ(v:eF)(h:ao):W.call 222 [aN v,.v (.int .i64 2),.v (.int .i64 13),.v (.int .i64 22)] h=aa (.ret (aN (NT.dD v 2^^^NT.dD v 13^^^NT.dD v 22)),h):=by
 have w1:IntKind.i64.wrap (0 - 2)= -2:=by decide
 have w2:IntKind.i64.wrap (0 - 13)= -13:=by decide
 have w3:IntKind.i64.wrap (0 - 22)= -22:=by decide
 have c1:=amE v;have c2:=amA v;have c3:=amF v;refine cN rfl abe rfl ?_;exact Ug @Yb @oH
def ri:Tryz.f204.results.toList=[]:=aw
def Fj:fY aj 42=aa ay:=aw
def xq:dm aj 42=aa 1:=aw
def Iz:fY aj 230=aa ai:=aw
def EC:dm aj 230=aa 8:=aw
def KZ:(gy aj 242).bind AV.bU=aa (bm 64 (aN 0#32)):=aw
def Zu:(gy aj 230).bind AV.bU=aa (bm 8 (aN 0#32)):=aw
abbrev bQ(l:List eF):List AV:=l.map aN
def qV{b n}{k}(hn:n<64):dx aj 242 (.ptr (.box b) 0) (.v (.int k (n:Nat)))=aa (.ptr (.box b) n):=by have hu:=abj;unfold dx;rw[hu];simp only[xq];rw[aD ⟨ah,by omega⟩];simp
def ah0{g n}{k}(hn:n<64):dx aj 242 (.ptr (.eG g) 0) (.v (.int k (n:Nat)))=aa (.ptr (.eG g) n):=by have hu:=abj;unfold dx;rw[hu];simp only[xq];rw[aD ⟨ah,by omega⟩];simp
def yv{b n}{k}(hn:n<8):dx aj 230 (.ptr (.box b) 0) (.v (.int k (n:Nat)))=aa (.ptr (.box b) n):=by have hu:=abi;unfold dx;rw[hu];simp only[xq];rw[aD ⟨ah,by omega⟩];simp
def qW{H}{b n}{l}(hb:H.boxes[b]?=aa (bQ l))(hn:n<l.length):aF aj Gt H 42 (.ptr (.box b) n)=aa (aN (cU l n)):=by rw[ma Fj hb,Il,cU,eQ,eR,a9 hn];rfl
def HC{H}{b n}{l}{x:eF}(hb:H.boxes[b]?=aa (bQ l))(hn:n<l.length):b8 aj H 42 (.ptr (.box b) n) (aN x)=aa (H.put b (bQ (l.set n x))):=by
 have h1:n+1<=(bQ l).length:=by rw[bJ];omega
 rw[fw (xs:=[aN x]) rfl xq hb rfl h1];congr 2;unfold eK bQ;rw[AO,aD hn];simp
def ah9{H}{t}(ht:t<64):aF aj Gt H 42 (.ptr (.eG 1) t)=aa (aN (yw t)):=by
 have hl:t<D2.length:=ht;unfold aF;rw[Fj];show((GO.drop t).head?)=_;rw[Il];unfold GO yw;rw[eR,eQ,a9 hl];show aa _=aa (aN (BitVec.ofNat 32 D2[t]));unfold aN;rw[BitVec.toNat_ofNat];have:∀x∈D2,x<2^32:=by decide
 rw[nF (this _ (iS hl))]
def Ew(b):∀n,(gV b n).length=n
 |0=>rfl|n+1=>by rw[gV,du,Ew b n];rfl
def wl(b:List UInt8)(i:Nat):List eF:=gV b i++bm (64 - i) 0#32
def uJ{b}{i}(hi:i<=64):(wl b i).length=64:=by unfold wl;rw[du,Ew,qC];omega
def Zr{b}{i k}(hk:k<i):cU (wl b i) k=cU (gV b i) k:=by unfold wl cU;rw[eQ,ru (by rw[Ew];exact hk),eQ]
def KX{b}{i}{x}(hi:i<64)(hx:x=if i<16 then pP b (4 * i) else D8 (gV b i) i):(wl b i).set i x=wl b (i+1):=by subst hx;unfold wl;have h1:=Ew b i;obtain⟨k,hk⟩:∃k,64 - i=k+1:=⟨63 - i,by omega⟩;rw[Lv _ _ ah,h1,yX,hk,CP,Ro,(ah:64 - (i+1)=k),gV,tV];rfl
def Zs(b):bQ (wl b 0)=bm 64 (aN 0#32):=by show List.map aN ([]++bm 64 0#32)=_;rw[jZ,Ip]
def QW(b):wl b 64=gV b 64:=by unfold wl;simp
def aqU(b)(k):pP (b.drop k) 0=pP b k:=by unfold pP dp;simp only[eQ,pR,AQ,nZ]
def amL(w v)(t)(a b c d e f g i)(hv:v=[a,b,c,d,e,f,g,i]):He w v t=
 [i+(NT.dD e 6^^^NT.dD e 11^^^NT.dD e 25)+(g^^^(e&&&(f^^^g)))+yw t+cU w t+((NT.dD a 2^^^NT.dD a 13^^^NT.dD a 22)+((a&&&b)|||(c&&&(a|||b)))),
  a,b,c,d+(i+(NT.dD e 6^^^NT.dD e 11^^^NT.dD e 25)+(g^^^(e&&&(f^^^g)))+yw t+cU w t),e,f,g]:=by
 subst hv;rw[adP,aiH];rfl
def eight{l:List eF}(h:l.length=8):∃a b c d e f g i,l=[a,b,c,d,e,f,g,i]:=by
 match l,h with
 | [a,b,c,d,e,f,g,i],_=>exact⟨a,b,c,d,e,f,g,i,rfl⟩
def vF(s:List eF)(b:List UInt8)(t:Nat):List eF:=(bL t).foldl (He (gV b 64)) s
def QT(s)(b)(t):vF s b (t+1)=He (gV b 64) (vF s b t) t:=by unfold vF;rw[oN,oL];rfl
def QS{s}(b)(hs:s.length=8):∀t,(vF s b t).length=8
 |0=>hs
 |t+1=>by rw[QT];rfl
def yK(s v:List eF)(i:Nat):List eF:=EY (·+·) (s.take i) (v.take i)++s.drop i
def ars{s v}(hs:s.length=8)(hv:v.length=8){i}(hi:i<=8):(yK s v i).length=8:=by unfold yK;simp;omega
def arq{s v}(hs:s.length=8)(hv:v.length=8){i}(hi:i<8):cU (yK s v i) i=cU s i:=by unfold yK cU;rw[eQ,ET (by simp;omega),pR,eQ];congr 2;simp;omega
def art{s v}(hs:s.length=8)(hv:v.length=8){i}(hi:i<8):(yK s v i).set i (cU s i+cU v i)=yK s v (i+1):=by
 obtain⟨a,b,c,d,e,f,g,j,rfl⟩:=eight hs;obtain⟨a',b',c',d',e',f',g',j',rfl⟩:=eight hv;have:i=0∨i=1∨i=2∨i=3∨i=4∨i=5∨i=6∨i=7:=by omega
 rcases this with rfl|rfl|rfl|rfl|rfl|rfl|rfl|rfl<;>rfl
def arp{s b}(hs:s.length=8)(hv:b.length=8):yK s b 8=EY (·+·) s b:=by unfold yK;rw[fK ah,fK ah,sK ah,jv]
end Go.Proofs.YtnfciiiohoafaaaGreatDoor
end
section
namespace Go.AE
section
variable {b n0:Nat} {h h':ao}
def fF.fI(m:fF b n0 h h'){c:Nat}(hc:h.boxes.length<=c)(cs:List AV):fF b n0 h (h'.put c cs):=by refine⟨λd ds hd hb=>?_,by rw[mc];exact m.len,m.loop,m.tn,m.dead,m.ok⟩;have az:d<h.boxes.length:=(aQ.1 hb).1;rw[cP ah];exact m.box d ds hd hb
def fF.push(m:fF b n0 h h')(cs:List AV):fF b n0 h (h'.push cs):=
 ⟨λd ds hd hb=>aZ (m.box d ds hd hb),by rw[cH];exact Nat.le_succ_of_le m.len,m.loop,m.tn,m.dead,m.ok⟩
end
def fF.tO{b n0 n1}{h h'}(m:fF b n1 h h')(hn:n0<=n1):fF b n0 h h':=⟨m.box,m.len,m.loop,m.tn,λk hk hd=>m.dead k (mD hk hn) hd,m.ok⟩
def dQ.mut{b n0 n1}{h h'}{k}(hk:dQ n0 h k)(m:fF b n1 h h')(hn:h.tn<=n1):dQ n0 h' k:=by
 rcases hk with q|q|⟨z,q,q2,q3⟩
 ·exact .inl q
 ·exact .inr (.inl q)
 ·refine .inr (.inr ⟨z,q,q2,?_⟩);unfold alive at q3 ⊢;simp only[bA,decide_eq_true_eq,yP,List.contains_eq_mem,decide_eq_false_iff_not] at q3 ⊢;exact⟨mD q3.1 m.tn,λhd=>q3.2 (m.dead z (mD q3.1 hn) hd)⟩
end Go.AE
end
section
namespace Go.Proofs.YtnfciiiohoafaaaGreatDoor
open Go.AE Go.NT
def xl{t}{x y}{u}:cQ aj .shr t x y (aN u) (.v (.int .u64 3))=aa (aN (u>>>3)):=sw (n:=3) aO
def xk{t}{x y}{u}:cQ aj .shr t x y (aN u) (.v (.int .u64 10))=aa (aN (u>>>10)):=sw (n:=10) aO
def IK{s}(hs:s.length=8):(AV.agg (bQ s)).bU=aa (bQ s):=by obtain⟨a,b,c,d,e,f,g,j,rfl⟩:=eight hs;rfl
def QU(n):bQ (bm n 0#32)=bm n (aN 0#32):=by simp[bQ]
def qL{R}{c}{e}{h}{I}{m}{Q0}(hq:∀Q,bM R c e h (Cg I m Q)):bM R c e h (Cg I m Q0):=hq Q0
def Kc{h:ao}{b}{xs ys}:(h.put b xs).put b ys=h.put b ys:=by unfold ao.put;simp only[CQ]
def Wj{H:ao}{b k}{cs}(hb:b<H.boxes.length):aF aj Gt (H.put b cs) 42 (.ptr (.box b) k)=(cs.drop k).head?:=ma Fj (ey hb)
def YW{H:ao}{b k}{cs}{x:eF}(hb:b<H.boxes.length)(hk:k+1<=cs.length):b8 aj (H.put b cs) 42 (.ptr (.box b) k) (aN x)=aa (H.put b (cs.set k (aN x))):=by rw[fw (xs:=[aN x]) rfl xq (ey hb) rfl hk,Kc];congr 2;unfold eK;rw[AO,aD (show k<cs.length from hk)];simp
def aoP{b}:ie aj 230 (.ptr (.box b) 0) (aa (.v (.int .i64 1))) au au=aa (.arr b 1 7 7):=aw
def aoQ{b}:ie aj 230 (.ptr (.box b) 0) au (aa (.v (.int .i64 7))) au=aa (.arr b 0 7 8):=aw
def ael{H}{b}{a0 a1 a2 a3 a4 a5 a6 a7}(hb:H.boxes[b]?=aa [a0,a1,a2,a3,a4,a5,a6,a7]):zr aj H #[43,43] (.arr b 1 7 7) (.arr b 0 7 8)=aa (.v (.int .i64 7),H.put b [a0,a0,a1,a2,a3,a4,a5,a6]):=by
 have hn:mw H 1 (.arr b 0 7 8)=aa [[a0],[a1],[a2],[a3],[a4],[a5],[a6]]:=by show rowsOf H 1 (.arr b 0 7 8)=_;unfold rowsOf;simp only[hb];rfl
 have hi:∃i,aj.info? 42=aa i/\i.size=1:=by
  have u6:=xq;unfold dm at u6;cases hq:aj.info? 42 with
  |none=>rw[hq] at u6;cases u6
  |some i=>rw[hq] at u6;exact⟨i,rfl,by simpa using u6⟩
 obtain⟨i,h1,h2⟩:=hi;have hu:((#[43,43]:Array Nat)[0]?).bind aj.underlying=aa (.slice 42):=aw;unfold zr;rw[hu];simp only[h1,h2,hn,hb];rfl
def LV(s:List eF)(b:List UInt8)(sb:Nat)(x:AV)(h:ao)(hs:s.length=8)(hb:64<=b.length)(jT:h.boxes[sb]?=aa (bQ s))
 (hx:∀H,fF sb h.tn h H->dO 1 H x (aX b)):
 ∃h',W.call 204 [.ptr (.box sb) 0,x] h=aa (.ret (.tuple []),h')/\h'.boxes[sb]?=aa (bQ (wh s b))/\fF sb h.tn h h':=by
 have kX:=aq.mk hx;clear hx;have ar8:=(aQ.1 jT).1;have kz:=aq.mk (Zs b);have z242:=KZ;refine ij rfl Tryz.func204 rfl ?_
 repeat' (first|simp(maxSteps:=999999)(disch:=first|exact dZ|fail)only[gW,reduceIte,aY,aR,ri,cH, *]|refine dX ?_ ?_<;>(intro _;try omega))
 refine de (λm e H=>∃i:Nat,i<=16/\m=16 - i/\e.get 0=.ptr (.box sb) 0/\e.get 1=x/\e.get 4=.ptr (.box h.boxes.length) 0/\e.get 14=.v (.int .i64 i)/\e.defers=[]/\H.boxes[h.boxes.length]?=aa (bQ (wl b i))/\H.boxes[sb]?=aa (bQ s)/\fF sb h.tn h H) ?_ 16 _ _ ?_;rotate_left 1
 ·refine⟨0,df _,rfl,?_,?_,?_,?_,?_,?_,aZ jT,(fF.refl _ _ _).push _⟩
  iterate 5 (first|assumption|(exact gR))
  rw[kz.out];exact bp _ _
 clear z242 kz;rintro m e H ⟨i,hi,rfl,g0,g1,g4,g14,hd,hw,mr,hM⟩;have kM:=aq.mk hM;have vd:=hM.len;clear hM;by_cases hc:i=16;rotate_left 1
 ·refine qL λQ=>?_;have az:i<16:=by omega
  have rY:=kX.out H kM.out;obtain⟨y,y1,y2⟩:=rY.slice (t:=28) (lo:=aa (.v (.int .i64 ((4 * i:Nat):Int)))) (hi:=au) (l:=4 * i) (m:=b.length) aO jb sH (.inl ⟨rfl,by rw[bJ]⟩) (.inr ⟨.i64,rfl⟩) ah;have y3:dO 1 H y (aX (b.drop (4 * i))):=by have e:(Lw b.length (aX b)).drop (4 * i)=aX (b.drop (4 * i)):=(by rw[fK (by rw[bJ];exact aJ _),<-aaw]);rw[<-e];exact y2
  have cw:=aqW _ y H y3 (by rw[gE];omega);rw[aqU] at cw;have e4:IntKind.i64.wrap (4 * ((i:Nat):Int))=((4 * i:Nat):Int):=by rw[fh ah ah];omega
  have st:=λz=>HC (x:=z) hw (n:=i) (by rw[uJ ah];omega);have cd:=λz hz=>KX (b:=b) (i:=i) (x:=z) ah hz;have DT:=cd (pP b (4 * i)) (by rw[aD az]);have kst:=aq.mk DT;have ji:=(aQ.1 hw).1;have ks:=aq.mk mr;clear cd DT rY y2 y3 hw mr jT;have ix:=qV (b:=h.boxes.length) (n:=i) (k:=.i64) ah
  repeat' (first|simp(maxSteps:=999999)(disch:=first|exact dZ|fail)only[gW,reduceIte,aY,aR,ri, *]|refine dX ?_ ?_<;>(intro _;try omega))
  refine⟨16 - (i+1),by omega,i+1,by omega,rfl,aT,aT,aT,rfl,aT,?_,?_,kM.out.fI (aJ _) _⟩
  ·rw[kst.out];exact ey ji
  ·rw[cP ah];exact ks.out
 subst hc;have kw:=aq.mk hw;have ks:=aq.mk mr;clear hw mr jT
 repeat' (first|simp(maxSteps:=999999)(disch:=first|exact dZ|fail)only[gW,reduceIte,aY,aR,ri, *]|refine dX ?_ ?_<;>(intro _;try omega))
 refine de (λm e H=>∃i:Nat,16<=i/\i<=64/\m=64 - i/\e.get 0=.ptr (.box sb) 0/\e.get 4=.ptr (.box h.boxes.length) 0/\e.get 6=.v (.int .i64 i)/\e.defers=[]/\H.boxes[h.boxes.length]?=aa (bQ (wl b i))/\H.boxes[sb]?=aa (bQ s)/\fF sb h.tn h H) ?_ 48 _ _ ?_;rotate_left 1
 ·refine⟨16,by decide,by decide,rfl,?_,?_,?_,?_,kw.out,ks.out,kM.out⟩<;>(first|assumption|(exact gR))
 clear kw ks kM g0 g1 g4 g14 hd vd hi;rintro m e H ⟨i,NK,hi,rfl,g0,g4,g6,hd,hw,mr,hM⟩;have kM:=aq.mk hM;have vd:=hM.len;clear hM;by_cases hc:i=64;rotate_left 1
 ·refine qL λQ=>?_;have l0:=qW hw (n:=i - 16) (by rw[uJ hi];omega);have l1:=qW hw (n:=i - 15) (by rw[uJ hi];omega);have l2:=qW hw (n:=i - 7) (by rw[uJ hi];omega);have l3:=qW hw (n:=i - 2) (by rw[uJ hi];omega);rw[Zr ah] at l0 l1 l2 l3;have i0:=qV (b:=h.boxes.length) (n:=i - 16) (k:=.i64) ah;have i1:=qV (b:=h.boxes.length) (n:=i - 15) (k:=.i64) ah;have i2:=qV (b:=h.boxes.length) (n:=i - 7) (k:=.i64) ah;have i3:=qV (b:=h.boxes.length) (n:=i - 2) (k:=.i64) ah;have i4:=qV (b:=h.boxes.length) (n:=i) (k:=.i64) ah;have e0:IntKind.i64.wrap (((i:Nat):Int) - 16)=((i - 16:Nat):Int):=by rw[fh ah ah];omega
  have e1:IntKind.i64.wrap (((i:Nat):Int) - 15)=((i - 15:Nat):Int):=by rw[fh ah ah];omega
  have e2:IntKind.i64.wrap (((i:Nat):Int) - 7)=((i - 7:Nat):Int):=by rw[fh ah ah];omega
  have e3:IntKind.i64.wrap (((i:Nat):Int) - 2)=((i - 2:Nat):Int):=by rw[fh ah ah];omega
  have st:=λz=>HC (x:=z) hw (n:=i) (by rw[uJ hi];omega);have DT:=KX (b:=b) (i:=i) (x:=D8 (gV b i) i) ah (by rw[aG ah]);unfold D8 at DT;have kst:=aq.mk DT;have r7:=λH=>amI (cU (gV b i) (i - 15)) H;have r18:=λH=>amC (cU (gV b i) (i - 15)) H;have r17:=λH=>amB (cU (gV b i) (i - 2)) H;have r19:=λH=>amD (cU (gV b i) (i - 2)) H;have kw:=aq.mk hw;have ks:=aq.mk mr;clear DT hw mr
  repeat' (first|simp(maxSteps:=999999)(disch:=first|exact dZ|fail)only[gW,reduceIte,aY,aR,ri,oH,oc,xl,xk, *]|refine dX ?_ ?_<;>(intro _;try omega))
  refine uF aw ?_
  repeat' (first|simp(maxSteps:=999999)(disch:=first|exact dZ|fail)only[gW,reduceIte,aY,aR,ri,oH,oc,xl,xk, *]|refine dX ?_ ?_<;>(intro _;try omega))
  refine Ql [6,8,20,22] [] aw ?_ (λp hp=>nomatch hp) ?_
  ·intro k hk;simp only[jm,List.not_mem_nil,or_false] at hk;rcases hk with rfl|rfl|rfl|rfl
   ·refine Da (x:=aN (NT.dD (cU (gV b i) (i - 15)) 7)) rfl rfl ?_ ?_
    ·simp only[iK,gm]
     repeat' (first|simp(maxSteps:=999999)(disch:=first|exact dZ|fail)only[gW,reduceIte,aY,aR, *]|refine dX ?_ ?_<;>(intro _;try omega))
     exact⟨by trivial,λ_=>by trivial⟩
    ·repeat' (first|simp(maxSteps:=999999)(disch:=first|exact dZ|fail)only[gW,reduceIte,aY,aR,oH,oc,xl,xk, *]|refine dX ?_ ?_<;>(intro _;try omega))
   ·refine Da (x:=aN (NT.dD (cU (gV b i) (i - 15)) 18)) rfl rfl ?_ ?_
    ·simp only[iK,gm]
     repeat' (first|simp(maxSteps:=999999)(disch:=first|exact dZ|fail)only[gW,reduceIte,aY,aR, *]|refine dX ?_ ?_<;>(intro _;try omega))
     exact⟨by trivial,λ_=>by trivial⟩
    ·repeat' (first|simp(maxSteps:=999999)(disch:=first|exact dZ|fail)only[gW,reduceIte,aY,aR,oH,oc,xl,xk, *]|refine dX ?_ ?_<;>(intro _;try omega))
   ·refine Da (x:=aN (NT.dD (cU (gV b i) (i - 2)) 17)) rfl rfl ?_ ?_
    ·simp only[iK,gm]
     repeat' (first|simp(maxSteps:=999999)(disch:=first|exact dZ|fail)only[gW,reduceIte,aY,aR,oH,oc,xl,xk, *]|refine dX ?_ ?_<;>(intro _;try omega))
     exact⟨by trivial,λ_=>by trivial⟩
    ·repeat' (first|simp(maxSteps:=999999)(disch:=first|exact dZ|fail)only[gW,reduceIte,aY,aR,oH,oc,xl,xk, *]|refine dX ?_ ?_<;>(intro _;try omega))
   ·refine Da (x:=aN (NT.dD (cU (gV b i) (i - 2)) 19)) rfl rfl ?_ ?_
    ·simp only[iK,gm]
     repeat' (first|simp(maxSteps:=999999)(disch:=first|exact dZ|fail)only[gW,reduceIte,aY,aR,oH,oc,xl,xk, *]|refine dX ?_ ?_<;>(intro _;try omega))
     exact⟨by trivial,λ_=>by trivial⟩
    ·repeat' (first|simp(maxSteps:=999999)(disch:=first|exact dZ|fail)only[gW,reduceIte,aY,aR,oH,oc,xl,xk, *]|refine dX ?_ ?_<;>(intro _;try omega))
  repeat' (first|simp(maxSteps:=999999)(disch:=first|exact dZ|fail)only[gW,reduceIte,aY,aR,ri,oH,oc,xl,xk, *]|refine dX ?_ ?_<;>(intro _;try omega))
  refine⟨64 - (i+1),by omega,i+1,by omega,by omega,rfl,aT,aT,rfl,aT,?_,?_,kM.out.fI (aJ _) _⟩
  ·rw[kst.out];exact ey (aQ.1 kw.out).1
  ·rw[cP ah];exact ks.out
 subst hc;rw[QW] at hw;have a230:=Iz;have s230:=EC;have lds:aF aj Gt H 230 (.ptr (.box sb) 0)=aa (.agg (bQ s)):=by
  have h8:(bQ s).length=8:=by rw[bJ];exact hs
  rw[jj Iz EC mr (by rw[h8];exact aJ _),iB,fK (by rw[h8];exact aJ _)]
 have cs8:(AV.agg (bQ s)).bU=aa (bQ s):=IK hs;have zz:(gy aj 230).bind AV.bU=aa (bQ (bm 8 0#32)):=by rw[QU];exact Zu
 have spz:∀H:ao,b8 aj (H.push (bQ (bm 8 0#32))) 230 (.ptr (.box H.boxes.length) 0) (.agg (bQ s))=aa (H.push (bQ s)):=λH=>jt (IK hs) EC (by rw[bJ];exact hs) (by rw[bJ];rfl);have ji:=(aQ.1 hw).1;have kw:=aq.mk hw;have ks:=aq.mk mr;clear hw mr;have hM:=kM.out
 repeat' (first|simp(maxSteps:=999999)(disch:=first|exact dZ|fail)only[gW,reduceIte,aY,aR,ri, *]|refine dX ?_ ?_<;>(intro _;try omega))
 refine de (λm e H2=>∃i:Nat,i<=64/\m=64 - i/\e.get 0=.ptr (.box sb) 0/\e.get 4=.ptr (.box h.boxes.length) 0/\e.get 9=.ptr (.box H.boxes.length) 0/\e.get 69=.v (.int .i64 i)/\e.defers=[]/\H2.boxes[h.boxes.length]?=aa (bQ (gV b 64))/\H2.boxes[sb]?=aa (bQ s)/\H2.boxes[H.boxes.length]?=aa (bQ (vF s b i))/\fF sb h.tn h H2) ?_ 64 _ _ ?_;rotate_left 1
 ·refine⟨0,by decide,rfl,?_,?_,?_,?_,?_,aZ kw.out,aZ ks.out,bp _ _,kM.out.push _⟩<;>(first|assumption|(exact gR))
 clear kw ks kM g0 g4 g6 hd lds cs8 zz spz hi NK hM;have hHL:h.boxes.length<H.boxes.length:=ji;generalize hvb:H.boxes.length=vb at *
 clear hvb ji vd;rintro m e H ⟨i,hi,rfl,g0,g4,g9,g69,hd,hw,mr,hv,hM⟩;have kM:=aq.mk hM;have vd:=hM.len;clear hM;by_cases hc:i=64;rotate_left 1
 ·refine qL λQ=>?_;have az:i<64:=by omega
  have lw:=qW hw (n:=i) (by rw[Ew];exact az);have lk:=λH=>ah9 (H:=H) az;have iw:=qV (b:=h.boxes.length) (n:=i) (k:=.i64) az;have ik:=ah0 (g:=1) (n:=i) (k:=.i64) az;have kR:=aq.mk (QT s b i);obtain⟨v0,v1,v2,v3,v4,v5,v6,v7,Ae⟩:=eight (QS b hs i);have kE:=aq.mk (amL (gV b 64) _ i _ _ _ _ _ _ _ _ Ae);rw[Ae] at hv;have r1:=λH=>amK v4 H;have r2:=λH=>amJ v0 H;have qi:H.boxes[vb]?=aa [aN v0,aN v1,aN v2,aN v3,aN v4,aN v5,aN v6,aN v7]:=hv;have kw:=aq.mk hw;have ks:=aq.mk mr;clear hw mr hv Ae;have j0:dx aj 230 (.ptr (.box vb) 0) (.v (.int .i64 0))=aa (.ptr (.box vb) 0):=yv (n:=0) aO;have j1:dx aj 230 (.ptr (.box vb) 0) (.v (.int .i64 1))=aa (.ptr (.box vb) 1):=yv (n:=1) aO;have j2:dx aj 230 (.ptr (.box vb) 0) (.v (.int .i64 2))=aa (.ptr (.box vb) 2):=yv (n:=2) aO;have j4:dx aj 230 (.ptr (.box vb) 0) (.v (.int .i64 4))=aa (.ptr (.box vb) 4):=yv (n:=4) aO;have j5:dx aj 230 (.ptr (.box vb) 0) (.v (.int .i64 5))=aa (.ptr (.box vb) 5):=yv (n:=5) aO;have j6:dx aj 230 (.ptr (.box vb) 0) (.v (.int .i64 6))=aa (.ptr (.box vb) 6):=yv (n:=6) aO;have j7:dx aj 230 (.ptr (.box vb) 0) (.v (.int .i64 7))=aa (.ptr (.box vb) 7):=yv (n:=7) aO;have pH:=(aQ.1 qi).1;have a42:=Fj;have s42:=xq;have cp:=ael qi;have sla:=aoP (b:=vb);have slb:=aoQ (b:=vb)
  repeat' (first|simp(maxSteps:=999999)(disch:=first|exact dZ|fail)only[gW,reduceIte,aY,aR,ri,oH,oc,C5,o7,yV,iB,AK, *]|refine dX ?_ ?_<;>(intro _;try omega))
  refine Ql [4] [] aw ?_ (λp hp=>nomatch hp) ?_
  ·intro k hk;simp only[ph] at hk;subst hk;refine Da (x:=aN (NT.dD v4 6^^^NT.dD v4 11^^^NT.dD v4 25)) rfl rfl ?_ ?_
   ·simp only[iK,gm]
    repeat' (first|simp(maxSteps:=999999)(disch:=first|exact dZ|fail)only[gW,reduceIte,aY,aR,yV,iB,AK, *]|refine dX ?_ ?_<;>(intro _;try omega))
    exact⟨by trivial,λ_=>by trivial⟩
   ·repeat' (first|simp(maxSteps:=999999)(disch:=first|exact dZ|fail)only[gW,reduceIte,aY,aR,oH,oc,C5,o7,yV,iB,AK, *]|refine dX ?_ ?_<;>(intro _;try omega))
  repeat' (first|simp(maxSteps:=999999)(disch:=first|exact dZ|fail)only[gW,reduceIte,aY,aR,ri,oH,oc,C5,o7,yV,iB,AK, *]|refine dX ?_ ?_<;>(intro _;try omega))
  refine Ql [2] [] aw ?_ (λp hp=>nomatch hp) ?_
  ·intro k hk;simp only[ph] at hk;subst hk;refine Da (x:=aN (NT.dD v0 2^^^NT.dD v0 13^^^NT.dD v0 22)) rfl rfl ?_ ?_
   ·simp only[iK,gm]
    repeat' (first|simp(maxSteps:=999999)(disch:=first|exact dZ|fail)only[gW,reduceIte,aY,aR,yV,iB,AK, *]|refine dX ?_ ?_<;>(intro _;try omega))
    exact⟨by trivial,λ_=>by trivial⟩
   ·repeat' (first|simp(maxSteps:=999999)(disch:=first|exact dZ|fail)only[gW,reduceIte,aY,aR,oH,oc,C5,o7,yV,iB,AK, *]|refine dX ?_ ?_<;>(intro _;try omega))
  repeat' (first|simp(maxSteps:=999999)(disch:=first|exact dZ|fail)only[gW,reduceIte,aY,aR,ri,oH,oc,C5,o7,yV,iB,AK, *]|refine dX ?_ ?_<;>(intro _;try omega))
  refine uF aw ?_;clear qi
  repeat' (first|simp(maxSteps:=999999)(disch:=first|exact dZ|fail)only[gW,reduceIte,aY,aR,ri,Wj,YW,Kc,oc,yV,iB,AK,Ro,List.set_cons_succ, *]|refine dX ?_ ?_<;>(intro _;try omega))
  refine⟨64 - (i+1),by omega,i+1,by omega,rfl,aT,aT,aT,rfl,aT,?_,?_,?_,kM.out.fI ah _⟩
  ·rw[cP ah];exact kw.out
  ·rw[cP ah];exact ks.out
  ·rw[ey pH,kR.out,kE.out];rfl
 subst hc;have UM:wh s b=EY (·+·) s (vF s b 64):=rfl;rw[UM];have h8:=QS b hs 64;generalize vF s b 64=v at *
 have pH:=(aQ.1 hv).1;have ks:=aq.mk mr;have kv:=aq.mk hv;clear hw mr hv UM
 repeat' (first|simp(maxSteps:=999999)(disch:=first|exact dZ|fail)only[gW,reduceIte,aY,aR,ri, *]|refine dX ?_ ?_<;>(intro _;try omega))
 refine de (λm e H2=>∃i:Nat,i<=8/\m=8 - i/\e.get 0=.ptr (.box sb) 0/\e.get 9=.ptr (.box vb) 0/\e.get 129=.v (.int .i64 i)/\e.defers=[]/\H2.boxes[sb]?=aa (bQ (yK s v i))/\H2.boxes[vb]?=aa (bQ v)/\fF sb h.tn h H2) ?_ 8 _ _ ?_;rotate_left 1
 ·refine⟨0,by decide,rfl,?_,?_,?_,?_,ks.out,kv.out,kM.out⟩<;>(first|assumption|(exact gR))
 clear ks kv kM g0 g4 g9 g69 hd vd hi;rintro m e H ⟨i,hi,rfl,g0,g9,g129,hd,mr,hv,hM⟩;have kM:=aq.mk hM;clear hM;by_cases hc:i=8;rotate_left 1
 ·refine qL λQ=>?_;have az:i<8:=by omega
  have hz:=ars hs h8 hi;have l1:=qW mr (n:=i) ah;have l2:=qW hv (n:=i) ah;rw[arq hs h8 az] at l1;have j1:=yv (b:=sb) (n:=i) (k:=.i64) az;have j2:=yv (b:=vb) (n:=i) (k:=.i64) az;have st:=HC (x:=cU s i+cU v i) mr (n:=i) ah;rw[art hs h8 az] at st;have mO:=(aQ.1 mr).1;have kv:=aq.mk hv;clear mr hv
  repeat' (first|simp(maxSteps:=999999)(disch:=first|exact dZ|fail)only[gW,reduceIte,aY,aR,ri, *]|refine dX ?_ ?_<;>(intro _;try omega))
  refine uF aw ?_
  repeat' (first|simp(maxSteps:=999999)(disch:=first|exact dZ|fail)only[gW,reduceIte,aY,aR,ri,oc, *]|refine dX ?_ ?_<;>(intro _;try omega))
  refine⟨8 - (i+1),by omega,i+1,by omega,rfl,aT,aT,rfl,aT,ey mO,?_,kM.out.trans (.put _ _ _ _)⟩;rw[cP ah];exact kv.out
 subst hc;rw[arp hs h8] at mr;have ks:=aq.mk mr;clear mr hv
 repeat' (first|simp(maxSteps:=999999)(disch:=first|exact dZ|fail)only[gW,reduceIte,aY,aR,ri, *]|refine dX ?_ ?_<;>(intro _;try omega))
 exact⟨_,rfl,ks.out,kM.out⟩
def P3:Tryz.f205.results.toList=[]:=aw
def aez(n)(h):mY aj h 42 216 (.v (.int .u32 n))=aa (.v (.int .u64 (IntKind.u64.wrap n)),h):=aw
def qG(n)(h):mY aj h 3 216 (.v (.int .i64 n))=aa (.v (.int .u64 (IntKind.u64.wrap n)),h):=aw
def Dc(n)(h):mY aj h 216 5 (.v (.int .u64 n))=aa (.v (.int .u8 (IntKind.u8.wrap n)),h):=aw
def bT(b:UInt8):AV:=.v (.int .u8 b.toNat)
abbrev bP(l:List UInt8):List AV:=l.map bT
def uQ(n k:Nat):List UInt8:=(bL k).map λi=>UInt8.ofNat (n/256^(k - 1 - i))
def Mh(n k):(uQ n k).length=k:=by simp[uQ]
def vH(cs:List AV)(off len n i:Nat):List AV:=cs.take (off+len - i)++bP ((uQ n len).drop (len - i))++cs.drop (off+len)
def akN{cs}{off len n}:vH cs off len n 0=cs:=by unfold vH;rw[Rz,Rz,sK (by rw[Mh];exact aJ _)];show Lw (off+len) cs++[]++_=_;rw[jv,xI]
def akL{cs}{off len n i}(hi:i<=len)(hl:off+len<=cs.length):(vH cs off len n i).length=cs.length:=by unfold vH;simp only[du,fb,bJ,gE,Mh];omega
def akM{cs}{off len n i}(hi:i<len)(hl:off+len<=cs.length):(vH cs off len n i).set (off+(len - 1 - i)) (bT (UInt8.ofNat (n/256^i)))=vH cs off len n (i+1):=by
 unfold vH;have e1:off+len - i=(off+(len - 1 - i))+1:=by omega
 have e2:off+len - (i+1)=off+(len - 1 - i):=by omega
 have az:off+(len - 1 - i)<cs.length:=by omega
 have e3:(uQ n len).drop (len - (i+1))=UInt8.ofNat (n/256^i)::(uQ n len).drop (len - i):=by
  rw[ER (by rw[Mh];omega)];congr 1
  ·unfold uQ;rw[pg,AJ];congr 3;omega
  ·congr 1;omega
 rw[e1,e2,e3,aaI az];generalize he:cs[off+(len - 1 - i)]=z;rw[tV,tV,Lv _ _ (by rw[fb];omega),fb,show off+(len - 1 - i) - min (off+(len - 1 - i)) cs.length=0 by omega];simp
def Cp(cs:List AV)(off len n:Nat):List AV:=cs.take off++bP (uQ n len)++cs.drop (off+len)
def akK{cs}{off len n}:vH cs off len n len=Cp cs off len n:=by unfold vH Cp;rw[yX,iB,Nat.add_sub_cancel]
def V7{b off len aA n}{k}(hn:n<len):dx aj 28 (.arr b off len aA) (.v (.int k (n:Nat)))=aa (.ptr (.box b) (off+n)):=by rw[GF jb sH ah ah,dS,nY]
def KJ{H}{b k}{cs}{v}(hb:H.boxes[b]?=aa cs)(hk:k<cs.length):b8 aj H 5 (.ptr (.box b) k) (bT v)=aa (H.put b (cs.set k (bT v))):=by rw[fw (xs:=[bT v]) rfl sH hb rfl hk];congr 2;unfold eK;rw[AO,aD (show k<cs.length from hk)];simp
def QO(m):AV.v (.int .u8 (IntKind.u8.wrap ((m:Nat):Int)))=bT (UInt8.ofNat m):=by unfold bT;rw[show(UInt8.ofNat m).toNat=m%256 from UInt8.toNat_ofNat'];unfold IntKind.wrap;simp[IntKind.signed,IntKind.bits]
def PJ(b off len aA n:Nat)(cs:List AV)(h:ao)(hl:len<=8)(hn:n<18446744073709551616)(hb:h.boxes[b]?=aa cs)(hc:off+len<=cs.length):
 W.call 205 [.arr b off len aA,.v (.int .u64 (n:Nat))] h=aa (.ret (.tuple []),h.put b (Cp cs off len n)):=by
 have u28:=jb;have Nl:=(aQ.1 hb).1;have k0:=aq.mk (nt hb);clear hb;refine cN rfl Tryz.func205 rfl ?_;refine pW @P3 ?_;refine de (λm e H=>∃i:Nat,i<=len/\m=len - i/\e.get 0=.arr b off len aA/\e.get 1=.v (.int .u64 (n:Nat))/\e.get 6=.v (.int .i64 (len:Nat))/\e.get 7=.v (.int .i64 i)/\e.defers=[]/\H=h.put b (vH cs off len n i)) ?_ len _ _ ?_;rotate_left 1
 ·refine⟨0,df _,rfl,?_,?_,?_,?_,?_,by rw[akN];exact k0.out.symm⟩<;>(first|assumption|(exact gR))
 rintro m e H ⟨i,hi,rfl,g0,g1,g6,g7,hd,rfl⟩;by_cases Bo:i=len
 ·subst Bo;rw[akK];exact kK @P3
 ·refine qL λQ=>?_;have az:i<len:=by omega
  have e1:IntKind.i64.wrap (8 * ((i:Nat):Int))=((8 * i:Nat):Int):=by rw[fh ah ah];omega
  have e2:IntKind.i64.wrap (((len:Nat):Int) - 1)=((len - 1:Nat):Int):=by rw[fh ah ah];omega
  have e3:IntKind.i64.wrap (((len - 1:Nat):Int) - ((i:Nat):Int))=((len - 1 - i:Nat):Int):=by rw[fh ah ah];omega
  have sh:∀(t:aH) (x y:bH),cQ aj .shr t x y (.v (.int .u64 (n:Nat))) (.v (.int .i64 ((8 * i:Nat):Int)))=aa (.v (.int .u64 ((n/256^i:Nat):Int))):=λt x y=>by rw[A0 ah,dS,show IntKind.u64.bits=64 from rfl,CU ah];congr 3;rw[EK _ (by have:(0:Int)<2^(8 * i):=aac aO;omega)];have e8:(2:Int)^(8 * i)=((256^i:Nat):Int):=(by rw[EM];simp);rw[e8];rfl
  have uv:=QO (n/256^i);have ix:=V7 (b:=b) (off:=off) (aA:=aA) (k:=.i64) (ah:len - 1 - i<len);have st:=KJ (H:=h.put b (vH cs off len n i)) (v:=UInt8.ofNat (n/256^i)) (k:=off+(len - 1 - i)) (ey Nl) (by rw[akL ah hc];omega);rw[akM az hc,Kc] at st;refine MY @P3 @Dc ?_;refine⟨len - (i+1),by omega,i+1,by omega,rfl,aT,aT,aT,rfl,aT,rfl⟩
def Fy:∀(i:Nat) (s:List eF) (b:List UInt8),gf (i+1) s b=wh (gf i s b) ((b.drop (64 * i)).take 64)
 |0,s,b=>rfl
 |i+1,s,b=>by rw[gf,Fy i,gf,xD];congr 3;omega
def Sz:∀(i j:Nat) (s:List eF) (b:List UInt8),gf (i+j) s b=gf j (gf i s b) (b.drop (64 * i))
 |0,j,s,b=>by rw[nZ];rfl
 |i+1,j,s,b=>by rw[(ah:i+1+j=(i+j)+1),gf,Sz i j,gf,xD];congr 2;omega
def Mn:∀(i:Nat) (s:List eF) (a b:List UInt8),64 * i<=a.length->gf i s (a++b)=gf i s a
 |0,_,_,_,_=>rfl
 |i+1,s,a,b,h=>by rw[gf,gf,List.take_append_of_le_length ah,aaj ah];exact Mn i _ _ b (by rw[gE];omega)
def ac3{s}{b}(hs:s.length=8):(wh s b).length=8:=by have:=QS b hs 64;unfold vF at this;unfold wh;simp[hs,this]
def uR:∀(i:Nat) (s:List eF) (b:List UInt8),s.length=8->(gf i s b).length=8
 |0,_,_,h=>h
 |i+1,s,b,h=>uR i _ _ (ac3 h)
def oj(r:Nat):Nat:=if r>55 then 128 else 64
def mZ(rest:List UInt8)(n:Nat):List UInt8:=rest++0x80::bm (oj rest.length - 9 - rest.length) 0++oE n
def Tw{rest}{n}(hr:rest.length<64):(mZ rest n).length=oj rest.length:=by
 unfold mZ oj;simp only[du,iJ,qC];have:(oE n).length=8:=by simp[oE]
 rw[this];split<;>omega
def ajJ(b):qp b=b.take (64 * (b.length/64))++mZ (b.drop (64 * (b.length/64))) b.length:=by
 unfold qp mZ;have e:oI b.length=oj (b.drop (64 * (b.length/64))).length - 9 - (b.drop (64 * (b.length/64))).length:=by unfold oI oj;rw[gE];split<;>omega
 rw[e,<-tV,<-tV,xI]
def aoC(b):eJ b=js (gf (oj (b.drop (64 * (b.length/64))).length/64) (gf (b.length/64) NT.start b) (mZ (b.drop (64 * (b.length/64))) b.length)):=by
 unfold eJ;have hr:(b.drop (64 * (b.length/64))).length<64:=by rw[gE];omega
 have bO:(b.take (64 * (b.length/64))).length=64 * (b.length/64):=by rw[fb];omega
 rw[ajJ,du,Tw hr,bO,show(64 * (b.length/64)+oj (b.drop (64 * (b.length/64))).length)/64=b.length/64+oj (b.drop (64 * (b.length/64))).length/64 by rw[Nat.mul_add_div aO]];have h2:gf (b.length/64) NT.start (b.take (64 * (b.length/64)))=gf (b.length/64) NT.start b:=by have:=Mn (b.length/64) NT.start (b.take (64 * (b.length/64))) (b.drop (64 * (b.length/64))) (by rw[bO];exact aJ _);rw[xI] at this;exact this.symm
 have h1:(b.take (64 * (b.length/64))).drop (64 * (b.length/64))=[]:=sK (by rw[bO];exact aJ _);rw[Sz,aaj (by rw[bO];exact aJ _),h1,jZ];rw[Mn _ _ _ _ (by rw[bO];exact aJ _),h2]
def aii(n):uQ (n * 8) 8=oE n:=by unfold uQ oE;apply Io;intro i hi;rw[fD] at hi;congr 2;rw[show(256:Nat)=2^8 from rfl,<-Fe]
def acv(x:eF):uQ x.toNat 4=[UInt8.ofNat (x.toNat/16777216),UInt8.ofNat (x.toNat/65536),UInt8.ofNat (x.toNat/256),UInt8.ofNat x.toNat]:=by show[UInt8.ofNat (x.toNat/256^3),UInt8.ofNat (x.toNat/256^2),UInt8.ofNat (x.toNat/256^1),UInt8.ofNat (x.toNat/256^0)]=_;simp
def ajB{s:List eF}{i}{x}(hi:s[i]?=aa x):js (s.take (i+1))=js (s.take i)++uQ x.toNat 4:=by rw[gx hi,acv];unfold js;rw[List.flatMap_append];simp
def Cn(s):(js s).length=4 * s.length:=by
 unfold js
 induction s with
 |nil=>rfl|cons a s ih=>rw[List.flatMap_cons,du,ih];simp;omega
def lM(l):(bP l).length=l.length:=bJ _
def ae7{rest}{n}(hr:rest.length<64):
 Cp ((bP rest++(bm 128 (bT 0)).drop rest.length).set rest.length (bT 0x80)) (oj rest.length - 8) 8 (n * 8)=bP (mZ rest n)++bm (128 - oj rest.length) (bT 0):=by
 have hL:oj rest.length=64∨oj rest.length=128:=by unfold oj;split<;>omega
 have hL2:rest.length+9<=oj rest.length:=by unfold oj;split<;>omega
 rw[Rh];obtain⟨k,hk⟩:∃k,128 - rest.length=k+1:=⟨127 - rest.length,by omega⟩;rw[hk,CP,Lv _ _ (by rw[lM];exact aJ _),lM,yX,Ro];unfold Cp mZ;rw[aii];generalize oj rest.length=L at *
 have e1:Lw (L - 8) (bP rest++bT 0x80::bm k (bT 0))=bP (rest++0x80::bm (L - 9 - rest.length) 0):=by rw[List.take_append,lM,fK (by rw[lM];omega)];obtain⟨j,hj⟩:∃j,L - 8 - rest.length=j+1:=⟨L - 9 - rest.length,by omega⟩;rw[hj,iK,List.take_replicate,CU ah];unfold bP;rw[oM,ev,Ip,(ah:L - 9 - rest.length=j)]
 have e2:List.drop (L - 8+8) (bP rest++bT 0x80::bm k (bT 0))=bm (128 - L) (bT 0):=by rw[CN,lM,sK (by rw[lM];omega),jZ];obtain⟨j,hj⟩:∃j,L - 8+8 - rest.length=j+1:=⟨L - 1 - rest.length,by omega⟩;rw[hj,yV,Rh];congr 1;omega
 rw[e1,e2];unfold bP;rw[<-oM]
def uC:Tryz.f181.results.toList=[.cell 2 177]:=aw
def C4:fY aj 177=aa ai:=aw
def qu:dm aj 177=aa 32:=aw
def ED:(gy aj 177).bind AV.bU=aa (bm 32 (bT 0)):=aw
def ah7(H):aF aj Gt H 229 (.ptr (.eG 0) 0)=aa (.agg (bQ NT.start)):=aw
def yI(l):(AV.agg (bP l)).bU=aa (bP l):=by
 have:(bP l).all AV.dW=ai:=by rw[eE];intro x hx;obtain⟨b,-,rfl⟩:=jE.1 hx;rfl
 unfold AV.bU;simp[this]
def WC(H):yz aj H 28 (.v (.int .i64 64)) (.v (.int .i64 128))=aa (.arr H.boxes.length 0 64 128,H.push (bm 128 (bT 0))):=aw
def HR(l):(aX l).flatten=bP l:=by rw[Mr];rfl
def aek{H}{eb len aA}{x}{rest}{cs}(s:dO 1 H x (aX rest))(hb:H.boxes[eb]?=aa cs)(h1:len<=cs.length)(h2:len<=aA)(h3:rest.length<=len):
 zr aj H #[28,28] (.arr eb 0 len aA) x=aa (.v (.int .i64 (rest.length:Nat)),H.put eb (bP rest++cs.drop rest.length)):=by
 have hi:∃i,aj.info? 5=aa i/\i.size=1:=by
  have u6:=sH;unfold dm at u6;cases hq:aj.info? 5 with
  |none=>rw[hq] at u6;cases u6
  |some i=>rw[hq] at u6;exact⟨i,rfl,by simpa using u6⟩
 obtain⟨i,q1,q2⟩:=hi;have hu:((#[28,28]:Array Nat)[0]?).bind aj.underlying=aa (.slice 5):=aw;unfold zr;rw[hu];simp only[q1,q2,s.news,hb];rw[aD ⟨ah,h2⟩];have hm:Nat.min (aX rest).length len=rest.length:=by rw[bJ];exact CU h3
 rw[hm,fK (by rw[bJ];exact aJ _),HR];have e:eK cs 0 (bP rest)=bP rest++cs.drop rest.length:=by unfold eK;rw[gm,jZ,nZ,lM]
 rw[e];rfl
def Qu{R:ao->Prop}{H0}{x}{l}(hx:∀H,R H->dO 1 H x (aX l))(h0:R H0)(hl:64<=l.length):
 ∃y z,ie aj 28 x au (aa (.v (.int .i64 64))) au=aa y/\ie aj 28 x (aa (.v (.int .i64 64))) au au=aa z/\
  (∀H,R H->dO 1 H y (aX (l.take 64)))/\∀H,R H->dO 1 H z (aX (l.drop 64)):=by
 have A:∀H,R H->∃y,ie aj 28 x au (aa (.v (.int .i64 64))) au=aa y/\dO 1 H y (aX (l.take 64)):=λH hH=>by obtain⟨y,y1,y2⟩:=(hx H hH).slice (t:=28) (lo:=au) (hi:=aa (.v (.int .i64 64))) (l:=0) (m:=64) aO jb sH (.inr ⟨.i64,rfl,by rw[bJ];exact hl⟩) (.inl ⟨rfl,rfl⟩) aO;rw[iB,<-List.map_take] at y2;exact⟨y,y1,y2⟩
 have B:∀H,R H->∃y,ie aj 28 x (aa (.v (.int .i64 64))) au au=aa y/\dO 1 H y (aX (l.drop 64)):=λH hH=>by obtain⟨y,y1,y2⟩:=(hx H hH).slice (t:=28) (lo:=aa (.v (.int .i64 64))) (hi:=au) (l:=64) (m:=l.length) aO jb sH (.inl ⟨rfl,by rw[bJ]⟩) (.inr ⟨.i64,rfl⟩) hl;rw[fK (by rw[bJ];exact aJ _),<-aaw] at y2;exact⟨y,y1,y2⟩
 obtain⟨y,y1,-⟩:=A H0 h0;obtain⟨z,z1,-⟩:=B H0 h0;refine⟨y,z,y1,z1,λH hH=>?_,λH hH=>?_⟩
 ·obtain⟨y',q1,q2⟩:=A H hH;rw[y1] at q1;cases q1;exact q2
 ·obtain⟨y',q1,q2⟩:=B H hH;rw[z1] at q1;cases q1;exact q2
def V6{l}{i}{k}(hl:l.length=8)(hi:i<8):Cc aj 230 (.agg (bQ l)) (.v (.int k (i:Nat)))=aa (aN (cU l i)):=by
 have hu:=abi;unfold Cc;rw[hu];simp only[xq];rw[aD ⟨ah,by omega⟩];unfold GU;rw[Fj];simp only[xq];rw[dS,nY];have jK:i<l.length:=by omega
 show(bQ l)[i]?=_;rw[eR,cU,eQ,a9 jK];rfl
def Yv{b i}(hi:i<8):ie aj 177 (.ptr (.box b) 0) (aa (.v (.int .i64 ((4 * i:Nat):Int)))) (aa (.v (.int .i64 ((4 * i+4:Nat):Int)))) au=aa (.arr b (4 * i) 4 (32 - 4 * i)):=by
 have hu:=Tryz.underlying177;unfold ie;rw[hu];have h1:fX 32 au 32=aa 32:=rfl;have h2:fX 32 (aa (.v (.int .i64 ((4 * i+4:Nat):Int)))) 32=aa (4 * i+4):=by show(if _ then _ else _)=_;rw[aD ⟨ah,by omega⟩,dS]
 have h3:fX (4 * i+4) (aa (.v (.int .i64 ((4 * i:Nat):Int)))) 0=aa (4 * i):=by show(if _ then _ else _)=_;rw[aD ⟨ah,by omega⟩,dS]
 simp only[sH,h1,h2,h3];rw[aG bG,aG ah,nZ,nY,(ah:4 * i+4 - 4 * i=4)]
def Tk{v:eF}{H}:mY aj H 42 216 (aN v)=aa (.v (.int .u64 (v.toNat:Nat)),H):=by unfold aN;rw[aez];congr 4;unfold IntKind.wrap;simp[IntKind.signed,IntKind.bits];have:=v.isLt;omega
def YD(cs):eK cs 0 cs=cs:=by unfold eK;simp
def WX{s}(hs:s.length=8){i}(hi:i<8):Cp (bP (js (s.take i))++bm (32 - 4 * i) (bT 0)) (4 * i) 4 (cU s i).toNat=bP (js (s.take (i+1)))++bm (32 - 4 * (i+1)) (bT 0):=by
 have hl:(bP (js (s.take i))).length=4 * i:=by rw[lM,Cn,fb];omega
 have hx:s[i]?=aa (cU s i):=by unfold cU;rw[eQ,a9 ah];rfl
 unfold Cp;rw[ajB hx,Is hl,CN,hl,sK ah,jZ,Rh,(ah:32 - 4 * i - (4 * i+4 - 4 * i)=32 - 4 * (i+1))];unfold bP;rw[oM]
def aeQ(b)(i):wh (gf i NT.start b) ((b.drop (64 * i)).take 64)=gf (i+1) NT.start b:=(Fy i _ b).symm
def Ys(b:List UInt8)(x:AV)(h:ao)(s:dO 1 h x (aX b))(hb:b.length<=1152921504606846975):
 ∃h',W.call 181 [x] h=aa (.ret (.agg (bP (eJ b))),h')/\Ext h h':=by
 have u28:=jb;have z177:=ED;have zz:(gy aj 230).bind AV.bU=aa (bQ (bm 8 0#32)):=by rw[QU];exact Zu
 have cs8:(AV.agg (bQ NT.start)).bU=aa (bQ NT.start):=IK rfl;have spz:∀H:ao,b8 aj (H.push (bQ (bm 8 0#32))) 230 (.ptr (.box H.boxes.length) 0) (.agg (bQ NT.start))=aa (H.push (bQ NT.start)):=λH=>jt (IK rfl) EC rfl rfl;have spz2:∀H:ao,∀y,b8 aj ((H.push y).push (bQ (bm 8 0#32))) 230 (.ptr (.box (H.boxes.length+1)) 0) (.agg (bQ NT.start))=aa ((H.push y).push (bQ NT.start)):=λH y=>by rw[<-cH H y];exact spz _
 have lx:=s.len jb;rw[bJ] at lx;have kS:=aq.mk s;have kSs:=aq.mk (aoC b);clear s;refine ij rfl Tryz.func181 rfl ?_;refine eg @uC @cH @ah7 ?_;generalize fA:(h.push (bm 32 (bT 0))).push (bQ NT.start)=H0;generalize jT:h.boxes.length+1=sb;have kx:aq (∀H',fF sb h.tn H0 H'->dO 1 H' x (aX b)):=⟨λH' m=>kS.out.mono λc cs hc=>by have az:=(aQ.1 hc).1;refine m.box c cs ah ?_;rw[<-fA];exact aZ (aZ hc)⟩;have cY:H0.boxes[h.boxes.length]?=aa (bm 32 (bT 0)):=by rw[<-fA];exact aZ (bp _ _)
 have yl:H0.boxes[sb]?=aa (bQ (gf 0 NT.start b)):=by rw[<-fA,<-jT];exact ng (by rw[cH])
 have Up:Ext h H0:=by rw[<-fA];exact(Ext.push _ _).trans (.push _ _)
 have ar7:h.boxes.length<sb:=by omega
 have Nb:H0.boxes.length=sb+1:=by rw[<-fA,<-jT,cH,cH]
 have kd:=aq.mk cY;have kE:=aq.mk Up;have ks:=aq.mk yl;clear cY Up yl fA jT z177 zz cs8 spz spz2 kS;refine de (λm e H=>∃(i:Nat) (y:AV),64 * i<=b.length/\m=b.length - 64 * i/\e.get 0=x/\e.get 2=.ptr (.box h.boxes.length) 0/\e.get 3=.ptr (.box sb) 0/\e.get 4=.func (.func 204) [.ptr (.box sb) 0] []/\e.get 5=y/\e.defers=[]/\(∀H',fF sb h.tn H0 H'->dO 1 H' y (aX (b.drop (64 * i))))/\H.boxes[sb]?=aa (bQ (gf i NT.start b))/\fF sb h.tn H0 H) ?_ b.length _ _ ?_;rotate_left 1
 ·refine⟨0,x,df _,rfl,?_,?_,?_,?_,?_,?_,kx.out,ks.out,fF.refl _ _ _⟩<;>(first|assumption|(exact gR))
 clear ks;rintro m e H ⟨i,y,hi,rfl,g0,g2,g3,g4,g5,hd,hy,jT,hM⟩;have ly:=(hy H hM).len jb;rw[bJ,gE] at ly;by_cases hc:64<=b.length - 64 * i
 ·refine qL λQ=>?_;obtain⟨y1,y2,q1,q2,q3,q4⟩:=Qu hy hM (by rw[gE];exact hc);obtain⟨H2,c1,c2,c3⟩:=LV _ _ sb y1 H (uR i NT.start b rfl) (by rw[fb,gE];omega) jT (λH' m=>q3 H' (hM.trans (m.tO (fc kE.out.tn hM.tn))));rw[aeQ] at c2;have kM:=aq.mk (hM.trans (c3.tO (fc kE.out.tn hM.tn)));have kq:=aq.mk q4;have k2:=aq.mk c2;clear hM c2 c3 q3 q4 hy jT;refine eg @uC @jO.{0} @jZ.{0} ?_;refine⟨b.length - 64 * (i+1),by omega,i+1,y2,by omega,rfl,aT,aT,aT,aT,rfl,aT,?_,k2.out,kM.out⟩;rw[(ah:64 * (i+1)=64 * i+64),<-xD];exact kq.out
 have pD:b.length/64=i:=by omega
 have kSh:=aq.mk kSs.out;rw[pD] at kSh;have ej:(b.drop (64 * i)).length<64:=by rw[gE];omega
 have DN:b.length - 64 * i=(b.drop (64 * i)).length:=by rw[gE]
 rw[DN] at ly hc;have h8:=uR i NT.start b rfl;generalize gf i NT.start b=s1 at *
 generalize b.drop (64 * i)=r at *
 clear DN kSs;have kM:=aq.mk hM;have vd:=hM.len;have VX:=hy (H.push (bm 128 (bT 0))) (hM.push _);have cp:=aek (len:=64) (aA:=128) VX (bp _ _) (by rw[qC];decide) aO ah;rw[ss] at cp;have e1:IntKind.u64.wrap ((b.length:Nat):Int)=((b.length:Nat):Int):=by unfold IntKind.wrap;simp[IntKind.signed,IntKind.bits];omega
 have e2:IntKind.u64.wrap (((b.length:Nat):Int) * 8)=((b.length * 8:Nat):Int):=by unfold IntKind.wrap;simp[IntKind.signed,IntKind.bits];omega
 have ix:=V7 (b:=H.boxes.length) (off:=0) (aA:=128) (k:=.i64) ej;rw[nZ] at ix;have Na:(bP r++(bm 128 (bT 0)).drop r.length).length=128:=by rw[du,lM,gE,qC];omega
 have st:b8 aj (H.push (bP r++(bm 128 (bT 0)).drop r.length)) 5 (.ptr (.box H.boxes.length) r.length) (.v (.int .u8 128))=aa (H.push ((bP r++(bm 128 (bT 0)).drop r.length).set r.length (bT 0x80))):=by have:=KJ (H:=H.push (bP r++(bm 128 (bT 0)).drop r.length)) (v:=0x80) (bp _ _) (k:=r.length) (by rw[Na];omega);rw[ss] at this;exact this
 have hE:=ae7 (n:=b.length) ej;have Uo:((bP r++(bm 128 (bT 0)).drop r.length).set r.length (bT 0x80)).length=128:=by rw[nE,Na]
 generalize bP r++(bm 128 (bT 0)).drop r.length=C1 at *
 generalize C1.set r.length (bT 0x80)=C2 at *
 have kEl:=aq.mk (Tw (n:=b.length) ej);have pe:=λ(off aA:Nat) (ho:off+8<=128)=>PJ H.boxes.length off 8 aA (b.length * 8) C2 (H.push C2) aO ah (bp _ _) (by rw[Uo];exact ho);simp only[ss] at pe;have ks:=aq.mk jT;clear VX hy hM jT Na Uo hi pD;have hL:(r.length<=55/\oj r.length=64)∨(55<r.length/\oj r.length=128):=by unfold oj;split<;>omega
 rcases hL with⟨hr,hL⟩|⟨hr,hL⟩
 ·rw[hL] at hE kEl kSh;have p1:=pe 56 72 aO;rw[hE] at p1;have sl:ie aj 28 (.arr H.boxes.length 0 64 128) (aa (.v (.int .i64 (((64:Nat):Int) - 8)))) au au=aa (.arr H.boxes.length 56 8 72):=aw;clear pe hE hL;refine eg @uC @WC @qG ?_;have bO:=kEl.out;generalize gu:H.push (bP (mZ r b.length)++bm (128 - 64) (bT 0))=H1;generalize hz:H.boxes.length=eb;have wH:H1.boxes[eb]?=aa (bP (mZ r b.length)++bm (128 - 64) (bT 0)):=by rw[<-gu,<-hz];exact bp _ _
  have FU:fF sb h.tn H0 H1:=by rw[<-gu];exact kM.out.push _
  have cK:H1.boxes[sb]?=aa (bQ s1):=by rw[<-gu];exact aZ ks.out
  have bE:eb≠sb:=by omega
  have hR:∀H',fF sb h.tn H1 H'->dO 1 H' (.arr eb 0 64 128) (aX ((mZ r b.length).drop (64 * 0))):=λH' m=>by
   rw[aaT,iB];refine⟨ze _,.inr ⟨eb,0,128,_,by rw[bJ,bO],by rw[bJ,bO];decide,m.box _ _ bE wH,?_,?_⟩⟩
   ·rw[HR,bJ,nY,iB,Is (lM _)]
   ·rw[bJ,du,lM,bO,qC];decide
  have kR:=aq.mk hR;have kB:=aq.mk wH;have kM1:=aq.mk FU;have kS1:=aq.mk cK;clear wH FU cK hR gu hz kM ks cp st p1 sl ix;refine de (λm e H=>∃(i:Nat) (y:AV),64 * i<=64/\m=64 - 64 * i/\e.get 2=.ptr (.box h.boxes.length) 0/\e.get 3=.ptr (.box sb) 0/\e.get 4=.func (.func 204) [.ptr (.box sb) 0] []/\e.get 6=y/\e.defers=[]/\(∀H',fF sb h.tn H1 H'->dO 1 H' y (aX ((mZ r b.length).drop (64 * i))))/\H.boxes[sb]?=aa (bQ (gf i s1 (mZ r b.length)))/\fF sb h.tn H1 H) ?_ 64 _ _ ?_;rotate_left 1
  ·refine⟨0,.arr eb 0 64 128,df _,rfl,?_,?_,?_,?_,?_,kR.out,kS1.out,fF.refl _ _ _⟩<;>(first|assumption|(exact gR))
  clear kR kS1 g0 g2 g3 g4 g5 hd ly hc;rintro m e H ⟨i,y,hi,rfl,g2,g3,g4,g6,hd,hy,jT,hM⟩;have ly:=(hy H hM).len jb;rw[bJ,gE,bO] at ly;by_cases hc:0<64 - 64 * i
  ·refine qL λQ=>?_;obtain⟨y1,y2,q1,q2,q3,q4⟩:=Qu hy hM (by rw[gE,bO];omega);obtain⟨H2,c1,c2,c3⟩:=LV _ _ sb y1 H (uR i s1 _ h8) (by rw[fb,gE,bO];omega) jT (λH' m=>q3 H' (hM.trans (m.tO (fc kE.out.tn (fc kM1.out.tn hM.tn)))));rw[<-Fy] at c2;have kM:=aq.mk (hM.trans (c3.tO (fc kE.out.tn (fc kM1.out.tn hM.tn))));have kq:=aq.mk q4;have k2:=aq.mk c2;clear hM c2 c3 q3 q4 hy jT;refine eg @uC @jO.{0} @jZ.{0} ?_;refine⟨64 - 64 * (i+1),by omega,i+1,y2,by omega,rfl,aT,aT,aT,rfl,aT,?_,k2.out,kM.out⟩;rw[(ah:64 * (i+1)=64 * i+64),<-xD];exact kq.out
  have pD:i=64/64:=by omega
  subst pD;have FN:=uR (64/64) s1 (mZ r b.length) h8;generalize gf (64/64) s1 (mZ r b.length)=s2 at *
  have hX:Ext h H:=kE.out.mut (kM1.out.trans hM) ah;have lu:=(kM1.out.trans hM).box _ _ ah kd.out;have xZ:s2.length=8:=FN;have lds:aF aj Gt H 230 (.ptr (.box sb) 0)=aa (.agg (bQ s2)):=by have GA:(bQ s2).length=8:=(by rw[bJ];exact xZ);rw[jj Iz EC jT (by rw[GA];exact aJ _),iB,fK (by rw[GA];exact aJ _)]
  have kX:=aq.mk hX;have kdb:=aq.mk lu;clear hX lu jT hM hy kM1 kd kB kE FN;have kSh2:aq (eJ b=js s2):=⟨kSh.out⟩;clear kSh;refine bR @uC ?_;refine de (λm e H=>∃(i:Nat),i<=8/\m=8 - i/\e.get 2=.ptr (.box h.boxes.length) 0/\e.get 53=.agg (bQ s2)/\e.get 54=.v (.int .i64 i)/\e.defers=[]/\H.boxes[h.boxes.length]?=aa (bP (js (s2.take i))++bm (32 - 4 * i) (bT 0))/\Ext h H) ?_ 8 _ _ ?_;rotate_left 1
  ·refine⟨0,by decide,rfl,?_,?_,?_,?_,kdb.out,kX.out⟩<;>(first|assumption|(exact gR))
  clear kdb kX lds g2 g3 g4 g6 hd ly hc;rintro m e H ⟨i,hi,rfl,g2,g53,g54,hd,lu,hX⟩;by_cases hc:i=8
  ·subst hc;rw[fK ah] at lu;have e0:bP (js s2)++bm (32 - 4 * 8) (bT 0)=bP (js s2):=jv _;rw[e0,<-kSh2.out] at lu;have ya:(bP (eJ b)).length=32:=(by rw[lM,kSh2.out,Cn,xZ]);have l177:aF aj Gt H 177 (.ptr (.box h.boxes.length) 0)=aa (.agg (bP (eJ b))):=(by rw[jj C4 qu lu (by rw[ya];exact aJ _),iB,fK (by rw[ya];exact aJ _)]);have s177:b8 aj H 177 (.ptr (.box h.boxes.length) 0) (.agg (bP (eJ b)))=aa H:=(by rw[fw (yI _) qu lu ya (by rw[ya];exact aJ _),YD,nt lu]);have kX:=aq.mk hX;clear lu hX;refine bR @uC ?_;exact⟨_,rfl,kX.out⟩
  ·refine qL λQ=>?_;have az:i<8:=(by omega);have iv:=V6 (k:=.i64) xZ az;have e4:IntKind.i64.wrap (4 * ((i:Nat):Int))=((4 * i:Nat):Int):=(by rw[fh ah ah];omega);have e5:IntKind.i64.wrap (((4 * i:Nat):Int)+4)=((4 * i+4:Nat):Int):=(by rw[fh ah ah];omega);have sl:=Yv (b:=h.boxes.length) az;have pe:=PJ h.boxes.length (4 * i) 4 (32 - 4 * i) (cU s2 i).toNat _ H aO (by have:=(cU s2 i).isLt;omega) lu (by rw[du,lM,Cn,fb,qC];omega);rw[WX xZ az] at pe;have nm:=(aQ.1 lu).1;have kX:=aq.mk hX;clear lu hX;refine cq @uC @Tk ?_;refine⟨8 - (i+1),by omega,i+1,by omega,rfl,aT,aT,rfl,aT,ey nm,kX.out.fI (aJ _) _⟩
 ·rw[hL] at hE kEl kSh;have p1:=pe 120 8 aO;rw[hE] at p1;have sl0:ie aj 28 (.arr H.boxes.length 0 64 128) au (aa (.v (.int .i64 128))) au=aa (.arr H.boxes.length 0 128 128):=aw;have sl:ie aj 28 (.arr H.boxes.length 0 128 128) (aa (.v (.int .i64 (((128:Nat):Int) - 8)))) au au=aa (.arr H.boxes.length 120 8 8):=aw;clear pe hE hL;refine eg @uC @WC @qG ?_;have bO:=kEl.out;generalize gu:H.push (bP (mZ r b.length)++bm (128 - 128) (bT 0))=H1;generalize hz:H.boxes.length=eb;have wH:H1.boxes[eb]?=aa (bP (mZ r b.length)++bm (128 - 128) (bT 0)):=by rw[<-gu,<-hz];exact bp _ _
  have FU:fF sb h.tn H0 H1:=by rw[<-gu];exact kM.out.push _
  have cK:H1.boxes[sb]?=aa (bQ s1):=by rw[<-gu];exact aZ ks.out
  have bE:eb≠sb:=by omega
  have hR:∀H',fF sb h.tn H1 H'->dO 1 H' (.arr eb 0 128 128) (aX ((mZ r b.length).drop (64 * 0))):=λH' m=>by
   rw[aaT,iB];refine⟨ze _,.inr ⟨eb,0,128,_,by rw[bJ,bO],by rw[bJ,bO];decide,m.box _ _ bE wH,?_,?_⟩⟩
   ·rw[HR,bJ,nY,iB,Is (lM _)]
   ·rw[bJ,du,lM,bO,qC];decide
  have kR:=aq.mk hR;have kB:=aq.mk wH;have kM1:=aq.mk FU;have kS1:=aq.mk cK;clear wH FU cK hR gu hz kM ks cp st p1 sl ix;refine de (λm e H=>∃(i:Nat) (y:AV),64 * i<=128/\m=128 - 64 * i/\e.get 2=.ptr (.box h.boxes.length) 0/\e.get 3=.ptr (.box sb) 0/\e.get 4=.func (.func 204) [.ptr (.box sb) 0] []/\e.get 6=y/\e.defers=[]/\(∀H',fF sb h.tn H1 H'->dO 1 H' y (aX ((mZ r b.length).drop (64 * i))))/\H.boxes[sb]?=aa (bQ (gf i s1 (mZ r b.length)))/\fF sb h.tn H1 H) ?_ 128 _ _ ?_;rotate_left 1
  ·refine⟨0,.arr eb 0 128 128,df _,rfl,?_,?_,?_,?_,?_,kR.out,kS1.out,fF.refl _ _ _⟩<;>(first|assumption|(exact gR))
  clear kR kS1 g0 g2 g3 g4 g5 hd ly hc;rintro m e H ⟨i,y,hi,rfl,g2,g3,g4,g6,hd,hy,jT,hM⟩;have ly:=(hy H hM).len jb;rw[bJ,gE,bO] at ly;by_cases hc:0<128 - 64 * i
  ·refine qL λQ=>?_;obtain⟨y1,y2,q1,q2,q3,q4⟩:=Qu hy hM (by rw[gE,bO];omega);obtain⟨H2,c1,c2,c3⟩:=LV _ _ sb y1 H (uR i s1 _ h8) (by rw[fb,gE,bO];omega) jT (λH' m=>q3 H' (hM.trans (m.tO (fc kE.out.tn (fc kM1.out.tn hM.tn)))));rw[<-Fy] at c2;have kM:=aq.mk (hM.trans (c3.tO (fc kE.out.tn (fc kM1.out.tn hM.tn))));have kq:=aq.mk q4;have k2:=aq.mk c2;clear hM c2 c3 q3 q4 hy jT;refine eg @uC @jO.{0} @jZ.{0} ?_;refine⟨128 - 64 * (i+1),by omega,i+1,y2,by omega,rfl,aT,aT,aT,rfl,aT,?_,k2.out,kM.out⟩;rw[(ah:64 * (i+1)=64 * i+64),<-xD];exact kq.out
  have pD:i=128/64:=by omega
  subst pD;have FN:=uR (128/64) s1 (mZ r b.length) h8;generalize gf (128/64) s1 (mZ r b.length)=s2 at *
  have hX:Ext h H:=kE.out.mut (kM1.out.trans hM) ah;have lu:=(kM1.out.trans hM).box _ _ ah kd.out;have xZ:s2.length=8:=FN;have lds:aF aj Gt H 230 (.ptr (.box sb) 0)=aa (.agg (bQ s2)):=by have GA:(bQ s2).length=8:=(by rw[bJ];exact xZ);rw[jj Iz EC jT (by rw[GA];exact aJ _),iB,fK (by rw[GA];exact aJ _)]
  have kX:=aq.mk hX;have kdb:=aq.mk lu;clear hX lu jT hM hy kM1 kd kB kE FN;have kSh2:aq (eJ b=js s2):=⟨kSh.out⟩;clear kSh;refine bR @uC ?_;refine de (λm e H=>∃(i:Nat),i<=8/\m=8 - i/\e.get 2=.ptr (.box h.boxes.length) 0/\e.get 53=.agg (bQ s2)/\e.get 54=.v (.int .i64 i)/\e.defers=[]/\H.boxes[h.boxes.length]?=aa (bP (js (s2.take i))++bm (32 - 4 * i) (bT 0))/\Ext h H) ?_ 8 _ _ ?_;rotate_left 1
  ·refine⟨0,by decide,rfl,?_,?_,?_,?_,kdb.out,kX.out⟩<;>(first|assumption|(exact gR))
  clear kdb kX lds g2 g3 g4 g6 hd ly hc;rintro m e H ⟨i,hi,rfl,g2,g53,g54,hd,lu,hX⟩;by_cases hc:i=8
  ·subst hc;rw[fK ah] at lu;have e0:bP (js s2)++bm (32 - 4 * 8) (bT 0)=bP (js s2):=jv _;rw[e0,<-kSh2.out] at lu;have ya:(bP (eJ b)).length=32:=(by rw[lM,kSh2.out,Cn,xZ]);have l177:aF aj Gt H 177 (.ptr (.box h.boxes.length) 0)=aa (.agg (bP (eJ b))):=(by rw[jj C4 qu lu (by rw[ya];exact aJ _),iB,fK (by rw[ya];exact aJ _)]);have s177:b8 aj H 177 (.ptr (.box h.boxes.length) 0) (.agg (bP (eJ b)))=aa H:=(by rw[fw (yI _) qu lu ya (by rw[ya];exact aJ _),YD,nt lu]);have kX:=aq.mk hX;clear lu hX;refine bR @uC ?_;exact⟨_,rfl,kX.out⟩
  ·refine qL λQ=>?_;have az:i<8:=(by omega);have iv:=V6 (k:=.i64) xZ az;have e4:IntKind.i64.wrap (4 * ((i:Nat):Int))=((4 * i:Nat):Int):=(by rw[fh ah ah];omega);have e5:IntKind.i64.wrap (((4 * i:Nat):Int)+4)=((4 * i+4:Nat):Int):=(by rw[fh ah ah];omega);have sl:=Yv (b:=h.boxes.length) az;have pe:=PJ h.boxes.length (4 * i) 4 (32 - 4 * i) (cU s2 i).toNat _ H aO (by have:=(cU s2 i).isLt;omega) lu (by rw[du,lM,Cn,fb,qC];omega);rw[WX xZ az] at pe;have nm:=(aQ.1 lu).1;have kX:=aq.mk hX;clear lu hX;refine cq @uC @Tk ?_;refine⟨8 - (i+1),by omega,i+1,by omega,rfl,aT,aT,rfl,aT,ey nm,kX.out.fI (aJ _) _⟩
end Go.Proofs.YtnfciiiohoafaaaGreatDoor
end
