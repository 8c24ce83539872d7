/-
  The engine, part 39: a call that makes memory that nobody sees again may be taken as one that makes none.
-/
import Derived.Test.YtnfciiiohoafaaaGreatDoorXB
import Derived.KernelRfl
import Derived.Test.YtnfciiiohoafaaaGreatDoorChecked
open True renaming intro->aY
open Bool renaming true->ah,and_assoc->adp,and_eq_true->bI,false_and->yT,false_eq_true->kj,false->aB,eq_iff_iff->GA,not_eq_true'->At,true_and->rT
open List renaming cons_append->lO,flatten_cons->pW,getElem?_eq_some_iff->aW,getElem?_take->o7,map_cons->eL,map_nil->wc,getElem?_toArray->jI,getElem?_cons_zero->lu,getElem?_cons_succ->qw,append_nil->jC,nil_append->mh,length_cons->jd,length_append->dM,drop_zero->jm,take_length->fN,drop_take->Ut,take_take->Uz,drop_drop->y5,mem_of_mem_take->pY,length_drop->iC,length_take->fm,take_zero->gF,ext_getElem->Kc,getElem_map->qx,getElem_range->B8,getElem?_eq_getElem->aU,replicate->br,mem_cons->iU,mem_cons_self->gq,mem_cons_of_mem->fM,all_cons->GP,all_eq_true->eK,nodup_cons->GX,mem_map->kC,map_map->Ca,map_append->mY,map_congr_left->Kf,zipWith->GZ,range->bO,getD_eq_getElem?_getD->eE,getElem_mem->iK,getElem?_eq_none->u7,length_zipWith->ad3,getElem_zipWith->ad1,getElem?_append_left->sY,getElem?_append_right->AL,getElem?_drop->pX,length_map->bF,getElem_drop->Uv,mem_range->gf,getElem_set_self->N1,getElem_set_ne->N0,getElem_set->GU,mem_or_eq_of_mem_set->xB,mem_iff_getElem->Cb,length_singleton->N3,getElem?_set_ne->Kd,getElem?_map->ey,range_succ->nD,foldl_append->oI,foldl_cons->v9,foldl_nil->GR,getElem?_replicate->NY,length_set->mJ,getElem?_set->mW,take_append_drop->zd,drop_eq_getElem_cons->y6,getElem_zipIdx->ad0,append_assoc->ua,take_succ_eq_append_getElem->aeh,set_append_right->N8,set_eq_of_length_le->aed,ext_getElem?->rW,set_set->Ev,take->N9,head?_drop->Ke,set_eq_take_append_cons_drop->Cd,length_replicate->mX,replicate_succ->Cc,set_cons_zero->Uy,map_replicate->y9,take_of_length_le->gK,drop_of_length_le->rh,map_drop->ad5,take_succ_cons->iV,drop_succ_cons->AK,head?_cons->B9,mem_singleton->nC,drop_append_of_le_length->adP,drop_replicate->Us,drop_append->Eu,take_left'->Ki
open Option renaming some->aa,map_some->ft,bind_some->qB,none->av,isSome_none->Cl,some.injEq->eg,getD_some->Kk
open Go renaming Value->aT,Program->bL,FuncId->bq,TypeId->aP,IntKind->uZ,Operand->bU
open And renaming intro->az
open Nat renaming sub_zero->UH,zero_mul->Hj,add_zero->Cf,le_refl->aL,mul_le_mul_right->pg,add_mul->gZ,min_eq_left->Ey,shiftLeft_eq->Ck,add_comm->aej,Coprime->o9,Coprime.symm->Od,dvd_of_mod_eq_zero->G9,le_of_dvd->Ex,mod_lt->nF,eq_zero_or_pos->Hc,mul_add->UC,add_mod->Kj,mul_assoc->Oh,mul_mod_mod->aer,mul_le_mul_left->aeq,mod_eq_of_lt->oJ,one_mul->Ez,mod_mul_mod->UB,div_add_mod->UA,mul_mod->uc,mul_one->ph,mul_comm->Oi,mod_two_eq_zero_or_one->Ci,pow_pos->Ol,mul_add_mod->aeo,Coprime.coprime_mul_left->aei,pow_succ->Cj,lt_or_ge->ez,mul_le_mul->ri,pow_mod->Hh,pow_mul->Hi,pow_two->UD,pow_succ'->aey,eq_of_beq_eq_true->lD,one_pow->aeu,pow_add->aew,zero_le->cD,lt_trans->qy,reduceEqDiff->aS,le_of_lt->nY,lt_of_lt_of_le->nE,sub_self->ve,zero_add->qA,le_trans->fG,mul_zero->aes
open Int renaming toNat_natCast->dW,fdiv_eq_ediv_of_nonneg->GK,pow_pos->adI,natCast_mul->yY,mul_left_comm->Ep,pow_succ->yZ,mul_assoc->yX,mul_comm->AG,pow_add->Um,sub_mul->NS,mul_sub->AH,dvd_add->yW,dvd_mul_of_dvd_right->GJ,natAbs_dvd_natAbs->adD,natAbs_natCast->Ui,natCast_add->adE,mul_add->NP,mul_one->J8,pow_zero->NR,one_mul->GL,pow_mul->GN,natCast_dvd_natCast->Uj,emod_nonneg->Uf,emod_lt_of_pos->Ue,emod_eq_of_lt->NN,add_emod->ady,mul_emod->BY,mul_zero->NQ,zero_mul->Ka,sub_emod->adJ,emod_emod_of_dvd->Eo,dvd_refl->En,neg_zero->adG,neg_mul->adF,zero_add->GO,ofNat_lt->adH,natCast_emod->Uk,sub_self->Un,emod_add_mul_ediv->adA,dvd_sub->Ud,dvd_zero->adz,tmod_eq_emod_of_nonneg->J9,mul_nonneg->Uh,mul_le_mul->Ug,tdiv_eq_ediv_of_nonneg->adK,natCast_zero->tY,natCast_one->Ul
open Decidable renaming not_not->J6
open Go.Proofs.Tryz renaming prog->aq,underlying23->dY,func201->aeM,func46->U1,func194->aeL,func94->U3,func69->U2,func30->aeQ,underlying28->jJ,func221->zf,func222->aeP,underlying242->aeU,underlying230->aeT
set_option maxHeartbeats 64000000
set_option maxRecDepth 100000
set_option linter.unusedSimpArgs false
set_option linter.unusedVariables false
set_option linter.constructorNameAsVariable false
set_option linter.defProp false
section
namespace Go.AE
mutual
def oA(n:Nat):AV->Bool
 | .list _ _ es=>IU n es
 | .arr b _ _ _=>decide (b<n)
 | .agg cs=>qm n cs
 | .tuple cs=>qm n cs
 | .ptr (.box b) _=>decide (b<n)
 | .elem _ es _ _=>IU n es
 | .func _ a b=>qm n a&&qm n b
 | .iface _ x=>oA n x
 |_=>ah
def qm(n:Nat):List AV->Bool
 | []=>ah
 |x::r=>oA n x&&qm n r
def IU(n:Nat):List (List AV)->Bool
 | []=>ah
 |r::rs=>qm n r&&IU n rs
end
def aah(n):∀(a b:List AV),qm n (a++b)=(qm n a&&qm n b)
 | [],b=>by simp[qm]
 |x::a,b=>by rw[lO,qm,qm,aah n a b,adp]
def IV(n):∀es:List (List AV),qm n es.flatten=IU n es
 | []=>rfl
 |r::es=>by rw[pW,aah,IU,IV n es]
def a8.low(K:a8)(n:Nat):a8:={K with β:=K.β.take n}
section
variable {K:a8}
def Nw{b g:Nat}(h:K.β[b]?=aa g):b<K.β.length:=(aW.1 h).1
mutual
def a9.low:∀{x:AV} {c:aT},a9 K x c->oA K.β.length x=ah
 |_,_,.bad _=>rfl
 |_,_,.v _ _=>rfl
 |_,_,.nil _=>rfl
 |_,_,.jH _ _=>rfl
 |_,_,.list _ _ es _ _ _ _ _ _ _ hv _ _ _=>by rw[oA,<-IV];exact aV.low hv
 |_,_,.arr _ _ _ _ _ _ _ hb _ _ _ _=>by rw[oA];exact b8 (Nw hb)
 |_,_,.agg _ _ hv=>by rw[oA];exact aV.low hv
 |_,_,.tuple _ _ hv=>by rw[oA];exact aV.low hv
 |_,_,.box _ _ _ hb=>by rw[oA];exact b8 (Nw hb)
 |_,_,.fb _ _=>rfl
 |_,_,.elem _ es _ _ _ _ _ _ _ hv _ _ _ _=>by rw[oA,<-IV];exact aV.low hv
 |_,_,.func _ _ _ _ _ h1 h2=>by rw[oA,aV.low h1,aV.low h2];rfl
 |_,_,.yield _ _ _=>rfl
 |_,_,.iface _ _ _ hx=>by rw[oA];exact a9.low hx
def aV.low:∀{xs:List AV} {cs:List aT},aV K xs cs->qm K.β.length xs=ah
 |_,_,.nil=>rfl
 |_,_,.cons _ _ _ _ hx hs=>by rw[qm,a9.low hx,aV.low hs];rfl
end
def aai{n b g:Nat}(hb:K.β[b]?=aa g)(hn:b<n):(K.low n).β[b]?=aa g:=by show(K.β.take n)[b]?=aa g;rw[o7,aH hn,hb]
def xJ.low{n:Nat}{k:Tok}{g off sz m aF:Nat}(h:xJ K k g off sz m aF):xJ (K.low n) k g off sz m aF:=h
mutual
def a9.cut{n:Nat}:∀{x:AV} {c:aT},a9 K x c->oA n x=ah->a9 (K.low n) x c
 |_,_,.bad c,_=>.bad c
 |_,_,.v x hx,_=>.v x hx
 |_,_,.nil sz,_=>.nil sz
 |_,_,.jH sz a,_=>.jH sz a
 |_,_,.list k sz es g off m aF cells hn hr hv hc ht ha,h=>.list k sz es g off m aF cells hn hr (aV.cut hv (by rw[IV];rw[oA] at h;exact h)) hc ht.low ha
 |_,_,.arr b g off len aF fP iX hb hl hc ho hr,h=>.arr b g off len aF fP iX (aai hb (by rw[oA] at h;exact of_decide_eq_true h)) hl hc ho hr
 |_,_,.agg cs vs hv,h=>.agg cs vs (aV.cut hv (by rw[oA] at h;exact h))
 |_,_,.tuple cs vs hv,h=>.tuple cs vs (aV.cut hv (by rw[oA] at h;exact h))
 |_,_,.box b g off hb,h=>.box b g off (aai hb (by rw[oA] at h;exact of_decide_eq_true h))
 |_,_,.fb g off,_=>.fb g off
 |_,_,.elem sz es i off g o p cells hr hv hc hi hp ha,h=>.elem sz es i off g o p cells hr (aV.cut hv (by rw[IV];rw[oA] at h;exact h)) hc hi hp ha
 |_,_,.func fn first aF fs cs h1 h2,h=>.func fn first aF fs cs (aV.cut h1 (by rw[oA,bI] at h;exact h.1)) (aV.cut h2 (by rw[oA,bI] at h;exact h.2))
 |_,_,.yield l g hl,_=>.yield l g hl
 |_,_,.iface t x c hx,h=>.iface t x c (a9.cut hx (by rw[oA] at h;exact h))
def aV.cut{n:Nat}:∀{xs:List AV} {cs:List aT},aV K xs cs->qm n xs=ah->aV (K.low n) xs cs
 |_,_,.nil,_=>.nil
 |_,_,.cons x c xs cs hx hs,h=>.cons x c xs cs (a9.cut hx (by rw[qm,bI] at h;exact h.1)) (aV.cut hs (by rw[qm,bI] at h;exact h.2))
end
end
section
variable {P:bL} {G:Nat->Option (List AV)} {w0 w w':World} {K K':a8} {h h':ar} {ok:bq->Nat->Code->Bool}
end
end Go.AE
end
section
namespace Go.AE
section
universe u
set_option linter.defProp false in
def goT:=az @ft.{0,0} (az @Option.map_none.{0,0} (az @qB.{0,0} (az @eL.{0,0} (az @wc.{0,0} (az @List.getD_cons_zero.{0} (az @List.getD_cons_succ.{0} (az @jI.{0} (az @lu.{0} @qw.{0}))))))))
set_option linter.defProp false in
def goU:=az @jC.{0} @mh.{0}
set_option linter.defProp false in
def Z9:=az @cR (az @mE @aaa)
set_option linter.defProp false in
def am4:=az @jd.{0} (az @List.length_nil.{0} (az @dM.{0} (az @cR (az @mE @aaa))))
set_option linter.defProp false in
def akf:=az @akh (az @nM (az @K4 (az @aki (az @akj @akg))))
set_option linter.defProp false in
def ahn:=az @AZ @Cv
set_option linter.defProp false in
def arU:=az @acv (az @WB @aa2)
end
set_option linter.defProp false in
def G_d:=@akI
set_option linter.defProp false in
def G_n:=@akM
set_option linter.defProp false in
def B_d:=@agX
set_option linter.defProp false in
def B_n:=@ag0
set_option linter.defProp false in
def G_m:=@akL
set_option linter.defProp false in
def B_m:=@agZ
set_option linter.defProp false in
def G_b:=@akH
set_option linter.defProp false in
def B_b:=@agW
def dZ{p:Prop}(h:p:=by first|assumption|(exact Nat.le_refl _)|omega|(simp only[am4]<;>omega)|(simp(disch:=(first|assumption|omega|(exact(cR _ _).symm)|(simp only[Z9];omega)|(refine Nat.le_antisymm ?_ ?_<;>simp only[Z9]<;>omega)|fail)) only[akf]<;>first|assumption|rfl)|(simp only[ahn];assumption)|(exact Tu _ _)|(simp only[arU];first|assumption|exact Tu _ _)):p:=h
def dX{a b p:Prop}(x:a)(y:b)(f:a->b->p:=by first|exact G_d|exact G_n|exact B_d|exact B_n|exact G_m|exact B_m|exact G_b|exact B_b):p:=f x y
end Go.AE
end
section
namespace Go.AE
section
variable {P:bL} {t0 t1 t elem:aP} {i:TypeInfo} {h:ar} {k k':Tok} {sz:Nat} {es new:List (List AV)}
def Nk(h0:P.underlying t0=aa (.slice elem))(h1:P.underlying t1=aa (.slice elem))(hi:P.info? elem=aa i)(dP:0<i.size)(hz:(i.zero.map λz=>z.cells.size)=aa i.size)(mD:new≠[])
 (hb:(es.length+new.length) * i.bytes<=140737488355328) (hl:es.length+new.length<=9223372036854775807) (hs:sz=i.size∨es=[]) (hk:k=.nil∨k=.tight) {x:AV} (hx:np h i.size x=aa new):
 sU P h #[t0,t1] (.list k sz es) x=aa (.arr h.boxes.length 0 (es.length+new.length) (es.length+new.length),h.push (es++new).flatten):=by
 unfold sU;simp only[jI,lu,qw,qB,h0,h1,hi,hx];rw[aH ⟨dP,hz⟩,aH hs,aJ mD,aH ⟨hb,hl⟩];rcases hk with rfl|rfl<;>rfl
def TL{b len:Nat}{cs:List AV}(h0:P.underlying t0=aa (.slice elem))(h1:P.underlying t1=aa (.slice elem))(hi:P.info? elem=aa i)(dP:0<i.size)(hz:(i.zero.map λz=>z.cells.size)=aa i.size)(mD:new≠[])
 (hb:(len+new.length) * i.bytes<=140737488355328) (hl:len+new.length<=9223372036854775807) (HX:h.boxes[b]?=aa cs) (h2:0<len) (h3:len * i.size=cs.length) {x:AV} (hx:np h i.size x=aa new):
 sU P h #[t0,t1] (.arr b 0 len len) x=aa (.arr h.boxes.length 0 (len+new.length) (len+new.length),(h.put b []).push (cs++new.flatten)):=by
 have hn:0<new.length:=by cases new with|nil=>exact absurd rfl mD|cons _ _=>simp
 unfold sU;simp only[jI,lu,qw,qB,h0,h1,hi,hx,HX];rw[aH ⟨dP,hz⟩,aJ ai,aH ⟨aY,h2,aY,h3,hb,hl⟩];rfl
def RU:np h sz (.list k sz es)=aa es:=by unfold np rowsOf;simp
def aci{b off len aF n:Nat}{m:Int}{kk:uZ}(h0:P.underlying t=aa (.slice elem))(hs:dJ P elem=aa n)(hn:n≠0)(h1:0<=m)(h2:m<=aF)(h3:0<aF):jc P t (.arr b off len aF) av (aa (.v (.int kk m))) av=aa (.arr b off m.toNat aF):=by
 have e1:hJ aF av aF=aa aF:=rfl;have e2:hJ aF (aa (.v (.int kk m))) len=aa m.toNat:=by show(if 0<=m/\m<=(aF:Int) then aa m.toNat else av)=_;rw[aH ⟨h1,h2⟩]
 have e3:hJ m.toNat av 0=aa 0:=rfl;unfold jc;simp only[h0,hs,e1,e2,e3,Cl,yT,kj,false_and,if_false,hn,UH,Hj,Cf,ite_self]
end
end Go.AE
end
section
namespace Go.AE
def eu(sz:Nat)(h:ar)(x:AV)(ae:List (List AV)):Prop:=
 (∀r∈ae,r.length=sz)/\
 ((∃k s,x=.list k s ae/\(ae≠[]->s=sz))∨
  (∃b off aF cs,x=.arr b off ae.length aF/\ae.length<=aF/\h.boxes[b]?=aa cs/\(cs.drop off).take (ae.length * sz)=ae.flatten/\off+ae.length * sz<=cs.length))
section
variable {P:bL} {G:Nat->Option (List AV)} {h h':ar} {t e:aP} {sz:Nat} {x:AV} {ae:List (List AV)}
def eu.list{k:Tok}{s:Nat}(hr:∀r∈ae,r.length=sz)(hs:ae≠[]->s=sz):eu sz h (.list k s ae) ae:=⟨hr,.inl ⟨k,s,rfl,hs⟩⟩
def eu.box{b n:Nat}(hr:∀r∈ae,r.length=sz)(hn:n=ae.length)(hb:h.boxes[b]?=aa ae.flatten):eu sz h (.arr b 0 n n) ae:=by
 subst hn;refine⟨hr,.inr ⟨b,0,ae.length,ae.flatten,rfl,aL _,hb,?_,?_⟩⟩
 ·rw[jm,<-oh hr,fN]
 ·rw[oh hr];omega
def eu.mono(s:eu sz h x ae)(m:∀(b:Nat) (cs:List AV),h.boxes[b]?=aa cs->h'.boxes[b]?=aa cs):eu sz h' x ae:=by
 obtain⟨hr,s⟩:=s;refine⟨hr,?_⟩;rcases s with s|⟨b,off,aF,cs,h1,h2,h3,h4⟩
 ·exact .inl s
 ·exact .inr ⟨b,off,aF,cs,h1,h2,m _ _ h3,h4⟩
def eu.ext(s:eu sz h x ae)(m:Ext h h'):eu sz h' x ae:=s.mono m.box
def eu.len(s:eu sz h x ae)(hu:P.underlying t=aa (.slice e)):dQ P t x=aa (.v (.int .i64 ae.length)):=by
 rcases s.2 with⟨k,s,rfl,-⟩|⟨b,off,aF,cs,rfl,-⟩
 ·exact RF hu
 ·exact RE hu
def eu.index(s:eu sz h x ae)(hp:0<sz)(hu:P.underlying t=aa (.slice e))(hs:dJ P e=aa sz){i:Nat}{row:List AV}(hi:ae[i]?=aa row):
 ∃p,(∀kk,dS P t x (.v (.int kk (i:Int)))=aa p)/\(gY P e=aa aB->aI P G h e p=row.head?)/\(gY P e=aa ah->aI P G h e p=aa (.agg row)):=by
 have aC:=(aW.1 hi).1;have cU:=s.1 row (List.mem_of_getElem? hi);rcases s.2 with⟨k,s',rfl,hk⟩|⟨b,off,aF,cs,rfl,h2,h3,h4,h5⟩
 ·have:s'=sz:=hk (by rintro rfl;simp at aC);subst this;refine⟨.elem s' ae i 0,λkk=>?_,λha=>?_,λha=>?_⟩
  ·rw[bp hu hs ai ai,dW]
  ·rw[sI ha hi,jm]
  ·rw[LO ha hs hi ai,jm,<-cU,fN]
 ·have dV:(cs.drop (off+i * sz)).take sz=row:=by have:=Pq s.1 hi;rw[<-h4,Ut,Uz,y5] at this;rw[<-this];congr 1;have:(i+1) * sz<=ae.length * sz:=pg _ aC;rw[gZ] at this;omega
  have oq:off+i * sz+sz<=cs.length:=by have:(i+1) * sz<=ae.length * sz:=pg _ aC;rw[gZ] at this;omega
  refine⟨.ptr (.box b) (off+i * sz),λkk=>?_,λha=>?_,λha=>?_⟩
  ·rw[FK hu hs ai ai,dW]
  ·rw[mT ha h3,<-dV];obtain⟨n,rfl⟩:∃n,sz=n+1:=⟨sz - 1,by omega⟩;cases cs.drop (off+i * (n+1)) with|nil=>rfl|cons a l=>rfl
  ·rw[iP ha hs h3 oq,dV]
def eu.slice(s:eu sz h x ae)(hp:0<sz)(hu:P.underlying t=aa (.slice e))(hs:dJ P e=aa sz){lo hi:Option AV}{l m:Nat}
 (uD:(hi=av/\m=ae.length)∨∃kk,hi=aa (.v (.int kk (m:Int)))/\m<=ae.length) (rB:(lo=av/\l=0)∨∃kk,lo=aa (.v (.int kk (l:Int)))) (Db:l<=m):
 ∃y,jc P t x lo hi av=aa y/\eu sz h y ((ae.take m).drop l):=by
 have hm:m<=ae.length:=by rcases uD with⟨-,q⟩|⟨_,-,q⟩<;>omega
 have bound:∀top,ae.length<=top->hJ top hi ae.length=aa m:=λtop Zq=>by
  rcases uD with⟨rfl,rfl⟩|⟨kk,rfl,q⟩
  ·rfl
  ·show(if 0<=(m:Int)/\(m:Int)<=(top:Int) then aa (m:Int).toNat else av)=_;rw[aH ⟨ai,by omega⟩,dW]
 have bound0:hJ m lo 0=aa l:=by
  rcases rB with⟨rfl,rfl⟩|⟨kk,rfl⟩
  ·rfl
  ·show(if 0<=(l:Int)/\(l:Int)<=(m:Int) then aa (l:Int).toNat else av)=_;rw[aH ⟨ai,by omega⟩,dW]
 have jO:∀r∈(ae.take m).drop l,r.length=sz:=λr hr=>s.1 r (pY (List.mem_of_mem_drop hr));rcases s.2 with⟨k,s',rfl,hk⟩|⟨b,off,aF,cs,rfl,h2,h3,h4,h5⟩
 ·have lY:hJ ae.length av ae.length=aa ae.length:=rfl;have bB:sz=s'∨ae=[]:=by
   by_cases q:ae=[]
   ·exact .inr q
   ·exact .inl (hk q).symm
  refine⟨.list (xY k (decide (m=ae.length)) aB (m - l)) s' ((ae.take m).drop l),?_,jO,.inl ⟨_,_,rfl,λq=>hk (by rintro rfl;simp at q)⟩⟩;unfold jc;simp only[hu,hs,lY,bound ae.length (aL _),bound0,Cl,yT,kj,if_false,aH bB,Option.isNone_none,Bool.and_true]
 ·have lY:hJ aF av aF=aa aF:=rfl;have bR:((ae.take m).drop l).length=m - l:=by rw[iC,fm];omega
  refine⟨.arr b (if aF=l then off else off+l * sz) (m - l) (aF - l),?_,jO,.inr ⟨b,_,aF - l,cs,by rw[bR],by omega,h3,?_,?_⟩⟩
  ·unfold jc;simp only[hu,hs,lY,bound aF h2,bound0,Cl,yT,kj,if_false,false_and];rw[aJ ai]
  ·rw[bR];by_cases q:aF=l
   ·have:m - l=0:=(by omega);rw[aH q,this,Hj,gF];have:(ae.take m).drop l=[]:=(by apply List.eq_nil_of_length_eq_zero;rw[bR];omega);rw[this];rfl
   ·rw[aJ q,Xe (λr hr=>s.1 r (pY hr)),Ps s.1,<-h4,Uz,<-y5];have e1:min (m * sz) (ae.length * sz)=m * sz:=Ey (pg _ hm);rw[e1,Ut,<-Nat.sub_mul]
  ·rw[bR];have e1:m * sz<=ae.length * sz:=pg _ hm;have e2:(m - l) * sz+l * sz=m * sz:=(by rw[<-gZ,Nat.sub_add_cancel Db]);split<;>omega
def eu.got(s:eu sz h x ae):rowsOf h sz x=aa ae:=by
 rcases s.2 with⟨k,s',rfl,hk⟩|⟨b,off,aF,cs,rfl,h2,h3,h4,h5⟩
 ·unfold rowsOf;by_cases q:ae=[]
  ·simp[q]
  ·simp[hk q]
 ·unfold rowsOf;simp only[h3,aH h5,eg];apply Kc
  ·simp
  ·intro i h1 h6;rw[qx,B8];have:=Pq s.1 (aU h6);rw[<-h4,Ut,Uz,y5] at this;rw[<-this];congr 1;have:(i+1) * sz<=ae.length * sz:=pg _ h6;rw[gZ] at this;omega
def eu.news(s:eu sz h x ae):np h sz x=aa ae:=by have:=s.got;rcases s.2 with⟨k,s',rfl,-⟩|⟨b,off,aF,cs,rfl,-⟩<;>exact this
end
end Go.AE
end
section
namespace Go.AE
section
variable {P:bL} {G:Nat->Option (List AV)} {t:aP} {x y:bU} {k k':uZ} {a b:Int}
def ug:dn P .and t x y (.v (.int k a)) (.v (.int k b))=aa (.v (.int k (k.wrap (BitVec.ofInt k.bits a&&&BitVec.ofInt k.bits b).toNat))):=tg (v:=.int k (k.wrap (BitVec.ofInt k.bits a&&&BitVec.ofInt k.bits b).toNat)) (by simp[binOp,Op.intBits];rfl)
def OO:dn P .or t x y (.v (.int k a)) (.v (.int k b))=aa (.v (.int k (k.wrap (BitVec.ofInt k.bits a|||BitVec.ofInt k.bits b).toNat))):=tg (v:=.int k (k.wrap (BitVec.ofInt k.bits a|||BitVec.ofInt k.bits b).toNat)) (by simp[binOp,Op.intBits];rfl)
def Vz:dn P .xor t x y (.v (.int k a)) (.v (.int k b))=aa (.v (.int k (k.wrap (BitVec.ofInt k.bits a^^^BitVec.ofInt k.bits b).toNat))):=tg (v:=.int k (k.wrap (BitVec.ofInt k.bits a^^^BitVec.ofInt k.bits b).toNat)) (by simp[binOp,Op.intBits];rfl)
def OP(h:0<=b):dn P .shl t x y (.v (.int k a)) (.v (.int k' b))=aa (.v (.int k (k.wrap (a * 2^min b.toNat k.bits)))):=by
 have hn:¬b<0:=by omega
 show(gJ P (do eqGuard .shl t x y (.int k a) (.int k' b);binOp .shl t (.int k a) (.int k' b))).bind pQ=_;rw[yA];have hg:gJ P (eqGuard .shl t x y (.int k a) (.int k' b))=aa ():=rfl;rw[hg];simp[binOp,Op.shift,hn];rfl
def Cr(h:0<=b):dn P .shr t x y (.v (.int k a)) (.v (.int k' b))=aa (.v (.int k (a.fdiv (2^min b.toNat k.bits)))):=by
 have hn:¬b<0:=by omega
 show(gJ P (do eqGuard .shr t x y (.int k a) (.int k' b);binOp .shr t (.int k a) (.int k' b))).bind pQ=_;rw[yA];have hg:gJ P (eqGuard .shr t x y (.int k a) (.int k' b))=aa ():=rfl;rw[hg];simp[binOp,Op.shift,hn];rfl
end
def aX(v:BitVec 32):AV:=.v (.int .u32 (v.toNat:Int))
section
variable {P:bL} {t:aP} {x y:bU} {k':uZ} {u v:BitVec 32}
def wrap32(n):IntKind.u32.wrap n=n%4294967296:=by unfold IntKind.wrap;simp[IntKind.signed,IntKind.bits]
def ofInt32(v):BitVec.ofInt 32 (v.toNat:Int)=v:=by apply BitVec.eq_of_toNat_eq;rw[BitVec.toNat_ofInt];have:=v.isLt;simp;omega
def Ns(v:BitVec 32):IntKind.u32.wrap (v.toNat:Int)=(v.toNat:Int):=by rw[wrap32];have:=v.isLt;omega
def EG:dn P .and t x y (aX u) (aX v)=aa (aX (u&&&v)):=by unfold aX;rw[ug,show IntKind.u32.bits=32 from rfl,ofInt32,ofInt32,Ns]
def qo:dn P .or t x y (aX u) (aX v)=aa (aX (u|||v)):=by unfold aX;rw[OO,show IntKind.u32.bits=32 from rfl,ofInt32,ofInt32,Ns]
def pS:dn P .xor t x y (aX u) (aX v)=aa (aX (u^^^v)):=by unfold aX;rw[Vz,show IntKind.u32.bits=32 from rfl,ofInt32,ofInt32,Ns]
def po:dn P .add t x y (aX u) (aX v)=aa (aX (u+v)):=by unfold aX;rw[Vy,wrap32,BitVec.toNat_add];congr 3
def tV{n:Nat}(hn:n<32):dn P .shr t x y (aX u) (.v (.int k' (n:Int)))=aa (aX (u>>>n)):=by unfold aX;rw[Cr ai,dW,show IntKind.u32.bits=32 from rfl,Ey ai,BitVec.toNat_ushiftRight,Nat.shiftRight_eq_div_pow];congr 3;rw[GK _ (by have:(0:Int)<2^n:=adI aZ;omega)];simp
def sP{n:Nat}(hn:n<32):dn P .shl t x y (aX u) (.v (.int k' (n:Int)))=aa (aX (u<<<n)):=by unfold aX;rw[OP ai,dW,show IntKind.u32.bits=32 from rfl,Ey ai,wrap32,BitVec.toNat_shiftLeft,Ck];congr 3
end
end Go.AE
end
section
namespace Go.AE
section
variable {P:bL} {h:ar} {t0 t1 elem:aP} {kn k:uZ} {i:TypeInfo} {zero:List AV} {sz n:Nat}
def Vq(h0:P.underlying t0=aa (.slice elem))(h1:P.underlying t1=aa (.int kn))(hi:P.info? elem=aa i)(hz:(iB P elem).bind AV.cd=aa zero)(hn:0<n)(hb:n * i.bytes<=140737488355328)(hm:n<=9223372036854775807)(hs:0<i.size)(hl:zero.length=i.size):
 hU P h #[t0,t1] (.list .nil sz []) (.v (.int k (n:Nat)))=aa (.arr h.boxes.length 0 n n,h.push (br n zero).flatten):=by
 unfold hU Nv;have gi:((n:Nat):Int) * i.bytes<=140737488355328:=by
  have:((n * i.bytes:Nat):Int)<=140737488355328:=Int.ofNat_le.2 hb
  rwa [yY] at this
 simp only[jI,lu,qw,qB,h0,h1,hi,hz];rw[aH ⟨rfl,by omega,gi,by omega,hs,hl⟩,dW];rfl
def Vo{b off len aF:Nat}{cs:List AV}{new:List (List AV)}{x:AV}(h0:P.underlying t0=aa (.slice elem))(h1:P.underlying t1=aa (.slice elem))(hi:P.info? elem=aa i)(hs:0<i.size)(hz:(i.zero.map λz=>z.cells.size)=aa i.size)
 (hx:np h i.size x=aa new) (hb:h.boxes[b]?=aa cs) (h2:len+new.length<=aF) (h3:off+aF * i.size<=cs.length):
 hU P h #[t0,t1] (.arr b off len aF) x=aa (.arr b off (len+new.length) aF,h.put b (fe cs (off+len * i.size) new.flatten)):=by
 unfold hU;simp only[jI,lu,qw,qB,h0,h1,hi,hx,hb];rw[aH ⟨hs,hz⟩,aH ⟨h2,h3⟩];rfl
end
end Go.AE
end
section
namespace Go.AE
def sV(t:Nat):Tok->Bool
 | .free i=>decide (i<t)
 |_=>ah
mutual
def aK(n l t:Nat):AV->Bool
 | .list k _ es=>sV t k&&ie n l t es
 | .arr b _ _ _=>decide (b<n)
 | .agg cs=>aR n l t cs
 | .tuple cs=>aR n l t cs
 | .ptr (.box b) _=>decide (b<n)
 | .elem _ es _ _=>ie n l t es
 | .func _ a b=>aR n l t a&&aR n l t b
 | .yield i=>decide (i<l)
 | .iface _ x=>aK n l t x
 |_=>ah
def aR(n l t:Nat):List AV->Bool
 | []=>ah
 |x::r=>aK n l t x&&aR n l t r
def ie(n l t:Nat):List (List AV)->Bool
 | []=>ah
 |r::rs=>aR n l t r&&ie n l t rs
end
def WV(n l t):∀(a b:List AV),aR n l t (a++b)=(aR n l t a&&aR n l t b)
 | [],b=>by simp[aR]
 |x::a,b=>by rw[lO,aR,aR,WV n l t a b,adp]
def um(n l t):∀es:List (List AV),aR n l t es.flatten=ie n l t es
 | []=>rfl
 |r::es=>by rw[pW,WV,ie,um n l t es]
def bX:Tok->Tok
 | .free _=>.held
 |k=>k
mutual
def aD:AV->AV
 | .list k sz es=>.list (bX k) sz (fj es)
 | .tuple cs=>.tuple (bZ cs)
 | .agg cs=>.agg (bZ cs)
 | .iface t x=>.iface t (aD x)
 |x=>x
def bZ:List AV->List AV
 | []=>[]
 |x::r=>aD x::bZ r
def fj:List (List AV)->List (List AV)
 | []=>[]
 |r::rs=>bZ r::fj rs
end
def Y1:∀a b:List AV,bZ (a++b)=bZ a++bZ b
 | [],b=>rfl
 |x::a,b=>by rw[lO,bZ,Y1 a b,bZ,lO]
def Fu:∀es:List (List AV),(fj es).flatten=bZ es.flatten
 | []=>rfl
 |r::es=>by rw[fj,pW,pW,Y1,Fu es]
def Y5:∀a:List AV,(bZ a).length=a.length
 | []=>rfl
 |x::a=>by rw[bZ,jd,Y5 a,jd]
def Ix:∀a:List (List AV),(fj a).length=a.length
 | []=>rfl
 |x::a=>by rw[fj,jd,Ix a,jd]
def Ls{sz}:∀{es:List (List AV)},(∀r∈es,r.length=sz)->∀r∈fj es,r.length=sz
 | [],_,r,h=>by cases h
 |a::es,h,r,hr=>by
  rw[fj] at hr;rcases iU.1 hr with rfl|hr
  ·rw[Y5];exact h a gq
  ·exact Ls (λr hr=>h r (fM _ hr)) r hr
def alY(x):(aD x).eH=x.eH:=by cases x<;>rfl
def QI:∀a:List AV,(bZ a).all AV.eH=a.all AV.eH
 | []=>rfl
 |x::a=>by rw[bZ,GP,alY,QI a,GP]
section
variable {K:a8}
def axb{b g:Nat}(h:K.γ[b]?=aa g):b<K.γ.length:=(aW.1 h).1
mutual
def a9.fit:∀{x:AV} {c:aT},a9 K x c->aK K.β.length K.γ.length K.tn x=ah
 |_,_,.bad _=>rfl
 |_,_,.v _ _=>rfl
 |_,_,.nil _=>rfl
 |_,_,.jH _ _=>rfl
 |_,_,.list k _ es _ _ _ _ _ _ _ hv _ ht _=>by
  rw[aK,bI,<-um];refine⟨?_,aV.fit hv⟩;cases k with|free i=>exact b8 ht.2.1|_=>rfl
 |_,_,.arr _ _ _ _ _ _ _ hb _ _ _ _=>by rw[aK];exact b8 (Nw hb)
 |_,_,.agg _ _ hv=>by rw[aK];exact aV.fit hv
 |_,_,.tuple _ _ hv=>by rw[aK];exact aV.fit hv
 |_,_,.box _ _ _ hb=>by rw[aK];exact b8 (Nw hb)
 |_,_,.fb _ _=>rfl
 |_,_,.elem _ es _ _ _ _ _ _ _ hv _ _ _ _=>by rw[aK,<-um];exact aV.fit hv
 |_,_,.func _ _ _ _ _ h1 h2=>by rw[aK,aV.fit h1,aV.fit h2];rfl
 |_,_,.yield _ _ hl=>by rw[aK];exact b8 (axb hl)
 |_,_,.iface _ _ _ hx=>by rw[aK];exact a9.fit hx
def aV.fit:∀{xs:List AV} {cs:List aT},aV K xs cs->aR K.β.length K.γ.length K.tn xs=ah
 |_,_,.nil=>rfl
 |_,_,.cons _ _ _ _ hx hs=>by rw[aR,a9.fit hx,aV.fit hs];rfl
end
mutual
def a9.yv{K2:a8}{n l t:Nat}(hβ:∀b g:Nat,b<n->K.β[b]?=aa g->K2.β[b]?=aa g)(hγ:∀b g:Nat,b<l->K.γ[b]?=aa g->K2.γ[b]?=aa g)(jh:∀g j c,K.ic g j=aa c->K2.ic g j=aa c)(wS:K2.tk=K.tk)(uI:K2.tn=t)(ox:∀b,b<n->K2.lb b=K.lb b):
 ∀{x:AV} {c:aT},a9 K x c->aK n l t x=ah->a9 K2 x c
 |_,_,.bad c,_=>.bad c
 |_,_,.v x hx,_=>.v x hx
 |_,_,.nil sz,_=>.nil sz
 |_,_,.jH sz a,_=>.jH sz a
 |_,_,.list k sz es g off m aF cells hn hr hv hc ht ha,h=>by
  rw[aK,bI] at h;refine .list k sz es g off m aF cells hn hr (aV.yv hβ hγ jh wS uI ox hv (by rw[um];exact h.2)) (λj c hj=>jh _ _ _ (hc j c hj)) ⟨ht.1,?_⟩ ha;have h1:=h.1;have h2:=ht.2;cases k with|free i=>simp only at h2 ⊢;rw[wS,uI];exact⟨of_decide_eq_true h1,h2.2⟩|_=>exact h2
 |_,_,.arr b g off len aF fP iX hb hl hc ho hr,h=>by rw[aK] at h;have aC:=of_decide_eq_true h;exact .arr b g off len aF fP iX (hβ _ _ aC hb) hl hc ho (by rw[ox b aC];exact hr)
 |_,_,.agg cs vs hv,h=>.agg cs vs (aV.yv hβ hγ jh wS uI ox hv (by rw[aK] at h;exact h))
 |_,_,.tuple cs vs hv,h=>.tuple cs vs (aV.yv hβ hγ jh wS uI ox hv (by rw[aK] at h;exact h))
 |_,_,.box b g off hb,h=>.box b g off (hβ _ _ (by rw[aK] at h;exact of_decide_eq_true h) hb)
 |_,_,.fb g off,_=>.fb g off
 |_,_,.elem sz es i off g o p cells hr hv hc hi hp ha,h=>.elem sz es i off g o p cells hr (aV.yv hβ hγ jh wS uI ox hv (by rw[um];rw[aK] at h;exact h)) (λj c hj=>jh _ _ _ (hc j c hj)) hi hp ha
 |_,_,.func fn first aF fs cs h1 h2,h=>.func fn first aF fs cs (aV.yv hβ hγ jh wS uI ox h1 (by rw[aK,bI] at h;exact h.1)) (aV.yv hβ hγ jh wS uI ox h2 (by rw[aK,bI] at h;exact h.2))
 |_,_,.yield i g hl,h=>.yield i g (hγ _ _ (by rw[aK] at h;exact of_decide_eq_true h) hl)
 |_,_,.iface t x c hx,h=>.iface t x c (a9.yv hβ hγ jh wS uI ox hx (by rw[aK] at h;exact h))
def aV.yv{K2:a8}{n l t:Nat}(hβ:∀b g:Nat,b<n->K.β[b]?=aa g->K2.β[b]?=aa g)(hγ:∀b g:Nat,b<l->K.γ[b]?=aa g->K2.γ[b]?=aa g)(jh:∀g j c,K.ic g j=aa c->K2.ic g j=aa c)(wS:K2.tk=K.tk)(uI:K2.tn=t)(ox:∀b,b<n->K2.lb b=K.lb b):
 ∀{xs:List AV} {cs:List aT},aV K xs cs->aR n l t xs=ah->aV K2 xs cs
 |_,_,.nil,_=>.nil
 |_,_,.cons x c xs cs hx hs,h=>.cons x c xs cs (a9.yv hβ hγ jh wS uI ox hx (by rw[aR,bI] at h;exact h.1)) (aV.yv hβ hγ jh wS uI ox hs (by rw[aR,bI] at h;exact h.2))
end
mutual
def a9.hold:∀{x:AV} {c:aT},a9 K x c->a9 K (aD x) c
 |_,_,.bad c=>.bad c
 |_,_,.v x hx=>.v x hx
 |_,_,.nil sz=>.nil sz
 |_,_,.jH sz a=>.jH sz a
 |_,_,.list k sz es g off m aF cells hn hr hv hc ht ha=>by
  have rG:aV K (fj es).flatten cells:=by rw[Fu];exact aV.hold hv
  have nN:(fj es).flatten.all AV.eH=ah:=by rw[Fu,QI];exact ha
  have Fs:m=(fj es).length:=by rw[Ix];exact hn
  cases k with|free i=>exact .list .held sz _ g off m aF cells Fs (Ls hr) rG hc ⟨ht.1,aY⟩ nN|_=>exact .list _ sz _ g off m aF cells Fs (Ls hr) rG hc ht nN
 |_,_,.arr b g off len aF fP iX hb hl hc ho hr=>.arr b g off len aF fP iX hb hl hc ho hr
 |_,_,.agg cs vs hv=>.agg _ vs (aV.hold hv)
 |_,_,.tuple cs vs hv=>.tuple _ vs (aV.hold hv)
 |_,_,.box b g off hb=>.box b g off hb
 |_,_,.fb g off=>.fb g off
 |_,_,.elem sz es i off g o p cells hr hv hc hi hp ha=>.elem sz es i off g o p cells hr hv hc hi hp ha
 |_,_,.func fn first aF fs cs h1 h2=>.func fn first aF fs cs h1 h2
 |_,_,.yield l g hl=>.yield l g hl
 |_,_,.iface t x c hx=>.iface t _ c (a9.hold hx)
def aV.hold:∀{xs:List AV} {cs:List aT},aV K xs cs->aV K (bZ xs) cs
 |_,_,.nil=>.nil
 |_,_,.cons x c xs cs hx hs=>.cons _ c _ cs (a9.hold hx) (aV.hold hs)
end
end
section
variable {P:bL} {G:Nat->Option (List AV)} {w0 w w':World} {K K':a8} {h h':ar} {ok:bq->Nat->Code->Bool}
end
end Go.AE
end
section
namespace Go.AE
section
variable {P:bL} {G:Nat->Option (List AV)} {w0:World} {aQ:bq->Option (List AV->ar->Option (AV × ar))}
def uh{L:List bq}(h:(L.all λg=>match P.funcs[g]? with|some fn=>fn.body.isSome|none=>aB)=ah):∀g∈L,∃fn,P.funcs[g]?=aa fn/\fn.body.isSome=ah:=by
 intro g hg;have:=eK.1 h g hg;split at this
 ·rename_i fn iG;exact⟨fn,iG,this⟩
 ·cases this
variable {L:List bq} {R:Rec} {g:bq} {args:List AV} {h h2:ar} {x y:AV}
end
end Go.AE
end
section
namespace Go.NT
def eZ:List Nat->Nat
 | []=>0
 |x::l=>x+eZ l
def nw:List Int->Int
 | []=>1
 |x::l=>x * nw l
def acP{l m}(h:l.Perm m):eZ l=eZ m:=by
 induction h with
 |nil=>rfl|cons x _ ih=>simp only[eZ,ih]|swap x y l=>simp only[eZ];omega|trans _ _ h1 h2=>exact h1.trans h2
def apH{l m}(h:l.Perm m):nw l=nw m:=by
 induction h with
 |nil=>rfl|cons x _ ih=>simp only[nw,ih]|swap x y l=>simp only[nw];rw[Ep]|trans _ _ h1 h2=>exact h1.trans h2
def acO(l m):eZ (l++m)=eZ l+eZ m:=by
 induction l with
 |nil=>simp[eZ]|cons x l ih=>simp only[lO,eZ,ih];omega
def fQ(h:Nat):List Nat:=List.range' 1 h
def wW{k h}:k∈fQ h↔1<=k/\k<=h:=by
 unfold fQ;rw[List.mem_range'];constructor
 ·rintro⟨i,hi,rfl⟩;omega
 ·rintro⟨h1,h2⟩;exact⟨k - 1,by omega,by omega⟩
def abu(h):fQ (h+1)=fQ h++[h+1]:=by unfold fQ;rw[List.range'_1_concat,aej 1 h]
def SG(h):(fQ h).length=h:=by simp[fQ]
def arV(h):(fQ h).Nodup:=List.nodup_range' 1
def ao2:∀{l m:List Nat},l.Nodup->(∀x∈l,x∈m)->m.length<=l.length->l.Perm m:=by
 intro l
 induction l with
 |nil=>
  intro m _ _ bR;have:m=[]:=by cases m with|nil=>rfl|cons _ _=>simp at bR
  subst this;exact .nil
 |cons x l ih=>
  intro m hl hs bR;have hx:=hs x gq;have hp:=List.perm_cons_erase hx;rw[GX] at hl;refine List.Perm.trans (.cons x (ih hl.2 (λy hy=>?_) ?_)) hp.symm
  ·have bG:y≠x:=(by rintro rfl;exact hl.1 hy);exact(List.mem_erase_of_ne bG).2 (hs y (fM _ hy))
  ·rw[List.length_erase_of_mem hx];simp at bR;omega
def an3{f:Nat->Nat}:∀{l:List Nat},l.Nodup->(∀x∈l,∀y∈l,f x=f y->x=y)->(l.map f).Nodup:=by
 intro l
 induction l with
 |nil=>intro _ _;exact List.nodup_nil|cons x l ih=>intro h hf;rw[GX] at h;rw[eL,GX];refine⟨λhm=>?_,ih h.2 λa ha b hb=>hf a (fM _ ha) b (fM _ hb)⟩;obtain⟨y,hy,he⟩:=kC.1 hm;have:=hf y (fM _ hy) x gq he;subst this;exact h.1 hy
def fl(a n k:Nat):Nat:=if n<2 * (a * k%n) then 1 else 0
def ab(a n k:Nat):Nat:=if n<2 * (a * k%n) then n - a * k%n else a * k%n
def mu(a n:Nat):Nat:=eZ ((fQ (n/2)).map (fl a n))
section
variable {a b n h:Nat}
def abm(hc:o9 a n){k:Nat}(h0:0<k)(h1:k<n):a * k%n≠0:=λq=>by have:n∣k:=(Od hc).dvd_of_dvd_mul_left (G9 q);have:=Ex h0 this;omega
def U4(hn:n=2 * h+1)(hc:o9 a n){k:Nat}(hk:1<=k/\k<=h):1<=ab a n k/\ab a n k<=h:=by have h1:=abm hc (k:=k) ai ai;have h2:=nF (a * k) (ai:0<n);unfold ab;split<;>omega
def aeY(hn:n=2 * h+1)(hc:o9 a n){k l:Nat}(hk:1<=k/\k<=h)(hl:1<=l/\l<=h)(he:ab a n k=ab a n l):k=l:=by
 have Bo:=nF (a * k) (ai:0<n);have pG:=nF (a * l) (ai:0<n);have key:∀{x y:Nat},x<=y->y<n->a * x%n=a * y%n->x=y:=by
  intro x y ZD hy q;have hd:n∣a * y - a * x:=G9 (Nat.sub_mod_eq_zero_of_mod_eq q.symm);rw[<-Nat.mul_sub] at hd;have:=(Od hc).dvd_of_dvd_mul_left hd;rcases Hc (y - x) with q|q
  ·omega
  ·have:=Ex q this;omega
 have key2:a * k%n+a * l%n≠n:=λq=>by
  have hd:n∣a * (k+l):=by rw[UC];apply G9;rw[Kj,q,Nat.mod_self]
  have:=(Od hc).dvd_of_dvd_mul_left hd;have:=Ex ai this;omega
 have same:a * k%n=a * l%n->k=l:=λq=>by
  rcases Nat.le_total k l with p|p
  ·exact key p ai q
  ·exact(key p ai q.symm).symm
 unfold ab at he;split at he<;>split at he
 ·exact same ai
 ·exact absurd ai key2
 ·exact absurd ai key2
 ·exact same he
def Si(hn:n=2 * h+1)(hc:o9 a n):((fQ h).map (ab a n)).Perm (fQ h):=by refine ao2 (an3 (arV h) λx hx y hy he=>aeY hn hc (wW.1 hx) (wW.1 hy) he) (λx hx=>?_) bJ;obtain⟨y,hy,rfl⟩:=kC.1 hx;exact wW.2 (U4 hn hc (wW.1 hy))
def acS{f g q}:∀{l:List Nat},(∀k∈l,f k%2=(g k+q k)%2)->eZ (l.map f)%2=(eZ (l.map g)+eZ (l.map q))%2:=by
 intro l
 induction l with
 |nil=>intro _;rfl|cons x l ih=>intro hf;have h1:=hf x gq;have h2:=ih λk hk=>hf k (fM _ hk);simp only[eL,eZ];omega
def ajY(hn:n=2 * h+1)(ha:o9 a n)(hb:o9 b n){k:Nat}(hk:1<=k/\k<=h):fl (a * b) n k%2=(fl b n k+fl a n (ab b n k))%2:=by
 have hbr:=U4 hn hb hk;have hx0:=abm ha (k:=ab b n k) ai ai;have dR:=nF (a * ab b n k) (ai:0<n);have cU:=nF (b * k) (ai:0<n);have e1:a * b * k%n=a * (b * k%n)%n:=by rw[Oh,aer]
 unfold fl;rw[e1];by_cases hr:n<2 * (b * k%n)
 ·have Fc:ab b n k=n - b * k%n:=by unfold ab;rw[aH hr]
  rw[aH hr];have zR:=nF (a * (b * k%n)) (ai:0<n);have hs:(a * (b * k%n)%n+a * ab b n k%n)%n=0:=by rw[<-Kj,<-UC,Fc,(ai:b * k%n+(n - b * k%n)=n),Nat.mul_mod_left]
  have Bx:a * (b * k%n)%n+a * ab b n k%n=n:=by
   have hd:=G9 hs;obtain⟨c,hc⟩:=hd;rcases c with _|_|c
   ·omega
   ·omega
   ·exfalso;have:n * 2<=n * (c+1+1):=aeq n ai;omega
  split<;>split<;>omega
 ·have Fc:ab b n k=b * k%n:=by unfold ab;rw[aJ hr]
  rw[aJ hr,Fc];simp
def anQ(hn:n=2 * h+1)(ha:o9 a n)(hb:o9 b n):mu (a * b) n%2=(mu a n+mu b n)%2:=by
 have hh:n/2=h:=by omega
 unfold mu;rw[hh,acS (g:=fl b n) (q:=λk=>fl a n (ab b n k)) λk hk=>ajY hn ha hb (wW.1 hk)];have e:(fQ h).map (λk=>fl a n (ab b n k))=((fQ h).map (ab b n)).map (fl a n):=by rw[Ca];rfl
 rw[e,acP ((Si hn hb).map (fl a n))];omega
def acQ(c):∀m:Nat,eZ ((fQ m).map λk=>if c<k then 1 else 0)=m - c:=by
 intro m
 induction m with
 |zero=>simp[fQ,eZ]|succ m ih=>rw[abu,mY,acO,ih];simp only[eL,wc,eZ];split<;>omega
def avB(c):∀m:Nat,eZ ((fQ m).map λk=>if k<=c then 1 else 0)=min c m:=by
 intro m
 induction m with
 |zero=>simp[fQ,eZ]|succ m ih=>rw[abu,mY,acO,ih];simp only[eL,wc,eZ];split<;>omega
def Ng{f g}:∀{l:List Nat},(∀k∈l,f k=g k)->eZ (l.map f)=eZ (l.map g):=by
 intro l
 induction l with
 |nil=>intro _;rfl|cons x l ih=>intro hf;simp only[eL,eZ];rw[hf x gq,ih λk hk=>hf k (fM _ hk)]
def anS(hn:n=2 * h+1):mu 2 n=h - h/2:=by
 have hh:n/2=h:=by omega
 unfold mu;rw[hh,<-acQ (h/2) h];refine Ng λk hk=>?_;have:=wW.1 hk;unfold fl;rw[oJ ai];split<;>split<;>omega
def anR(hn:n=2 * h+1):mu 1 n=0:=by
 have hh:n/2=h:=by omega
 unfold mu;rw[hh];have:(fQ h).map (fl 1 n)=(fQ h).map λk=>if h<k then 1 else 0:=by apply Kf;intro k hk;have:=wW.1 hk;unfold fl;rw[Ez,oJ ai];split<;>split<;>omega
 rw[this,acQ];omega
def anP:mu (a%n) n=mu a n:=by unfold mu;refine Ng λk _=>?_;unfold fl;rw[UB]
def aap(hn:n=2 * h+1)(hc:o9 a n)(ha:a%2=1):mu a n%2=eZ ((fQ h).map λk=>a * k/n)%2:=by
 have hh:n/2=h:=by omega
 have step:∀k∈fQ h,fl a n k%2=((a * k/n)+(ab a n k+k))%2:=by
  intro k _;have hd:=UA (a * k) n;have hr:=nF (a * k) (ai:0<n);have p1:a * k%2=k%2:=by rw[uc,ha];simp
  have p2:n * (a * k/n)%2=(a * k/n)%2:=by rw[uc,(ai:n%2=1)];simp
  generalize n * (a * k/n)=u at *
  generalize a * k/n=v at *
  unfold fl ab;generalize a * k%n=r at *
  split<;>omega
 unfold mu;rw[hh,acS step];have e:eZ ((fQ h).map λk=>ab a n k+k)=eZ ((fQ h).map (ab a n))+eZ ((fQ h).map λk=>k):=by
  generalize fQ h=l
  induction l with
  |nil=>rfl|cons x l ih=>simp only[eL,eZ];rw[ih];omega
 rw[e,acP (Si hn hc),List.map_id'];omega
end
def akc(f:Nat->Nat->Nat):∀(l m:List Nat),eZ (l.map λk=>eZ (m.map λj=>f k j))=eZ (m.map λj=>eZ (l.map λk=>f k j)):=by
 intro l m
 induction l with
 |nil=>
  simp only[wc,eZ]
  induction m with
  |nil=>rfl|cons x m ih=>simp only[eL,eZ];rw[<-ih]
 |cons x l ih=>
  simp only[eL,eZ];rw[ih];clear ih
  induction m with
  |nil=>rfl|cons y m ih=>simp only[eL,eZ];rw[<-ih];omega
def Xg{m n g h k}(hn:n=2 * h+1)(hm:m=2 * g+1)(hk:k<=h):m * k/n=eZ ((fQ g).map λl=>if n * l<=m * k then 1 else 0):=by
 have eX:m * k/n<=g:=by
  have:m * k/n<g+1:=by rw[Nat.div_lt_iff_lt_mul ai];have h1:m * k<=m * h:=aeq m hk;have h2:(g+1) * n=m * h+(g+1+h):=(by subst hn hm;simp only[gZ,UC,ph,Ez];have:g * (2 * h)=2 * g * h:=(by rw[Oi 2 g,Oh]);omega);omega
  omega
 have:(fQ g).map (λl=>if n * l<=m * k then 1 else 0)=(fQ g).map λl=>if l<=m * k/n then 1 else 0:=by
  apply Kf;intro l _;have:(n * l<=m * k)↔l<=m * k/n:=by rw[Nat.le_div_iff_mul_le ai,Oi]
  simp only[this]
 rw[this,avB];omega
def amN{m n g h}(hn:n=2 * h+1)(hm:m=2 * g+1)(hc:o9 m n):
 eZ ((fQ h).map λk=>m * k/n)+eZ ((fQ g).map λl=>n * l/m)=h * g:=by
 have e1:eZ ((fQ h).map λk=>m * k/n)=eZ ((fQ h).map λk=>eZ ((fQ g).map λl=>if n * l<=m * k then 1 else 0)):=
  Ng λk hk=>Xg hn hm (wW.1 hk).2
 have e2:eZ ((fQ g).map λl=>n * l/m)=eZ ((fQ g).map λl=>eZ ((fQ h).map λk=>if m * k<=n * l then 1 else 0)):=
  Ng λl hl=>Xg hm hn (wW.1 hl).2
 rw[e1,e2,akc (λl k=>if m * k<=n * l then 1 else 0)];have one:∀k∈fQ h,∀l∈fQ g,(if n * l<=m * k then 1 else 0)+(if m * k<=n * l then 1 else 0)=1:=by
  intro k hk l hl;have hk:=wW.1 hk;have bG:m * k≠n * l:=λq=>by have hd:n∣m * k:=⟨l,q⟩;have:=(Od hc).dvd_of_dvd_mul_left hd;have:=Ex ai this;omega
  split<;>split<;>omega
 have inner:∀(k:Nat) (ls:List Nat),k∈fQ h->(∀l∈ls,l∈fQ g)->eZ (ls.map λl=>if n * l<=m * k then 1 else 0)+eZ (ls.map λl=>if m * k<=n * l then 1 else 0)=ls.length:=by
  intro k ls hk
  induction ls with
  |nil=>intro _;rfl|cons x ls ih=>intro hs;have h1:=one k hk x (hs x gq);have h2:=ih λl hl=>hs l (fM _ hl);simp only[eL,eZ,jd];omega
 have outer:∀(ks:List Nat),(∀k∈ks,k∈fQ h)->eZ (ks.map λk=>eZ ((fQ g).map λl=>if n * l<=m * k then 1 else 0))+eZ (ks.map λk=>eZ ((fQ g).map λl=>if m * k<=n * l then 1 else 0))=ks.length * g:=by
  intro ks
  induction ks with
  |nil=>intro _;simp[eZ]|cons x ks ih=>intro hs;have h1:=inner x (fQ g) (hs x gq) (λ_ h=>h);rw[SG] at h1;have h2:=ih λl hl=>hs l (fM _ hl);simp only[eL,eZ,jd,gZ,Ez];omega
 have:=outer (fQ h) (λ_ h=>h);rw[SG] at this;exact this
def aqj{m n g h}(hn:n=2 * h+1)(hm:m=2 * g+1)(hc:o9 m n):(mu m n+mu n m)%2=h * g%2:=by have e1:=aap hn hc ai;have e2:=aap hm hc.symm ai;have:=amN hn hm hc;rw[Kj,e1,e2,<-Kj,this]
end Go.NT
end
section
namespace Go.NT
def R2:∀c:Nat,(1:Int)^c=1:=by
 intro c
 induction c with
 |zero=>rfl|succ c ih=>rw[yZ,ih];rfl
def zU(p:Nat):Prop:=2<=p/\∀d,d∣p->d=1∨d=p
def zU.coprime{p k}(hp:zU p)(h0:0<k)(h1:k<p):Nat.Coprime k p:=by
 have hd:Nat.gcd k p∣p:=Nat.gcd_dvd_right k p;rcases hp.2 _ hd with q|q
 ·exact q
 ·have:=Ex h0 (Nat.gcd_dvd_left k p);omega
def apJ(a):∀l:List Nat,nw (l.map λ(k:Nat)=>a * (k:Int))=a^l.length * nw (l.map λ(k:Nat)=>(k:Int)):=by
 intro l
 induction l with
 |nil=>simp[nw]|cons x l ih=>simp only[eL,nw,ih,jd,yZ];rw[yX,yX,Ep (x:Int),<-yX a,AG a,yX]
def apK(f)(g):∀l:List Nat,nw (l.map λk=>(-1)^f k * g k)=(-1)^eZ (l.map f) * nw (l.map g):=by
 intro l
 induction l with
 |nil=>simp[nw,eZ]|cons x l ih=>simp only[eL,nw,eZ,ih,Um];rw[yX,yX,Ep (g x)]
def apI{p}{f g}:∀{l:List Nat},(∀k∈l,p∣f k - g k)->p∣nw (l.map f) - nw (l.map g):=by
 intro l
 induction l with
 |nil=>intro _;simp[nw]|cons x l ih=>
  intro h;have h1:=h x gq;have h2:=ih λk hk=>h k (fM _ hk);simp only[eL,nw];generalize nw (l.map f)=F at *
  generalize nw (l.map g)=G at *
  have e:f x * F - g x * G=(f x - g x) * F+g x * (F - G):=by rw[NS,AH];omega
  rw[e];exact yW (Int.dvd_mul_of_dvd_left h1) (GJ h2)
def cancel{p}(hp:zU p):∀(l:List Nat) (x:Int),(∀k∈l,0<k/\k<p)->(p:Int)∣x * nw (l.map λ(k:Nat)=>(k:Int))->(p:Int)∣x:=by
 intro l
 induction l with
 |nil=>intro x _ h;simpa [nw] using h|cons k l ih=>
  intro x hk h;obtain⟨h0,h1⟩:=hk k gq;refine ih x (λj hj=>hk j (fM _ hj)) ?_;simp only[eL,nw] at h;rw[Ep] at h;generalize x * nw (l.map λ(k:Nat)=>(k:Int))=y at *
  have hn:=adD.2 h;rw[Int.natAbs_mul,Ui,Ui] at hn;have:=(hp.coprime h0 h1).symm.dvd_of_dvd_mul_left hn;exact adD.1 (by rw[Ui];exact this)
def Xs{p h a}(hp:zU p)(hn:p=2 * h+1)(hc:Nat.Coprime a p):(p:Int)∣(a:Int)^h - (-1)^mu a p:=by
 have hh:p/2=h:=by omega
 have step:∀k∈fQ h,(p:Int)∣(a:Int) * (k:Int) - (-1)^fl a p k * (ab a p k:Int):=by
  intro k _;have hd:=UA (a * k) p;have hr:=nF (a * k) (ai:0<p);have iF:(a:Int) * (k:Int)=(p:Int) * ((a * k/p:Nat):Int)+((a * k%p:Nat):Int):=by rw[<-yY,<-yY,<-adE,hd]
  unfold fl ab;by_cases q:p<2 * (a * k%p)
  ·rw[aH q,aH q,iF];have e:((p - a * k%p:Nat):Int)=(p:Int) - ((a * k%p:Nat):Int):=(by omega);rw[e];refine⟨((a * k/p:Nat):Int)+1,?_⟩;rw[NP];simp only[J8,Int.pow_one];omega
  ·rw[aJ q,aJ q,iF];refine⟨((a * k/p:Nat):Int),?_⟩;simp only[NR,GL];omega
 have h1:=apI step;rw[apJ,apK,SG] at h1;have e1:(fQ h).map (λk=>(ab a p k:Int))=((fQ h).map (ab a p)).map λ(k:Nat)=>(k:Int):=by rw[Ca];rfl
 rw[e1,apH ((Si hn hc).map λ(k:Nat)=>(k:Int)),<-NS] at h1;have:=cancel hp (fQ h) _ (λk hk=>by have:=wW.1 hk;omega) h1;unfold mu;rw[hh];exact this
def ajz{p h a}(hp:zU p)(hn:p=2 * h+1)(h0:0<a)(h1:a<p):(a^h%p=1)↔mu a p%2=0:=by
 have hg:=Xs hp hn (hp.coprime h0 h1);have oQ:=hp.1;have QS:((a^h:Nat):Int)=(a:Int)^h:=by simp
 rw[<-QS] at hg;constructor
 ·intro q;rcases Ci (mu a p) with r|r
  ·exact r
  ·exfalso;have:((-1:Int))^mu a p= -1:=(by obtain⟨c,hc⟩:∃c,mu a p=2 * c+1:=⟨mu a p/2,by omega⟩;rw[hc,yZ,GN];simp[R2]);rw[this] at hg;have hd:p∣a^h+1:=(by have e:((a^h:Nat):Int) - -1=((a^h+1:Nat):Int):=(by omega);rw[e] at hg;exact Uj.1 hg);have:=Nat.mod_eq_zero_of_dvd hd;rw[Kj,q] at this;have h3:1%p=1:=oJ ai;rw[h3] at this;have:p∣2:=G9 this;have:=Ex ai this;omega
 ·intro r;have:((-1:Int))^mu a p=1:=by obtain⟨c,hc⟩:∃c,mu a p=2 * c:=⟨mu a p/2,by omega⟩;rw[hc,GN];simp[R2]
  rw[this] at hg;have jV:0<a^h:=Ol h0;have hd:p∣a^h - 1:=by have e:((a^h:Nat):Int) - 1=((a^h - 1:Nat):Int):=(by omega);rw[e] at hg;exact Uj.1 hg
  obtain⟨c,hc⟩:=hd;have:a^h=p * c+1:=by omega
  rw[this,aeo,oJ ai]
def ava{x n}(ho:n%2=1)(hc:o9 (2 * x) n):mu (2 * x) n%2=(mu x n+(if n%8=3∨n%8=5 then 1 else 0))%2:=by
 have hn:n=2 * (n/2)+1:=by omega
 have h2:o9 2 n:=Nat.Coprime.coprime_mul_right hc;have hx:o9 x n:=aei hc;rw[anQ hn h2 hx,anS hn];split<;>omega
def avc{x n}(ho:n%2=1)(hx:x%2=1)(hc:o9 x n):mu x n%2=(mu (n%x) x+(if x%4=3/\n%4=3 then 1 else 0))%2:=by
 have hn:n=2 * (n/2)+1:=by omega
 have hm:x=2 * (x/2)+1:=by omega
 have h:=aqj hn hm hc;rw[anP];have e:(n/2) * (x/2)%2=(if x%4=3/\n%4=3 then 1 else 0):=by rw[uc];rcases Ci (n/2) with p|p<;>rcases Ci (x/2) with q|q<;>rw[p,q]<;>split<;>omega
 rw[e] at h;split at h<;>split<;>omega
def aiw{x n}(hc:o9 x n):o9 (n%x) x:=by
 unfold o9 at *
 rw[<-Nat.gcd_rec,hc]
def FX(p:Nat):Nat->Nat->Bool
 |0,lo=>Nat.blt 0 (p%lo)
 |k+1,lo=>FX p k lo&&FX p k (lo+2^k)
def an2{p}:∀{k lo:Nat},FX p k lo=ah->∀d,lo<=d->d<lo+2^k->p%d≠0:=by
 intro k
 induction k with
 |zero=>
  intro lo h d h1 h2;have:d=lo:=by simp at h2;omega
  subst this;unfold FX at h;have:1<=p%d:=by simpa [Nat.blt] using h
  omega
 |succ k ih=>
  intro lo h d h1 h2;unfold FX at h;rw[bI] at h;rw[Cj] at h2;rcases ez d (lo+2^k) with q|q
  ·exact ih h.1 d h1 q
  ·exact ih h.2 d q ai
def ZO{p k}(h2:2<=p)(h:FX p k 2=true)(hk:p<(2^k+2) * (2^k+2)):zU p:=by
 refine⟨h2,λd hd=>?_⟩;obtain⟨e,he⟩:=hd;have bE:d≠0:=by rintro rfl;simp at he;omega
 have aG:e≠0:=by rintro rfl;simp at he;omega
 by_cases eM:d=1
 ·exact .inl eM
 by_cases pE:e=1
 ·right;rw[he,pE,ph]
 exfalso;have key:∀{x y:Nat},p=x * y->2<=x->x<2+2^k->False:=by intro x y ZD hx aC;exact an2 h x hx aC (by rw[ZD,Nat.mul_mod_right])
 rcases ez d (2+2^k) with q|q
 ·exact key he ai q
 ·rcases ez e (2+2^k) with r|r
  ·exact key (by rw[he,Oi]) ai r
  ·have:=ri q r;rw[<-he] at this;rw[aej (2^k) 2] at hk;omega
def P:Nat:=2147483579
def Q:Nat:=1073741789
def UK:zU P:=ZO (k:=16) aZ (by decide+kernel) aZ
def aeD:zU Q:=ZO (k:=15) aZ (by decide+kernel) aZ
end Go.NT
end
section
namespace Go.NT
def EY:Nat->Nat->Nat->Nat->Nat->Nat
 |0,_,_,_,c=>c
 |k+1,m,a,n,c=>if n=0 then c else EY k m (a * a%m) (n/2) (if n%2=1 then c * a%m else c)
def KQ{m}(hm:0<m):∀{k a n c:Nat},n<2^k->c<m->EY k m a n c=c * a^n%m:=by
 intro k
 induction k with
 |zero=>
  intro a n c hn hc;have:n=0:=by simp at hn;exact hn
  subst this;simp[EY,oJ hc]
 |succ k ih=>
  intro a n c hn hc;unfold EY;by_cases h0:n=0
  ·subst h0;simp[oJ hc]
  ·rw[aJ h0];have uE:n/2<2^k:=(by rw[Cj] at hn;omega);have Zm:∀e,(a * a%m)^e%m=a^(2 * e)%m:=λe=>(by rw[<-Hh,Hi,UD]);split
   ·rename_i ho;rw[ih uE (nF _ hm),uc,Zm,Nat.mod_mod,<-uc,Oh,<-aey,show(2 * (n/2)).succ=n by omega]
   ·rename_i ho;rw[ih uE hc,uc,Zm,<-uc,(ai:2 * (n/2)=n)]
def tT(a n:Nat):Nat:=EY 31 P a n 1
def Sk{a n}(hn:n<2^31):tT a n=a^n%P:=by unfold tT;rw[KQ aZ hn aZ,Ez]
def elem(x:Nat):Bool:=decide (1<=x)&&decide (x<P)&&Nat.beq (tT x Q) 1
def elem_iff{x}:elem x=ah↔1<=x/\x<P/\x^Q%P=1:=by unfold elem;rw[Sk aZ];simp only[bI,decide_eq_true_eq];exact⟨λh=>⟨h.1.1,h.1.2,lD h.2⟩,λh=>⟨⟨h.1,h.2.1⟩,by rw[h.2.2];rfl⟩⟩
def ajf{x}(h0:1<=x)(h1:x<P):elem x=decide (mu x P%2=0):=by have:=ajz UK (h:=Q) (a:=x) aZ ai h1;rw[GA,elem_iff,decide_eq_true_eq,<-this];exact⟨λh=>h.2.2,λh=>⟨h0,h1,h⟩⟩
def A4:elem 1=ah:=by rw[elem_iff];exact⟨aZ,by decide,by rw[aeu];rfl⟩
def HE{x y}(hx:elem x=ah)(hy:elem y=ah):elem (x * y%P)=ah:=by
 rw[elem_iff] at *
 obtain⟨x1,x2,x3⟩:=hx;obtain⟨y1,y2,y3⟩:=hy;have hp:(x * y%P)^Q%P=1:=by rw[<-Hh,Nat.mul_pow,uc,x3,y3];rfl
 refine⟨?_,nF _ aZ,hp⟩;rcases Hc (x * y%P) with q|q
 ·rw[q] at hp;have:(0:Nat)^Q=0:=Nat.zero_pow aZ;rw[this] at hp;cases hp
 ·exact q
def ajg{x}(hx:elem x=ah)(n):elem (x^n%P)=ah:=by
 induction n with
 |zero=>exact A4|succ n ih=>
  have:=HE ih hx
  rwa [UB,<-Cj] at this
def apB{x}(hx:elem x=ah)(n):x^(n%Q)%P=x^n%P:=by obtain⟨-,-,h⟩:=elem_iff.1 hx;have e:n=Q * (n/Q)+n%Q:=(UA n Q).symm;rw[show x^n=x^(Q * (n/Q)+n%Q) by rw[<-e],aew,Hi,uc,Hh (x^Q),h,aeu];simp
end Go.NT
end
section
namespace Go.NT
def Qi:Int:=1073741789
def fmod(n:Int):Int:=n%Qi
def dj(a b:Int):Int:=(fmod a+fmod b)%Qi
def df(a b:Int):Int:=fmod a * fmod b%Qi
def eU(n:Int):Int:=((EY 31 Q (fmod n).toNat (Q - 2) 1:Nat):Int)
def okF(x:Int):Prop:=0<=x/\x<Qi
def Ot:(0:Int)<Qi:=by decide
def Cm:Qi=(Q:Int):=rfl
def E6(n):okF (fmod n):=⟨Uf _ aZ,Ue _ Ot⟩
def CK{x}(h:okF x):fmod x=x:=NN h.1 h.2
def CD(a b):dj a b=(a+b)%Qi:=by unfold dj fmod;rw[<-ady]
def ur(a b):df a b=a * b%Qi:=by unfold df fmod;rw[<-BY]
def KP(a b):okF (dj a b):=⟨Uf _ aZ,Ue _ Ot⟩
def HH(a b):okF (df a b):=⟨Uf _ aZ,Ue _ Ot⟩
def BJ:okF 0:=by unfold okF;decide
def WQ{x}(h:okF x):dj x 0=x:=by rw[CD,Int.add_zero,<-fmod];exact CK h
def aj4(n):df n 0=0:=by rw[ur,NQ];rfl
def aw3(n):df 0 n=0:=by rw[ur,Ka];rfl
def lI(n x y:Int):Int:=dj x (-(df n y))
def KU(n x y):lI n x y=(x - n * y)%Qi:=by unfold lI;rw[CD,ur,<-Int.sub_eq_add_neg,adJ,Eo _ (En _),<-adJ]
def aj1(n x y):okF (lI n x y):=KP _ _
def Pt{n x}(h:okF x):lI n x 0=x:=by unfold lI;rw[aj4,adG];exact WQ h
def aj3{x y}(h:okF x):lI 0 x y=x:=by unfold lI;rw[aw3,adG];exact WQ h
def aj2(n y):lI (-n) 0 y=df y n:=by rw[KU,ur,adF,Int.sub_neg,GO,AG]
def ajE{p h a}(hp:zU p)(hn:p=2 * h+1)(h0:0<a)(h1:a<p):a^(p - 1)%p=1:=by
 have hg:=Xs hp hn (hp.coprime h0 h1);have oQ:=hp.1;have h2:(p:Int)∣(a:Int)^(2 * h) - 1:=by
  obtain⟨c,hc⟩:=hg;have e:((-1:Int)^mu a p) * ((-1:Int)^mu a p)=1:=by rw[<-Um,(ai:mu a p+mu a p=2 * mu a p),GN];simp[R2]
  have e2:(a:Int)^(2 * h)=(a:Int)^h * (a:Int)^h:=by rw[<-Um,(ai:2 * h=h+h)]
  refine⟨c * ((a:Int)^h+(-1)^mu a p),?_⟩;rw[<-yX,<-hc,NS,NP,NP,e2,AG ((-1)^mu a p) ((a:Int)^h),e];omega
 rw[(ai:p - 1=2 * h)];have jV:0<a^(2 * h):=Ol h0;have QS:((a^(2 * h):Nat):Int)=(a:Int)^(2 * h):=by simp
 rw[<-QS] at h2;have hd:p∣a^(2 * h) - 1:=by
  have e:((a^(2 * h):Nat):Int) - 1=((a^(2 * h) - 1:Nat):Int):=by omega
  rw[e] at h2;exact Uj.1 h2
 obtain⟨c,hc⟩:=hd;have:a^(2 * h)=p * c+1:=by omega
 rw[this,aeo,oJ ai]
def Ph(n):okF (eU n):=by unfold eU okF;rw[KQ aZ aZ aZ];exact⟨ai,by rw[Cm];exact adH.2 (nF _ aZ)⟩
def Pv{x}(h:okF x)(h0:x≠0):df x (eU x)=1:=by
 obtain⟨n,rfl⟩:∃n:Nat,x=n:=⟨x.toNat,by have:=h.1;omega⟩;have hn:n<Q:=by have:=h.2;rw[Cm] at this;exact adH.1 this
 have hf:=ajE (h:=536870894) aeD aZ (ai:0<n) hn;unfold eU;rw[CK h,dW,KQ aZ aZ aZ,Ez,ur,Cm,<-yY,<-Uk,aer,Oi,<-Cj,
  (aZ:(Q - 2).succ=Q - 1),hf]
 rfl
def al(l:List Int)(i:Nat):Int:=l.getD i 0
def js(n:Int)(a b:List Int):List Int:=GZ (lI n) a b
def wx(c:Nat)(a own:List Int):List Int:=if al a c=0 then a else a.take c++js (al a c) (a.drop c) (own.drop c)
def iR(c:Nat)(a:List Int)(n:Int):List Int:=a.take c++(a.drop c).map (df · n)
def scaleB(a:List Int)(n:Int):List Int:=js (-n) (br a.length 0) a
def pC(t:List (List Int))(r c:Nat):Option Nat:=(bO t.length).find? λk=>decide (r<=k)&& !(decide (al (t.getD k []) c=0))
def yO(st:List (List Int) × List Nat)(c:Nat):List (List Int) × List Nat:=
 match pC st.1 st.2.length c with
 |none=>st
 |some k=>
  let own:=iR c (st.1.getD k []) (eU (al (st.1.getD k []) c))
  let t1:=(st.1.set k (st.1.getD st.2.length [])).set st.2.length own
  (t1.mapIdx λi a=>if i=st.2.length then own else wx c a own,st.2++[c])
def oF(st:List (List Int) × List Nat)(c:Nat):List (List Int) × List Nat:=
 match pC st.1 st.2.length c with
 |none=>st
 |some k=>
  let own:=scaleB (st.1.getD k []) (eU (al (st.1.getD k []) c))
  let t1:=st.1.set k (st.1.getD st.2.length [])
  ((t1.map λa=>js (al a c) a own).set st.2.length own,st.2++[c])
def F9(t:List (List Int))(many:Nat):List (List Int) × List Nat:=(bO many).foldl yO (t,[])
def ju(t:List (List Int))(many:Nat):List (List Int) × List Nat:=(bO many).foldl oF (t,[])
structure xF(w c:Nat)(st:List (List Int) × List Nat):Prop where
 len:∀a∈st.1,a.length=w
 ok:∀a∈st.1,∀x∈a,okF x
 zero:∀i a,st.2.length<=i->st.1[i]?=aa a->∀j,j<c->al a j=0
def fB{l}{i}(h):al l i=l[i]:=by unfold al;rw[eE,aU h];rfl
def rm{l}(h:∀x∈l,okF x)(i):okF (al l i):=by
 unfold al;rw[eE];rcases ez i l.length with q|q
 ·rw[aU q];exact h _ (iK q)
 ·rw[u7 q];exact BJ
def yD{a b}(hl:a.length=b.length)(h:∀i,i<a.length->al a i=al b i):a=b:=by apply Kc hl;intro i h1 h2;rw[<-fB h1,<-fB h2];exact h i h1
def xO{n}{a b}(hl:a.length=b.length){i}(hi:i<a.length):al (js n a b) i=lI n (al a i) (al b i):=by
 unfold js;have h1:i<(GZ (lI n) a b).length:=by rw[ad3];omega
 rw[fB h1,ad1,fB hi,fB ai]
def wV{n}{a b}(hl:a.length=b.length):(js n a b).length=a.length:=by unfold js;rw[ad3];omega
def EJ{a x}{c}(hc:c<=a.length)(i):al (a.take c++x) i=if i<c then al a i else al x (i - c):=by
 unfold al;simp only[eE];split
 ·rename_i h;rw[sY (by rw[fm];omega),o7,aH h]
 ·rename_i h;rw[AL (by rw[fm];omega),fm,Ey hc]
def Kt(a)(c i):al (a.drop c) i=al a (c+i):=by unfold al;simp only[eE,pX]
def ah1{c}{a own}(hl:a.length=own.length)(hc:c<a.length)(ha:∀x∈a,okF x)(hz:∀j,j<c->al own j=0):wx c a own=js (al a c) a own:=by
 unfold wx;split
 ·rename_i h;rw[h];refine(yD (wV hl) λi hi=>?_).symm;rw[wV hl] at hi;rw[xO hl hi,aj3 (rm ha i)]
 ·have hd:(a.drop c).length=(own.drop c).length:=by simp[hl]
  refine yD ?_ λi hi=>?_
  ·rw[dM,wV hd,wV hl,fm,iC];omega
  ·have qh:i<a.length:=(by rw[dM,wV hd,fm,iC] at hi;omega);rw[EJ ai,xO hl qh];split
   ·rename_i q;rw[hz i q,Pt (rm ha i)]
   ·rename_i q;rw[xO hd (by rw[iC];omega),Kt,Kt,(ai:c+(i - c)=i)]
def MX{c}{a}{n}(hc:c<=a.length)(hz:∀j,j<c->al a j=0):iR c a n=scaleB a n:=by
 unfold iR scaleB;have hr:(br a.length (0:Int)).length=a.length:=by simp
 refine yD ?_ λi hi=>?_
 ·rw[wV hr,dM,bF,fm,iC,hr];omega
 ·have qh:i<a.length:=by rw[dM,bF,fm,iC] at hi;omega
  have h0:al (br a.length (0:Int)) i=0:=by rw[fB (by simpa using qh)];simp
  rw[EJ hc,xO hr (by rw[hr];exact qh),h0,aj2];split
  ·rename_i q;rw[hz i q,ur,Ka];rfl
  ·rename_i q;have hm:i - c<((a.drop c).map (df · n)).length:=(by rw[bF,iC];omega);rw[fB hm,qx,Uv,<-fB (ai:c+(i - c)<a.length),(ai:c+(i - c)=i)]
end Go.NT
end
section
namespace Go.NT
def CG{t}{r c k}(h:pC t r c=aa k):k<t.length/\r<=k/\al (t.getD k []) c≠0:=by unfold pC at h;have h1:=List.find?_some h;have h2:=List.mem_of_find?_eq_some h;rw[gf] at h2;simp only[bI,decide_eq_true_eq,At,decide_eq_false_iff_not] at h1;exact⟨h2,h1⟩
def WU{t}{r c}(h:pC t r c=av){k}(hk:k<t.length)(hr:r<=k):al (t.getD k []) c=0:=by unfold pC at h;rw[List.find?_eq_none] at h;have:=h k (gf.2 hk);simp only[bI,decide_eq_true_eq,At,decide_eq_false_iff_not,not_and,J6] at this;exact this hr
def lU{t:List (List Int)}{k}(hk):t.getD k []=t[k]:=by rw[eE,aU hk];rfl
section
variable {w c:Nat} {st:List (List Int) × List Nat}
structure Own(w c:Nat)(own:List Int):Prop where
 len:own.length=w
 ok:∀x∈own,okF x
 zero:∀j,j<c->al own j=0
 one:al own c=1
def Md{a:List Int}(hl:a.length=w)(hc:c<w)(ha:∀x∈a,okF x)(hz:∀j,j<c->al a j=0)(h0:al a c≠0):Own w c (iR c a (eU (al a c))):=by
 refine⟨?_,?_,?_,?_⟩
 ·unfold iR;rw[dM,bF,fm,iC];omega
 ·intro x hx;unfold iR at hx;rcases List.mem_append.1 hx with q|q
  ·exact ha x (pY q)
  ·obtain⟨y,-,rfl⟩:=kC.1 q;exact HH _ _
 ·intro j hj;unfold iR;rw[EJ ai,aH hj];exact hz j hj
 ·unfold iR;rw[EJ ai,aJ ai];have hm:c - c<((a.drop c).map (df · (eU (al a c)))).length:=by rw[bF,iC];omega
  rw[fB hm,qx,Uv];have e:a[c+(c - c)]' ai=al a c:=by rw[fB ai];congr 1;omega
  rw[e];exact Pv (rm ha c) h0
def acD(R:xF w c st)(hc:c<w):yO st c=oF st c:=by
 unfold yO oF;cases hf:pC st.1 st.2.length c with
 |none=>rfl|some k=>
  obtain⟨k1,k2,k3⟩:=CG hf;rw[lU k1] at k3;have hk:=R.len _ (iK k1);have Bq:=R.ok _ (iK k1);have wM:=R.zero k _ k2 (aU k1);simp only[lU k1];have O:=Md hk hc Bq wM k3;rw[<-MX ai wM];generalize iR c st.1[k] (eU (al st.1[k] c))=own at *
  congr 1;apply Kc
  ·simp
  ·intro i h1 h2;rw[List.getElem_mapIdx];by_cases hi:i=st.2.length
   ·rw[aH hi];subst hi;rw[N1]
   ·rw[aJ hi,N0 (λq=>hi q.symm),N0 (λq=>hi q.symm),qx];have aC:i<st.1.length:=(by simpa using h1);have hm:(st.1.set k (st.1.getD st.2.length []))[i]'(by simpa using aC)∈st.1:=by
     rw[GU];split
     ·rw[lU ai];exact iK _
     ·exact iK _
    exact ah1 ((R.len _ hm).trans O.len.symm) (by rw[R.len _ hm];exact hc) (R.ok _ hm) O.zero
def M8(R:xF w c st)(hc:c<w):xF w (c+1) (oF st c):=by
 unfold oF;cases hf:pC st.1 st.2.length c with
 |none=>
  refine⟨R.len,R.ok,λi a hi ha j hj=>?_⟩;rcases ez j c with q|q
  ·exact R.zero i a hi ha j q
  ·have:j=c:=(by omega);subst this;have aC:=(aW.1 ha).1;have:=WU hf aC hi;rw[lU aC] at this;rw[<-(aW.1 ha).2];exact this
 |some k=>
  obtain⟨k1,k2,k3⟩:=CG hf;rw[lU k1] at k3;have hk:=R.len _ (iK k1);have Bq:=R.ok _ (iK k1);have wM:=R.zero k _ k2 (aU k1);simp only[lU k1];have O:=Md hk hc Bq wM k3;rw[<-MX ai wM];generalize iR c st.1[k] (eU (al st.1[k] c))=own at *
  have cU:st.2.length<st.1.length:=by omega
  have qN:∀a∈st.1.set k (st.1.getD st.2.length []),a∈st.1:=λa ha=>by
   rcases xB ha with q|q
   ·exact q
   ·rw[q,lU cU];exact iK _
  refine⟨λa ha=>?_,λa ha=>?_,λi a hi ha j hj=>?_⟩
  ·rcases xB ha with q|q
   ·obtain⟨b,hb,rfl⟩:=kC.1 q;have:=R.len _ (qN b hb);rw[wV (this.trans O.len.symm)];exact this
   ·rw[q];exact O.len
  ·rcases xB ha with q|q
   ·obtain⟨b,hb,rfl⟩:=kC.1 q;intro x hx;unfold js at hx;obtain⟨i,h1,rfl⟩:=Cb.1 hx;rw[ad1];exact aj1 _ _ _
   ·rw[q];exact O.ok
  ·simp only[dM,N3] at hi;have bG:st.2.length≠i:=(by omega);rw[Kd bG,ey] at ha;have aC:i<st.1.length:=by
    rcases ez i st.1.length with q|q
    ·exact q
    ·rw[u7 (by simpa using q)] at ha;cases ha
   rw[aU (by simpa using aC),ft,eg] at ha;have hb:∃b,(st.1.set k (st.1.getD st.2.length []))[i]'(by simpa using aC)=b/\b.length=w/\(∀x∈b,okF x)/\∀j,j<c->al b j=0:=by
    refine⟨_,rfl,R.len _ (qN _ (iK _)),R.ok _ (qN _ (iK _)),λj hj=>?_⟩;rw[GU];split
    ·rw[lU cU];exact R.zero st.2.length _ (aL _) (aU cU) j hj
    ·exact R.zero i _ ai (aU aC) j hj
   obtain⟨b,e,b1,b2,b3⟩:=hb;rw[e] at ha;subst ha;rw[xO (b1.trans O.len.symm) ai];rcases ez j c with q|q
   ·rw[b3 j q,O.zero j q,Pt BJ]
   ·have:j=c:=(by omega);subst this;rw[O.one,KU,J8,Un];rfl
end
def aqn{t}{w many}(hl:∀a∈t,a.length=w)(ho:∀a∈t,∀x∈a,okF x)(hm:many<=w):F9 t many=ju t many:=by
 unfold F9 ju;have key:∀n,n<=w->(bO n).foldl yO (t,[])=(bO n).foldl oF (t,[])/\xF w n ((bO n).foldl oF (t,[])):=by
  intro n
  induction n with
  |zero=>intro _;exact⟨rfl,hl,ho,λ_ _ _ _ j hj=>by omega⟩|succ n ih=>intro hn;obtain⟨h1,h2⟩:=ih ai;rw[nD,oI,oI,h1];simp only[v9,GR];exact⟨acD h2 ai,M8 h2 ai⟩
 exact(key many hm).1
end Go.NT
end
section
namespace Go.NT
def cW:List Int->Int
 | []=>0
 |x::l=>x+cW l
def avv(l m):cW (l++m)=cW l+cW m:=by
 induction l with
 |nil=>simp[cW]|cons x l ih=>simp only[lO,cW,ih];omega
def dot(y row:List Int):Int:=cW ((bO y.length).map λi=>al y i * al row i)
def res(y row:List Int):Int:=dot y row - al row y.length
def Sat(y row:List Int):Prop:=Qi∣res y row
def avC{f g q}{n}:∀{l:List Nat},(∀i∈l,Qi∣f i - (g i - n * q i))->Qi∣cW (l.map f) - (cW (l.map g) - n * cW (l.map q)):=by
 intro l
 induction l with
 |nil=>intro _;simp[cW]|cons x l ih=>
  intro h;have h1:=h x gq;have h2:=ih λi hi=>h i (fM _ hi);simp only[eL,cW,NP];have e:f x+cW (l.map f) - (g x+cW (l.map g) - (n * q x+n * cW (l.map q)))=(f x - (g x - n * q x))+(cW (l.map f) - (cW (l.map g) - n * cW (l.map q))):=by omega
  rw[e];exact yW h1 h2
def Xf(n x y):Qi∣lI n x y - (x - n * y):=by rw[KU];have:=adA (x - n * y) Qi;refine⟨-((x - n * y)/Qi),?_⟩;rw[Int.mul_neg];omega
def abo{n}{y a b}(hl:a.length=b.length)(hy:y.length<a.length):Qi∣res y (js n a b) - (res y a - n * res y b):=by
 have h1:Qi∣dot y (js n a b) - (dot y a - n * dot y b):=by
  unfold dot;refine avC λi hi=>?_;have hi:=gf.1 hi;rw[xO hl ai];obtain⟨c,hc⟩:=Xf n (al a i) (al b i);refine⟨al y i * c,?_⟩;have:al y i * lI n (al a i) (al b i) - (al y i * al a i - n * (al y i * al b i))=al y i * (lI n (al a i) (al b i) - (al a i - n * al b i)):=by rw[AH,AH,Ep n]
  rw[this,hc,Ep]
 have h2:Qi∣al (js n a b) y.length - (al a y.length - n * al b y.length):=by rw[xO hl hy];exact Xf _ _ _
 unfold res;have e:dot y (js n a b) - al (js n a b) y.length - (dot y a - al a y.length - n * (dot y b - al b y.length))=(dot y (js n a b) - (dot y a - n * dot y b)) - (al (js n a b) y.length - (al a y.length - n * al b y.length)):=by rw[AH];omega
 rw[e];exact Ud h1 h2
def atT{n}{y a b}(hl:a.length=b.length)(hy:y.length<a.length)(h1:Sat y (js n a b))(h2:Sat y b):Sat y a:=by
 unfold Sat at *
 have h3:=abo (n:=n) hl hy;have e:res y a=res y (js n a b) - (res y (js n a b) - (res y a - n * res y b))+n * res y b:=by omega
 rw[e];exact yW (Ud h1 h3) (GJ h2)
def aqA(y)(n):res y (br n 0)=0:=by
 have hz:∀i,al (br n (0:Int)) i=0:=λi=>by unfold al;rw[eE,NY];split<;>rfl
 unfold res dot;simp only[hz,NQ];generalize bO y.length=l
 induction l with
 |nil=>rfl|cons x l ih=>simp only[eL,cW];omega
def atU{y a}{x}(hy:y.length<a.length)(hx:okF x)(h0:x≠0)(h:Sat y (scaleB a (eU x))):Sat y a:=by
 unfold Sat scaleB at *
 have h1:=abo (n:= -(eU x)) (y:=y) (a:=br a.length (0:Int)) (b:=a) bJ (by simpa using hy);rw[aqA] at h1;have h2:Qi∣eU x * res y a:=by
  have e:eU x * res y a=res y (js (-(eU x)) (br a.length 0) a) - (res y (js (-(eU x)) (br a.length 0) a) - (0 - -(eU x) * res y a)):=by rw[adF];omega
  rw[e];exact Ud h h1
 have h3:Qi∣x * eU x - 1:=by have:=Pv hx h0;rw[ur] at this;have h4:=adA (x * eU x) Qi;rw[this] at h4;exact⟨x * eU x/Qi,by omega⟩
 obtain⟨c,hc⟩:=h2;obtain⟨d,hd⟩:=h3;refine⟨x * c - d * res y a,?_⟩;have e1:x * (eU x * res y a)=x * (Qi * c):=by rw[hc]
 have e2:(x * eU x - 1) * res y a=Qi * d * res y a:=by rw[hd]
 rw[<-yX] at e1;rw[NS,GL,e1] at e2;rw[AH,<-yX Qi d,Ep Qi x];omega
section
variable {w c:Nat} {st:List (List Int) × List Nat}
def avh{y:List Int}(R:xF w c st)(hc:c<w)(hy:y.length<w)(h:∀a∈(oF st c).1,Sat y a):∀a∈st.1,Sat y a:=by
 unfold oF at h;cases hf:pC st.1 st.2.length c with
 |none=>rw[hf] at h;exact h|some k=>
  rw[hf] at h;obtain⟨k1,k2,k3⟩:=CG hf;rw[lU k1] at k3;simp only[lU k1] at h;have hk:=R.len _ (iK k1);have Bq:=R.ok _ (iK k1);have wM:=R.zero k _ k2 (aU k1);have O:=Md hk hc Bq wM k3;have cU:st.2.length<st.1.length:=by omega
  have vC:=MX (n:=eU (al st.1[k] c)) (ai:c<=st.1[k].length) wM;rw[lU cU] at h;have ho:Sat y (scaleB st.1[k] (eU (al st.1[k] c))):=h _ (Cb.2 ⟨st.2.length,by simpa using cU,by rw[N1]⟩);have oy:∀i (hi:i<st.1.length),i≠st.2.length->Sat y ((st.1.set k st.1[st.2.length])[i]'(by simpa using hi)):=λi hi bG=>by
   have hm:=h ((((st.1.set k st.1[st.2.length]).map λa=>js (al a c) a (scaleB st.1[k] (eU (al st.1[k] c)))).set st.2.length (scaleB st.1[k] (eU (al st.1[k] c))))[i]'(by simpa using hi)) (iK _);rw[N0 (λq=>bG q.symm),qx] at hm;have nP:((st.1.set k st.1[st.2.length])[i]'(by simpa using hi)).length=w:=by
    rw[GU];split
    ·exact R.len _ (iK _)
    ·exact R.len _ (iK _)
   refine atT ?_ (by rw[nP];exact hy) hm ho;rw[nP,<-vC,O.len]
  intro a ha;obtain⟨i,hi,rfl⟩:=Cb.1 ha;by_cases e1:i=k
  ·subst e1;exact atU ai (rm Bq c) k3 ho
  ·by_cases e2:i=st.2.length
   ·subst e2;have:=oy k k1 (λq=>e1 q.symm);rw[N1] at this;exact this
   ·have:=oy i hi e2;rw[N0 (λq=>e1 q.symm)] at this;exact this
end
end Go.NT
end
section
namespace Go.NT
structure EB(c:Nat)(st:List (List Int) × List Nat):Prop where
 lt:∀k p:Nat,st.2[k]?=aa p->p<c
 inc:∀j k p q:Nat,j<k->st.2[j]?=aa p->st.2[k]?=aa q->p<q
 val:∀k p:Nat,st.2[k]?=aa p->∀(i:Nat) (a:List Int),st.1[i]?=aa a->al a p=if i=k then 1 else 0
 len:st.2.length<=st.1.length
section
variable {w c:Nat} {st:List (List Int) × List Nat}
def avd(R:xF w c st)(V:EB c st)(hc:c<w):EB (c+1) (oF st c):=by
 unfold oF;cases hf:pC st.1 st.2.length c with
 |none=>exact⟨λk p h=>by have:=V.lt k p h;omega,V.inc,V.val,V.len⟩
 |some k=>
  obtain⟨k1,k2,k3⟩:=CG hf;rw[lU k1] at k3;have hk:=R.len _ (iK k1);have Bq:=R.ok _ (iK k1);have wM:=R.zero k _ k2 (aU k1);simp only[lU k1];have O:=Md hk hc Bq wM k3;have cU:st.2.length<st.1.length:=by omega
  rw[<-MX ai wM,lU cU];generalize iR c st.1[k] (eU (al st.1[k] c))=own at *
  refine⟨λj p h=>?_,λj l p q ov hp hq=>?_,λj p hp i a ha=>?_,?_⟩
  ·rcases CM h with h|⟨-,rfl⟩
   ·have:=V.lt j p h;omega
   ·omega
  ·rcases CM hq with hq|⟨rfl,rfl⟩
   ·rcases CM hp with hp|⟨rfl,-⟩
    ·exact V.inc j l p q ov hp hq
    ·have:=(aW.1 hq).1;omega
   ·rcases CM hp with hp|⟨rfl,-⟩
    ·exact V.lt j p hp
    ·omega
  ·-- the row at i
   have cY:i<st.1.length:=(by have:=(aW.1 ha).1;simpa using this);by_cases hi:i=st.2.length
   ·subst hi;rw[aU (by simpa using cU),N1,eg] at ha;subst ha;rcases CM hp with hp|⟨rfl,rfl⟩
    ·have h1:=V.lt j p hp;have h2:=(aW.1 hp).1;rw[O.zero p h1,aJ ai]
    ·rw[O.one,aH rfl]
   ·rw[Kd (λq=>hi q.symm),ey,aU (by simpa using cY),ft,eg] at ha;have hb:∃b,(st.1.set k st.1[st.2.length])[i]'(by simpa using cY)=b/\b.length=w/\(∀x∈b,okF x)/\∀j p,st.2[j]?=aa p->al b p=if i=j then 1 else 0:=by
     refine⟨_,rfl,?_,?_,λj p hp=>?_⟩
     ·rw[GU];split<;>exact R.len _ (iK _)
     ·rw[GU];split<;>exact R.ok _ (iK _)
     ·rw[GU];have ov:=(aW.1 hp).1;split
      ·rename_i e;rw[V.val j p hp st.2.length _ (aU cU),aJ ai,aJ ai]
      ·exact V.val j p hp i _ (aU cY)
    obtain⟨b,e,b1,b2,b3⟩:=hb;rw[e] at ha;subst ha;have hpw:p<w:=by
     rcases CM hp with h|⟨-,rfl⟩
     ·have:=V.lt j p h;omega
     ·exact hc
    rw[xO (b1.trans O.len.symm) ai];rcases CM hp with hp|⟨rfl,rfl⟩
    ·rw[O.zero p (V.lt j p hp),Pt (rm b2 p)];exact b3 j p hp
    ·rw[O.one,KU,J8,Un,aJ hi];rfl
  ·simp only[dM,N3,mJ,bF];omega
where
 CM {l:List Nat} {x i y:Nat} (h:(l++[x])[i]?=aa y):l[i]?=aa y∨(i=l.length/\y=x):=by
  rcases Nat.lt_trichotomy i l.length with aC|mN|Ig
  ·rw[sY aC] at h;exact .inl h
  ·subst mN;simp at h;exact .inr ⟨rfl,h.symm⟩
  ·rw[u7 (by simp;omega)] at h;cases h
end
def Jc{t}{w many}(hl:∀a∈t,a.length=w)(ho:∀a∈t,∀x∈a,okF x)(hm:many<=w):xF w many (ju t many)/\EB many (ju t many):=by
 unfold ju
 induction many with
 |zero=>exact⟨⟨hl,ho,λ_ _ _ _ j hj=>by omega⟩,⟨λk p h=>by simp at h,λj k p q _ h=>by simp at h,λk p h=>by simp at h,cD _⟩⟩|succ n ih=>obtain⟨h1,h2⟩:=ih ai;rw[nD,oI];simp only[v9,GR];exact⟨M8 h1 ai,avd h1 h2 ai⟩
def aqo{t}{w many}{y}(hl:∀a∈t,a.length=w)(ho:∀a∈t,∀x∈a,okF x)(hm:many<=w)(hy:y.length<w)(h:∀a∈(ju t many).1,Sat y a):∀a∈t,Sat y a:=by
 induction many with
 |zero=>exact h|succ n ih=>
  refine ih ai ?_;have h1:=(Jc hl ho (ai:n<=w)).1;have e:ju t (n+1)=oF (ju t n) n:=by unfold ju;rw[nD,oI];rfl
  rw[e] at h;exact avh h1 ai hy h
def qt(st:List (List Int) × List Nat)(n:Nat):List Int:=st.2.zipIdx.foldl (λy p=>y.set p.1 (al (st.1.getD p.2 []) n)) (br n 0)
def Ku{l}{i j}{x}(hi:i<l.length):al (l.set i x) j=if j=i then x else al l j:=by
 unfold al;simp only[eE,mW];by_cases h:i=j
 ·subst h;simp[hi]
 ·rw[aJ h,aJ (λq=>h q.symm)]
def HI(f:Nat × Nat->Int):∀(l:List (Nat × Nat)) (y:List Int),(l.foldl (λy p=>y.set p.1 (f p)) y).length=y.length:=by
 intro l
 induction l with
 |nil=>intro y;rfl|cons p l ih=>intro y;rw[v9,ih];simp
def KW(f:Nat × Nat->Int){i}:∀(l:List (Nat × Nat)) (y:List Int),(∀p∈l,p.1≠i)->al (l.foldl (λy p=>y.set p.1 (f p)) y) i=al y i:=by
 intro l
 induction l with
 |nil=>intro y _;rfl|cons p l ih=>intro y h;rw[v9,ih _ λq hq=>h q (fM _ hq)];have:=h p gq;unfold al;simp only[eE];rw[Kd this]
def M3(st)(n):(qt st n).length=n:=by unfold qt;rw[HI (λp=>al (st.1.getD p.2 []) n)];simp
def auB{st}{n i}(h:i∉st.2):al (qt st n) i=0:=by
 unfold qt;rw[KW (λp=>al (st.1.getD p.2 []) n) _ _ λp hp q=>?_]
 ·unfold al;rw[eE,NY];split<;>rfl
 ·have:=List.fst_mem_of_mem_zipIdx hp;rw[q] at this;exact h this
def auD{c}{st}{n k p}(V:EB c st)(hn:c<=n)(h:st.2[k]?=aa p):al (qt st n) p=al (st.1.getD k []) n:=by
 unfold qt;obtain⟨hk,hp⟩:=aW.1 h;have hz:st.2.zipIdx=(st.2.zipIdx.take k)++(p,k)::(st.2.zipIdx.drop (k+1)):=by
  have Bp:k<st.2.zipIdx.length:=by simpa using hk
  have:=(zd k st.2.zipIdx).symm;rw[y6 Bp] at this;rw[ad0,hp] at this;simpa using this
 rw[hz,oI,v9,KW (λp=>al (st.1.getD p.2 []) n) _ _ λq hq e=>?_]
 ·rw[Ku,aH rfl];rw[HI (λp=>al (st.1.getD p.2 []) n)];have:=V.lt k p h;simp;omega
 ·obtain⟨i,hi,rfl⟩:=Cb.1 hq;rw[Uv,ad0] at e;simp only at e;have cY:k+1+i<st.2.length:=by simp at hi;omega
  have:=V.inc k (k+1+i) p _ ai h (aU cY);omega
def acR{f}{p}:∀n,p<n->(∀i,i<n->i≠p->f i=0)->cW ((List.range n).map f)=f p:=by
 intro n
 induction n with
 |zero=>intro h;omega|succ n ih=>
  intro hp h;rw[nD,mY,avv];simp only[eL,wc,cW];rcases ez p n with q|q
  ·rw[ih q λi hi=>h i ai,h n ai ai];omega
  ·have:p=n:=(by omega);subst this;have hz:cW ((bO p).map f)=0:=by
    have:∀l:List Nat,(∀i∈l,f i=0)->cW (l.map f)=0:=by
     intro l
     induction l with
     |nil=>intro _;rfl|cons x l ih2=>intro hl;simp only[eL,cW];rw[hl x gq,ih2 λi hi=>hl i (fM _ hi)];rfl
    exact this _ λi hi=>h i (by have:=gf.1 hi;omega) (by have:=gf.1 hi;omega)
   rw[hz];omega
def auC{t}{n}(hl:∀a∈t,a.length=n+1)(ho:∀a∈t,∀x∈a,okF x)(Qs:∀i a,(ju t n).2.length<=i->(ju t n).1[i]?=aa a->al a n=0):
 ∀a∈t,Sat (qt (ju t n) n) a:=by
 obtain⟨R,V⟩:=Jc hl ho (ai:n<=n+1);refine aqo hl ho (ai:n<=n+1) (by rw[M3];omega) λa ha=>?_;obtain⟨k,hk,rfl⟩:=Cb.1 ha;have Da:=aU hk;unfold Sat res dot;rw[M3];rcases ez k (ju t n).2.length with q|q
 ·have hp:=aU q;have aC:=V.lt k _ hp;rw[acR (p:=(ju t n).2[k]) n aC,auD V (aL _) hp,V.val k _ hp k _ Da,aH rfl,lU hk,J8,Un]
  ·exact adz _
  ·intro i hi bG;by_cases hm:i∈(ju t n).2
   ·obtain⟨j,hj,rfl⟩:=Cb.1 hm;rw[V.val j _ (aU hj) k _ Da,aJ (λe=>bG (by subst e;rfl)),NQ]
   ·rw[auB hm,Ka]
 ·rw[Qs k _ q Da];have hz:∀l:List Nat,(∀i∈l,i<n)->cW (l.map λi=>al (qt (ju t n) n) i * al (ju t n).1[k] i)=0:=by
   intro l
   induction l with
   |nil=>intro _;rfl|cons x l ih=>intro h;simp only[eL,cW];rw[R.zero k _ q Da x (h x gq),NQ,ih λi hi=>h i (fM _ hi)];rfl
  rw[hz _ λi hi=>gf.1 hi];exact adz _
end Go.NT
end
section
namespace Go.NT
abbrev fa:=BitVec 32
def ec(x:fa)(n:Nat):fa:=(x>>>n)|||(x<<<(32 - n))
def FP:List Nat:=[
 0x428a2f98,0x71374491,0xb5c0fbcf,0xe9b5dba5,0x3956c25b,0x59f111f1,0x923f82a4,0xab1c5ed5,
 0xd807aa98,0x12835b01,0x243185be,0x550c7dc3,0x72be5d74,0x80deb1fe,0x9bdc06a7,0xc19bf174,
 0xe49b69c1,0xefbe4786,0x0fc19dc6,0x240ca1cc,0x2de92c6f,0x4a7484aa,0x5cb0a9dc,0x76f988da,
 0x983e5152,0xa831c66d,0xb00327c8,0xbf597fc7,0xc6e00bf3,0xd5a79147,0x06ca6351,0x14292967,
 0x27b70a85,0x2e1b2138,0x4d2c6dfc,0x53380d13,0x650a7354,0x766a0abb,0x81c2c92e,0x92722c85,
 0xa2bfe8a1,0xa81a664b,0xc24b8b70,0xc76c51a3,0xd192e819,0xd6990624,0xf40e3585,0x106aa070,
 0x19a4c116,0x1e376c08,0x2748774c,0x34b0bcb5,0x391c0cb3,0x4ed8aa4a,0x5b9cca4f,0x682e6ff3,
 0x748f82ee,0x78a5636f,0x84c87814,0x8cc70208,0x90befffa,0xa4506ceb,0xbef9a3f7,0xc67178f2]
def zY(t:Nat):fa:=BitVec.ofNat 32 (FP.getD t 0)
def start:List fa:=[0x6a09e667#32,0xbb67ae85#32,0x3c6ef372#32,0xa54ff53a#32,0x510e527f#32,0x9b05688c#32,0x1f83d9ab#32,0x5be0cd19#32]
def dO(b:List UInt8)(i:Nat):UInt8:=b.getD i 0
def dt(w:List fa)(i:Nat):fa:=w.getD i 0#32
def qZ(b:List UInt8)(i:Nat):fa:=BitVec.ofNat 32 (((dO b i).toNat * 256+(dO b (i+1)).toNat) * 256 * 256+(dO b (i+2)).toNat * 256+(dO b (i+3)).toNat)
def FW(w:List fa)(t:Nat):fa:=
 dt w (t - 16)+(ec (dt w (t - 15)) 7^^^ec (dt w (t - 15)) 18^^^(dt w (t - 15))>>>3)+dt w (t - 7)+(ec (dt w (t - 2)) 17^^^ec (dt w (t - 2)) 19^^^(dt w (t - 2))>>>10)
def iS(b:List UInt8):Nat->List fa
 |0=>[]
 |n+1=>iS b n++[if n<16 then qZ b (4 * n) else FW (iS b n) n]
def Jh(w:List fa)(v:List fa)(t:Nat):List fa:=
 let e:=dt v 4
 let a:=dt v 0
 let p:=dt v 7+(ec e 6^^^ec e 11^^^ec e 25)+((e&&&dt v 5)^^^(~~~e&&&dt v 6))+zY t+dt w t
 let q:=(ec a 2^^^ec a 13^^^ec a 22)+((a&&&dt v 1)^^^(a&&&dt v 2)^^^(dt v 1&&&dt v 2))
 [p+q,a,dt v 1,dt v 2,dt v 3+p,e,dt v 5,dt v 6]
def xQ(s:List fa)(b:List UInt8):List fa:=
 let w:=iS b 64
 let v:=(bO 64).foldl (Jh w) s
 GZ (·+·) s v
def pT(n:Nat):Nat:=(119 - n%64)%64
def pN(n:Nat):List UInt8:=(bO 8).map λi=>UInt8.ofNat (n * 8/2^(8 * (7 - i)))
def rM(b:List UInt8):List UInt8:=b++0x80::br (pT b.length) 0++pN b.length
def hY:Nat->List fa->List UInt8->List fa
 |0,s,_=>s
 |n+1,s,b=>hY n (xQ s (b.take 64)) (b.drop 64)
def jY(s:List fa):List UInt8:=s.flatMap λx=>[UInt8.ofNat (x.toNat/16777216),UInt8.ofNat (x.toNat/65536),UInt8.ofNat (x.toNat/256),UInt8.ofNat x.toNat]
def fk(b:List UInt8):List UInt8:=jY (hY ((rM b).length/64) start (rM b))
def gO(bA b:List UInt8):List UInt8:=fk (fk bA++b)
def ahP(e f g:fa):g^^^(e&&&(f^^^g))=(e&&&f)^^^(~~~e&&&g):=by apply BitVec.eq_of_getLsbD_eq;intro i hi;simp only[BitVec.getLsbD_xor,BitVec.getLsbD_and,BitVec.getLsbD_not,hi,decide_true,rT];cases e.getLsbD i<;>cases f.getLsbD i<;>cases g.getLsbD i<;>rfl
def anB(a b c:fa):(a&&&b)|||(c&&&(a|||b))=(a&&&b)^^^(a&&&c)^^^(b&&&c):=by apply BitVec.eq_of_getLsbD_eq;intro i hi;simp only[BitVec.getLsbD_xor,BitVec.getLsbD_and,BitVec.getLsbD_or];cases a.getLsbD i<;>cases b.getLsbD i<;>cases c.getLsbD i<;>rfl
end Go.NT
end
section
namespace Go.NT
inductive Vl where
 |int (n:Int)
 |text (s:List UInt8)
 |list (l:List Vl)
def fY:Nat->Nat->List UInt8
 |0,u=>[UInt8.ofNat u]
 |k+1,u=>if u<128 then [UInt8.ofNat u] else UInt8.ofNat (u%128+128)::fY k (u/128)
def mr(n:Int):Nat:=if 0<=n then 2 * n.toNat else 2 * (-(n+1)).toNat+1
mutual
def dU:Vl->List UInt8
 | .int n=>1::fY 9 (mr n)
 | .text s=>2::(fY 9 s.length++s)
 | .list l=>3::(fY 9 l.length++jn l)
def jn:List Vl->List UInt8
 | []=>[]
 |v::l=>dU v++jn l
end
mutual
def gQ:Vl->Nat
 | .list l=>iE l+1
 |_=>0
def iE:List Vl->Nat
 | []=>0
 |v::l=>max (gQ v) (iE l)
end
def WG(l m):jn (l++m)=jn l++jn m:=by
 induction l with
 |nil=>simp[jn]|cons v l ih=>simp only[lO,jn,ih,ua]
def aaA{k u}(h:128<=u):fY (k+1) u=UInt8.ofNat (u%128+128)::fY k (u/128):=by rw[fY,aJ ai]
def aaz{k u}(h:u<128):fY k u=[UInt8.ofNat u]:=by
 cases k with|zero=>rfl|succ k=>rw[fY,aH h]
end Go.NT
end
section
namespace Go.NT
def cA(n:Int):Bool:=decide (0<=n)&&decide (n<Qi)
def de(ae:List (List Int))(ag:List Int):Int:=
 if decide (64<ae.length)||ae.any (λr=>decide (64<r.length)) then 2
 else if ae.length≠ag.length then 230
 else if (bO ae.length).all λi=> !(ae.getD i []).isEmpty&&decide ((ae.getD i []).length=(ae.getD 0 []).length)&&(decide (0<=al ag i)&&decide (al ag i<=63))&&(ae.getD i []).all cA then 0
 else 230
def bP(ae:List (List Int)):Nat:=if ae.length=0 then 1 else (ae.getD 0 []).length
def gj(n:Nat):List Int:=1::br (n - 1) 0
def fU:Int->List Int->Bool
 |_,[]=>ah
 |dk,n::l=>decide (dk<n)&&decide (n<=63)&&fU n l
def eS(ag au:List Int):List Nat:=(bO ag.length).filter λi=>au.contains (al ag i)
def gm(ae:List (List Int))(target:List Int):List (List Int):=(bO target.length).map λk=>ae.map (λr=>al r k)++[al target k]
def qJ(ae:List (List Int))(target:List Int):Option (List Int):=
 let st:=ju (gm ae target) ae.length
 if (st.1.drop st.2.length).all (λa=>decide (al a ae.length=0)) then aa (qt st ae.length) else av
def sQ(n:Nat)(at_:List Nat)(l:List Int):List Int:=at_.zipIdx.foldl (λy p=>y.set p.1 (al l p.2)) (br n 0)
def fV(ae:List (List Int))(ag au:List Int):List Int × Bool × Int:=
 if de ae ag≠0 then ([],aB,de ae ag)
 else if !fU (-1) au then ([],aB,1)
 else match qJ ((eS ag au).map λi=>ae.getD i []) (gj (bP ae)) with
  |none=>([],aB,0)
  |some l=>(sQ ae.length (eS ag au) l,ah,0)
structure Pr where
 aA:Int
 no:Int
 d:Int
 e:Int
def bN(x:Int):Bool:=decide (1<=x)&&elem x.toNat
def Pr.val(p:Pr):Vl:=.list [.int p.aA,.int p.no,.int p.d,.int p.e]
def uP(l:List Pr):Vl:=.list (l.map Pr.val)
def nj(b:List UInt8):Nat:=((b.take 8).foldl (λn c=>n * 256+c.toNat) 0%9223372036854775808)%Q
def uw(bA:List UInt8)(v:Vl):Nat:=nj (gO bA (dU v))
def DV:List UInt8:=[98,105,110,100]
def yJ:List UInt8:=[115,105,103,110]
def fC(c0:Int)(text:List UInt8)(l:List Pr)(aA:Int):Nat:=uw DV (.list [.int c0,.text text,uP l,.int aA])
def iZ(c0:Int)(text:List UInt8)(l:List Pr)(p:Pr):Nat:=p.d.toNat * tT p.e.toNat (fC c0 text l p.aA)%P
def iQ(c0:Int)(text:List UInt8)(l:List Pr):Nat:=l.foldl (λx p=>x * iZ c0 text l p%P) 1
def uT(point key:Int)(text:List UInt8):Nat:=uw yJ (.list [.int point,.int key,.text text])
def gE:Int->List Pr->Bool
 |_,[]=>ah
 |dk,x::l=>decide (dk<x.aA)&&decide (x.aA<64)&&decide (0<=x.no)&&decide (x.no<4096)&&bN x.d&&bN x.e&&gE x.aA l
def cP(ae:List (List Int))(ag:List Int)(epoch:Int)(aj:List Int)(text:List UInt8)(l:List Pr):Int:=
 if de ae ag≠0 then de ae ag
 else if !(decide (0<=epoch)&&decide (epoch<=64)&&decide (aj.length=bP ae)&&aj.all bN) then 380
 else if 65536<text.length then 2
 else if 64<l.length then 420
 else if !gE (-1) l then 420
 else match fV ae ag (l.map Pr.aA) with
  |(_,ok,e)=>if e≠0∨ok=aB∨l.length=0 then 420 else 0
end Go.NT
end
section
namespace Go.NT
def bH(x:Nat)(n:Int):Nat:=tT x (fmod n).toNat
def Pu(n):(fmod n).toNat<Q:=by have:=E6 n;obtain⟨h1,h2⟩:=this;rw[Cm] at h2;omega
def Ag(x)(n):bH x n=x^(fmod n).toNat%P:=Sk (qy (Pu n) aZ)
def aa4{x}(hx:elem x=ah)(n:Nat):bH x (n:Int)=x^n%P:=by
 have e:(fmod (n:Int)).toNat=n%Q:=by unfold fmod;rw[Cm,<-Uk,dW]
 rw[Ag,e,apB hx]
def apv(x)(n):bH x (fmod n)=bH x n:=by unfold bH;rw[CK (E6 n)]
def xd{x}(hx:elem x=ah)(n):elem (bH x n)=ah:=by rw[Ag];exact ajg hx _
def I6{x}{a b}(h:a%Qi=b%Qi):bH x a=bH x b:=by unfold bH fmod;rw[h]
def CL(n):((fmod n).toNat:Int)=fmod n:=by have:=(E6 n).1;omega
def F4{x}(hx:elem x=ah)(a b):bH x (a+b)=bH x a * bH x b%P:=by
 have h:(a+b)%Qi=(((fmod a).toNat+(fmod b).toNat:Nat):Int)%Qi:=by rw[adE,CL,CL,ady];rfl
 rw[I6 h,aa4 hx,aew,uc,<-Ag,<-Ag]
def F5{x}(hx:elem x=ah)(a b):bH x (a * b)=bH (bH x a) b:=by
 have h:(a * b)%Qi=(((fmod a).toNat * (fmod b).toNat:Nat):Int)%Qi:=by rw[yY,CL,CL,BY];rfl
 rw[I6 h,aa4 hx,Hi,Ag (bH x a) b,Ag x a,<-Hh]
def aa5(x):bH x 0=1:=by rw[Ag];rfl
def apy{x}(hx:elem x=ah):bH x 1=x:=by rw[Ag];show x^1%P=x;rw[Nat.pow_one,oJ (elem_iff.1 hx).2.1]
def apx{x}(hx:elem x=ah)(a):bH x a * bH x (-a)%P=1:=by rw[<-F4 hx,Int.add_right_neg,aa5]
end Go.NT
end
section
namespace Go.Proofs.YtnfciiiohoafaaaGreatDoor
open Go.AE Go.RowKit
def Tt:List AV:=NT.start.map aX
def IY:List AV:=NT.FP.map λ(n:Nat)=>AV.v (.int .u32 (n:Int))
def Gt:Nat->Option (List AV):=λg=>if g=0 then aa Tt else if g=1 then aa IY else if g=1022017∨g=1022035∨g=1023037∨g=1023048∨g=1023063∨g=1023125∨g=1094104 then aa [] else av
def aQ:bq->Option (List AV->ar->Option (AV × ar)):=λ_=>av
noncomputable abbrev W:=whole aq Gt aQ
structure ao(p:Prop):Prop where
 out:p
def im(n:Int):AV:=.v (.int .i64 n)
def yq(n:Int):List AV:=[im n]
def ints(l:List Int):List (List AV):=l.map yq
def dE(l):(ints l).length=l.length:=by simp[ints]
def ZL(l)(i:Nat):(ints l)[i]?=(l[i]?).map yq:=by simp[ints]
def i64(n:Int):Prop:= -9223372036854775808<=n/\n<=9223372036854775807
def fh:gY aq 3=aa aB:=by kernel_rfl
def fR:dJ aq 3=aa 1:=by kernel_rfl
def Z0{h}{l}{i}{x}(hx:l[i]?=aa x):aI aq Gt h 3 (.elem 1 (ints l) i 0)=aa (im x):=by
 have hr:(ints l)[i]?=aa (yq x):=by rw[ZL,hx];rfl
 rw[sI fh hr];rfl
def afD{h}{d}{ts}{ty:Nat}{s x}(bG:1000 * ty+d≠22017/\1000 * ty+d≠22035/\1000 * ty+d≠23037/\1000 * ty+d≠23048/\1000 * ty+d≠23063/\1000 * ty+d≠23125/\1000 * ty+d≠94104):tv aq Gt (aa d) h .append ts ty [s,x]=hU aq h ts s x:=by refine afF ?_;unfold JP Gt;rw[aJ ai,aJ ai,aJ (by simp only[Kk];omega)];rfl
def afE{h}{d}{ts}{ty:Nat}{s x}(hy:1000 * ty+d=22017∨1000 * ty+d=22035∨1000 * ty+d=23037∨1000 * ty+d=23048∨1000 * ty+d=23063∨1000 * ty+d=23125∨1000 * ty+d=94104):tv aq Gt (aa d) h .append ts ty [s,x]=sU aq h ts s x:=by refine afG ?_;unfold JP Gt;rw[aJ ai,aJ ai,aH (by simp only[Kk];omega)];rfl
def aO{α:Type}[BEq α][ReflBEq α](a:α):(a==a)=ah:=beq_self_eq_true a
def aw{p:Prop}(h:p:=by kernel_rfl):p:=h
set_option linter.defProp false in
def gW:=az goS (az goT (az goH (az goU (az @afD (az @afE (az @Je.eq_1 (az @xk.eq_1 (az @xk.eq_2 (az @xk.eq_3 (az @eo.eq_1 (az @eo.eq_2 (az @eo.eq_3 (az @eo.eq_4 (az @eo.eq_5 (az @eo.eq_6 (az @eo.eq_7 (az @eo.eq_8 (az @eo.eq_9 (az @eo.eq_10 (az @eo.eq_11 (az @eo.eq_12 (az @eo.eq_13 (az @eo.eq_14 (az @eo.eq_15 (az @eo.eq_16 (az @eo.eq_17 (az @eo.eq_18 (az @eo.eq_19 (az @eo.eq_20 (az @eo.eq_21 (az @eo.eq_22 @eo.eq_23)))))))))))))))))))))))))))))))
def gS{p:Prop}(h:p:=by simp only[gW,reduceIte,Nat.reduceEqDiff,aO]):p:=h
def gR{p:Prop}(h:p:=by simp only[gW,reduceIte,Nat.reduceEqDiff,aO]<;>rfl):p:=h
def gA{p:Prop}(h:p:=by simp only[gW,reduceIte,Nat.reduceEqDiff,aO]<;>assumption):p:=h
def zy{p q:Prop}(x:q)(f:ao q->p:=by intro h;(repeat' (first|simp(maxSteps:=9999999) (disch:=first|exact dZ|fail) only[gW,reduceIte,Nat.reduceEqDiff,aO, *,-h]|refine dX ?_ ?_<;>(intro _;try omega)));exact h.out;fail_if_success refine ?_):p:=f ⟨x⟩
def bC{a0:Prop}{p q:Prop}(y0:a0)(x:q)(f:a0->ao q->p:=by intro y0 h;(repeat' (first|simp(maxSteps:=9999999) (disch:=first|exact dZ|fail) only[gW,reduceIte,Nat.reduceEqDiff,aO, *,-h]|refine dX ?_ ?_<;>(intro _;try omega)));exact h.out;fail_if_success refine ?_):p:=f y0 ⟨x⟩
def lV{a0:Prop}{p:Prop}(y0:a0)(f:a0->p:=by intro y0;(repeat' (first|simp(maxSteps:=9999999) (disch:=first|exact dZ|fail) only[gW,reduceIte,Nat.reduceEqDiff,aO, *]|refine dX ?_ ?_<;>(intro _;try omega)));fail_if_success refine ?_):p:=f y0
def bQ{a0 a1:Prop}{p q:Prop}(y0:a0)(y1:a1)(x:q)(f:a0->a1->ao q->p:=by intro y0 y1 h;(repeat' (first|simp(maxSteps:=9999999) (disch:=first|exact dZ|fail) only[gW,reduceIte,Nat.reduceEqDiff,aO, *,-h]|refine dX ?_ ?_<;>(intro _;try omega)));exact h.out;fail_if_success refine ?_):p:=f y0 y1 ⟨x⟩
def jw{a0 a1:Prop}{p:Prop}(y0:a0)(y1:a1)(f:a0->a1->p:=by intro y0 y1;(repeat' (first|simp(maxSteps:=9999999) (disch:=first|exact dZ|fail) only[gW,reduceIte,Nat.reduceEqDiff,aO, *]|refine dX ?_ ?_<;>(intro _;try omega)));fail_if_success refine ?_):p:=f y0 y1
def cX{a0 a1 a2:Prop}{p q:Prop}(y0:a0)(y1:a1)(y2:a2)(x:q)(f:a0->a1->a2->ao q->p:=by intro y0 y1 y2 h;(repeat' (first|simp(maxSteps:=9999999) (disch:=first|exact dZ|fail) only[gW,reduceIte,Nat.reduceEqDiff,aO, *,-h]|refine dX ?_ ?_<;>(intro _;try omega)));exact h.out;fail_if_success refine ?_):p:=f y0 y1 y2 ⟨x⟩
def si{a0 a1 a2:Prop}{p:Prop}(y0:a0)(y1:a1)(y2:a2)(f:a0->a1->a2->p:=by intro y0 y1 y2;(repeat' (first|simp(maxSteps:=9999999) (disch:=first|exact dZ|fail) only[gW,reduceIte,Nat.reduceEqDiff,aO, *]|refine dX ?_ ?_<;>(intro _;try omega)));fail_if_success refine ?_):p:=f y0 y1 y2
def bK{a0 a1 a2 a3:Prop}{p q:Prop}(y0:a0)(y1:a1)(y2:a2)(y3:a3)(x:q)(f:a0->a1->a2->a3->ao q->p:=by intro y0 y1 y2 y3 h;(repeat' (first|simp(maxSteps:=9999999) (disch:=first|exact dZ|fail) only[gW,reduceIte,Nat.reduceEqDiff,aO, *,-h]|refine dX ?_ ?_<;>(intro _;try omega)));exact h.out;fail_if_success refine ?_):p:=f y0 y1 y2 y3 ⟨x⟩
def oj{a0 a1 a2 a3:Prop}{p:Prop}(y0:a0)(y1:a1)(y2:a2)(y3:a3)(f:a0->a1->a2->a3->p:=by intro y0 y1 y2 y3;(repeat' (first|simp(maxSteps:=9999999) (disch:=first|exact dZ|fail) only[gW,reduceIte,Nat.reduceEqDiff,aO, *]|refine dX ?_ ?_<;>(intro _;try omega)));fail_if_success refine ?_):p:=f y0 y1 y2 y3
def pD{a0:Prop}{p q:Prop}(y0:a0)(x:q)(f:a0->ao q->p:=by intro y0 h;(repeat' (first|simp(maxSteps:=9999999) (disch:=first|exact dZ|fail) only[gW,reduceIte,Nat.reduceEqDiff,aO, *,-h]|(refine dX ?_ ?_<;>(intro _;try omega))|refine vS aw ?_));exact h.out;fail_if_success refine ?_):p:=f y0 ⟨x⟩
def jx{a0:Prop}{p:Prop}(y0:a0)(f:a0->p:=by intro y0;(repeat' (first|simp(maxSteps:=9999999) (disch:=first|exact dZ|fail) only[gW,reduceIte,Nat.reduceEqDiff,aO, *]|(refine dX ?_ ?_<;>(intro _;try omega))|refine vS aw ?_));fail_if_success refine ?_):p:=f y0
def Pz{a0 a1:Prop}{p q:Prop}(y0:a0)(y1:a1)(x:q)(f:a0->a1->ao q->p:=by intro y0 y1 h;(repeat' (first|simp(maxSteps:=9999999) (disch:=first|exact dZ|fail) only[gW,reduceIte,Nat.reduceEqDiff,aO, *,-h]|(refine dX ?_ ?_<;>(intro _;try omega))|refine vS aw ?_));exact h.out;fail_if_success refine ?_):p:=f y0 y1 ⟨x⟩
def Xx{a0 a1:Prop}{p:Prop}(y0:a0)(y1:a1)(f:a0->a1->p:=by intro y0 y1;(repeat' (first|simp(maxSteps:=9999999) (disch:=first|exact dZ|fail) only[gW,reduceIte,Nat.reduceEqDiff,aO, *]|(refine dX ?_ ?_<;>(intro _;try omega))|refine vS aw ?_));fail_if_success refine ?_):p:=f y0 y1
def PA{a0 a1 a2:Prop}{p q:Prop}(y0:a0)(y1:a1)(y2:a2)(x:q)(f:a0->a1->a2->ao q->p:=by intro y0 y1 y2 h;(repeat' (first|simp(maxSteps:=9999999) (disch:=first|exact dZ|fail) only[gW,reduceIte,Nat.reduceEqDiff,aO, *,-h]|(refine dX ?_ ?_<;>(intro _;try omega))|refine vS aw ?_));exact h.out;fail_if_success refine ?_):p:=f y0 y1 y2 ⟨x⟩
def ya{a0 a1 a2:Prop}{p:Prop}(y0:a0)(y1:a1)(y2:a2)(f:a0->a1->a2->p:=by intro y0 y1 y2;(repeat' (first|simp(maxSteps:=9999999) (disch:=first|exact dZ|fail) only[gW,reduceIte,Nat.reduceEqDiff,aO, *]|(refine dX ?_ ?_<;>(intro _;try omega))|refine vS aw ?_));fail_if_success refine ?_):p:=f y0 y1 y2
def K6{a0 a1 a2 a3:Prop}{p:Prop}(y0:a0)(y1:a1)(y2:a2)(y3:a3)(f:a0->a1->a2->a3->p:=by intro y0 y1 y2 y3;(repeat' (first|simp(maxSteps:=9999999) (disch:=first|exact dZ|fail) only[gW,reduceIte,Nat.reduceEqDiff,aO, *]|(refine dX ?_ ?_<;>(intro _;try omega))|refine vS aw ?_));fail_if_success refine ?_):p:=f y0 y1 y2 y3
end Go.Proofs.YtnfciiiohoafaaaGreatDoor
end
section
namespace Go.Proofs.YtnfciiiohoafaaaGreatDoor
open Go.AE Go.NT
def Gv(n):(n.tmod 1073741789<0->fmod n=n.tmod 1073741789+1073741789)/\(¬n.tmod 1073741789<0->fmod n=n.tmod 1073741789)/\ -1073741789<n.tmod 1073741789/\n.tmod 1073741789<1073741789:=by
 unfold fmod Qi;rcases Int.le_total 0 n with h|h
 ·rw[J9 h];omega
 ·obtain⟨m,rfl⟩:∃m,n= -m:=⟨-n,by omega⟩;rw[Int.neg_tmod,J9 ai];omega
def abY:Tryz.f82.results.toList=[.tmp 2]:=aw
def S9:Tryz.f81.results.toList=[.tmp 2]:=aw
def as0:Tryz.f28.results.toList=[.tmp 4]:=aw
def as1:Tryz.f29.results.toList=[.tmp 4]:=aw
def LV(n:Int)(h:ar):W.call 82 [im n] h=aa (.ret (im (fmod n)),h):=by
 obtain⟨m1,m2,m3,m4⟩:=Gv n;unfold im;refine cN rfl Tryz.func82 rfl ?_;by_cases c:n.tmod 1073741789<0
 ·have e:=m1 c;clear m1 m2;exact jx @abY
 ·have e:=m2 c;clear m1 m2;exact jx @abY
def CJ(n):0<=fmod n/\fmod n<1073741789:=E6 n
def Gw{a:Int}(h:0<=a):a.tmod 1073741789=a%1073741789:=J9 h
def RQ(a b:Int)(h:ar):W.call 29 [im a,im b] h=aa (.ret (im (df a b)),h):=by
 have ca:=LV a;have cb:=LV b;obtain⟨a1,a2⟩:=CJ a;obtain⟨b1,b2⟩:=CJ b;have p0:0<=fmod a * fmod b:=Uh a1 b1;have p1:fmod a * fmod b<=1073741789 * 1073741789:=Ug ai ai b1 ai;have e:df a b=(fmod a * fmod b).tmod 1073741789:=by rw[Gw p0];rfl
 rw[e];unfold im at *
 refine cN rfl Tryz.func29 rfl ?_;exact jx @as1
def vU(l:List Int):Int:=l.foldl dj 0
def acL(l)(x):vU (l++[x])=dj (vU l) x:=by unfold vU;rw[oI];rfl
def acK(l):okF (vU l):=by
 rcases List.eq_nil_or_concat l with rfl|⟨l',x,rfl⟩
 ·exact BJ
 ·rw[List.concat_eq_append,acL];exact KP _ _
def fE{α:Type}{l:List α}{i}{x}(h:l[i]?=aa x):l.take (i+1)=l.take i++[x]:=by obtain⟨hi,rfl⟩:=aW.1 h;rw[aeh hi]
def avA(l:List Int)(k:Tok)(hl:l.length<=9223372036854775807)(h:ar):W.call 81 [.list k 1 (ints l)] h=aa (.ret (im (vU l)),h):=by
 have u23:=dY;have a3:=fh;have s3:=fR;refine cN rfl Tryz.func81 rfl ?_;refine Pz @S9 @dE ?_;refine cH (λm e h'=>∃i:Nat,i<=l.length/\m=l.length - i/\e.get 6=.list k 1 (ints l)/\e.get 7=.v (.int .i64 (l.length:Nat))/\e.get 8=.v (.int .i64 i)/\e.get 3=.v (.int .i64 (vU (l.take i)))/\e.defers=[]/\h'=h) ?_ l.length _ _ ?_;rotate_left 1
 ·refine⟨0,cD _,rfl,?_,?_,?_,?_,?_,rfl⟩<;>(first|assumption|(simp only[gW,reduceIte,aS,aO,dE]<;>rfl))
 rintro m e h' ⟨i,hi,rfl,g6,g7,g8,g3,hd,rfl⟩;by_cases aC:i<l.length
 ·obtain⟨x,hx⟩:∃x,l[i]?=aa x:=⟨_,aU aC⟩;have hr:(ints l)[i]?=aa (yq x):=by rw[ZL,hx];rfl
  have alL:(i:Int)<((ints l).length:Int):=by rw[dE];omega
  have cx:=LV x;obtain⟨x1,x2⟩:=CJ x;obtain⟨s1,s2⟩:=acK (l.take i);have s2:vU (l.take i)<1073741789:=s2;have e1:vU (l.take (i+1))=(vU (l.take i)+fmod x).tmod 1073741789:=by rw[fE hx,acL,Gw ai];show(fmod (vU (l.take i))+fmod x)%Qi=_;rw[CK (acK _)];rfl
  unfold im at cx;generalize vU (l.take i)=s at *
  have Qu:=Z0 (h:=h') hx;unfold im at Qu;refine PA @S9 @dE @bp ?_;exact⟨l.length - (i+1),by omega,i+1,by omega,rfl,by trivial,by trivial,by simp,by rw[e1],by trivial,by trivial⟩
 ·have:i=l.length:=by omega
  subst this;rw[fN] at g3
  repeat' (first|simp(maxSteps:=999999)(disch:=first|exact dZ|fail)only[gW,reduceIte,aS,aO,S9,dE,im, *]|(refine dX ?_ ?_<;>(intro _;try omega))|refine vS aw ?_)
def afe(a b:Int)(h:ar):W.call 28 [im a,im b] h=aa (.ret (im (dj a b)),h):=by
 have c:=avA [a,b] .tight bJ h;have e:vU [a,b]=dj a b:=by show dj (dj 0 a) b=dj a b;rw[CD,CD,CD,GO,Int.emod_add_emod]
 rw[e] at c;have bl:gG aq 23 2 [(0,im a),(1,im b)]=aa (.list .tight 1 (ints [a,b])):=aw;unfold im at *
 refine cN rfl Tryz.func28 rfl ?_;exact jx @as0
def Sm(a):∀k:Nat,(a%Qi)^k%Qi=a^k%Qi:=by
 intro k
 induction k with
 |zero=>simp|succ k ih=>rw[yZ,yZ,BY,ih,Eo _ (En _),<-BY]
def anY(n)(k):(((fmod n).toNat^k%Q:Nat):Int)=n^k%Qi:=by rw[Uk,Int.natCast_pow,CL,<-Cm];exact Sm n k
def rY(r:Int)(l:Nat)(s x:Int):Prop:=okF x/\(x * s^l)%Qi=r
def rY.DJ{r s x}{l}(h:rY r l s x)(ho:l%2=1):rY r (l/2) (df s s) (df x s):=by
 refine⟨HH _ _,?_⟩;rw[<-h.2,ur,ur,BY,Sm,Eo _ (En _),<-BY,yX];congr 2;have e:l=2 * (l/2)+1:=by omega
 rw[show s^l=s^(2 * (l/2)+1) by rw[<-e],yZ,GN,AG,show s * s=s^2 by rw[yZ,yZ,NR,GL]]
def rY.even{r s x}{l}(h:rY r l s x)(ho:l%2=0):rY r (l/2) (df s s) x:=by
 refine⟨h.1,?_⟩;rw[<-h.2,ur,BY,Sm,<-BY];congr 2;have e:l=2 * (l/2):=by omega
 rw[show s^l=s^(2 * (l/2)) by rw[<-e],GN,show s * s=s^2 by rw[yZ,yZ,NR,GL]]
def rY.done{r s x}(h:rY r 0 s x):x=r:=by rw[<-h.2,NR,J8];exact(NN h.1.1 h.1.2).symm
def rY.start(n):rY (eU n) 1073741787 n 1:=by
 refine⟨by unfold okF;decide,?_⟩;have e:(eU n)=(((fmod n).toNat^(Q - 2)%Q:Nat):Int):=by unfold eU;rw[KQ aZ aZ aZ,Ez]
 rw[e,anY,GL];rfl
def Ju:Tryz.f201.results.toList=[.tmp 2,.tmp 3]:=aw
def amz(n:Int)(h:ar):W.call 201 [im n] h=aa (.ret (.tuple [im (if fmod n=0 then 0 else eU n),im (if fmod n=0 then 90 else 0)]),h):=by
 have cn:=LV n;by_cases hz:fmod n=0
 ·rw[aH hz,aH hz];unfold im at *
  refine cN rfl aeM rfl ?_;exact jx @Ju
 ·rw[aJ hz,aJ hz];have P0:=ao.mk (rY.start n);unfold im at *
  refine cN rfl aeM rfl ?_;refine pD @Ju ?_;refine cH (λm e h'=>∃(s x:Int),m<=1073741787/\rY (eU n) m s x/\e.get 4=.v (.int .i64 (m:Nat))/\e.get 5=.v (.int .i64 s)/\e.get 2=.v (.int .i64 x)/\e.defers=[]/\h'=h) ?_ 1073741787 _ _ ?_;rotate_left 1
  ·exact⟨n,1,aL _,P0.out,by exact gR,by exact gR,by exact gR,by exact gR,rfl⟩
  rintro l e h' ⟨s,x,hl,hI,g4,g5,g2,hd,rfl⟩;have kI:=ao.mk hI;have c1:=RQ x s;have c2:=RQ s s;unfold im at c1 c2;by_cases h0:l=0
  ·subst h0;have hx:=hI.done;clear hI;exact jx @Ju
  ·have hdiv:((l:Nat):Int).tdiv 2=((l/2:Nat):Int):=(by rw[adK ai];omega);have Bs:((l:Nat):Int).tmod 2=((l%2:Nat):Int):=(by rw[J9 ai];omega);have gV:¬((l:Nat):Int)=0:=(by omega);clear hI;rcases Ci l with ho|ho
   ·rw[ho] at Bs;refine pD @Ju ?_;exact⟨l/2,by omega,_,_,by omega,kI.out.even ho,by trivial,by trivial,by trivial,by trivial,by trivial⟩
   ·rw[ho] at Bs;refine pD @Ju ?_;exact⟨l/2,by omega,_,_,by omega,kI.out.DJ ho,by trivial,by trivial,by trivial,by trivial,by trivial⟩
def MY(b:Bool):Nat:=if b=ah then 0 else 1
def td(x a n:Nat)(sq:Bool):Prop:=1<=a/\n%2=1/\o9 a n/\a<=P/\n<=P/\mu x P%2=(mu a n+MY sq)%2
def aca(b):(MY (!b)+1)%2=MY b%2:=by cases b<;>rfl
def td.even{x a n}{sq}(h:td x a n sq)(he:a%2=0):td x (a/2) n (if n%8=3∨n%8=5 then !sq else sq):=by
 obtain⟨h1,h2,h3,h4,h5,h6⟩:=h;have e:a=2 * (a/2):=by omega
 have hc:o9 (2 * (a/2)) n:=by rw[<-e];exact h3
 have hs:=ava h2 hc;rw[<-e] at hs;refine⟨ai,h2,aei hc,by omega,h5,?_⟩;rw[h6];have:=aca sq;split at hs<;>rename_i q
 ·rw[aH q];omega
 ·rw[aJ q];omega
def td.DJ{x a n}{sq}(h:td x a n sq)(ho:a%2=1)(hg:1<a):td x (n%a) a (if a%4=3/\n%4=3 then !sq else sq):=by
 obtain⟨h1,h2,h3,h4,h5,h6⟩:=h;have hs:=avc h2 ho h3;have hl:=nF n (ai:0<a);have h0:n%a≠0:=λq=>by have hd:=G9 q;have:=Nat.dvd_gcd (Nat.dvd_refl a) hd;rw[h3] at this;have:=Ex aZ this;omega
 refine⟨ai,ho,aiw h3,by omega,h4,?_⟩;rw[h6];have:=aca sq;split at hs<;>rename_i q
 ·rw[aH q];omega
 ·rw[aJ q];omega
def td.done{x n}{sq}(h0:1<=x)(hx:x<P)(h:td x 1 n sq):elem x=sq:=by
 obtain⟨-,h2,-,-,-,h6⟩:=h;rw[anR (h:=n/2) ai] at h6;rw[ajf h0 hx];cases sq
 ·rw[cS];rw[h6];decide
 ·rw[b8];rw[h6];rfl
def td.start{x}(h0:1<=x)(hx:x<P):td x x P ah:=⟨h0,by decide,UK.coprime h0 hx,nY hx,aL _,by rw[show MY ah=0 from rfl,Cf]⟩
def vQ:Tryz.f46.results.toList=[.tmp 2]:=aw
def JO(a b):((a:Nat):Int).tdiv (b:Nat)=((a/b:Nat):Int):=by rw[adK ai];simp
def pR(a b):((a:Nat):Int).tmod (b:Nat)=((a%b:Nat):Int):=by rw[J9 ai];simp
def KK{x}(h:x<1∨2147483579<=x):bN x=aB:=by
 unfold bN;rcases h with h|h
 ·rw[cS ai];rfl
 ·have:elem x.toNat=aB:=by rw[Bool.eq_false_iff];intro q;have:=(elem_iff.1 q).2.1;have hP:P=2147483579:=rfl;omega
  rw[this,Bool.and_false]
def Nq(x:Int)(h:ar):W.call 46 [im x] h=aa (.ret (.v (.bool (bN x))),h):=by
 by_cases hx:x<1
 ·rw[KK (.inl hx)];unfold im;refine cN rfl U1 rfl ?_;exact jx @vQ
 by_cases hy:2147483579<=x
 ·rw[KK (.inr hy)];unfold im;refine cN rfl U1 rfl ?_;exact jx @vQ
 obtain⟨n0,rfl⟩:∃n:Nat,x=n:=⟨x.toNat,by omega⟩;have h1:1<=n0:=by omega
 have h2:n0<P:=by have:P=2147483579:=rfl;omega
 have yj:∀{m:Nat} {sq:Bool},td n0 1 m sq->bN (n0:Int)=sq:=λhh=>by unfold bN;rw[b8 ai,dW,hh.done h1 h2];rfl
 have k0:=ao.mk (td.start h1 h2);have kf:=ao.mk @yj;clear yj;unfold im;generalize bN (n0:Int)=res at *
 have hnP:(n0:Int)<2147483579:=by omega
 clear h2;refine cN rfl U1 rfl ?_;refine pD @vQ ?_;refine cH (λm e h'=>∃(n:Nat) (sq:Bool),td n0 m n sq/\e.get 0=.v (.int .i64 (m:Nat))/\e.get 3=.v (.int .i64 (n:Nat))/\e.get 4=.v (.bool sq)/\e.defers=[]/\h'=h) ?_ n0 _ _ ?_;rotate_left 1
 ·exact⟨2147483579,ah,k0.out,by exact gR,by exact gR,by exact gR,by exact gR,rfl⟩
 rintro a e h' ⟨n,sq,hI,g0,g3,g4,hd,rfl⟩;have kI:=ao.mk hI;have vp:=hI.1;have ha4:a<=2147483579:=hI.2.2.2.1;by_cases Fv:a=1
 ·subst Fv;have hr:=kf.out hI;clear hI;exact jx @vQ
 have Ig:(1:Int)<(a:Int):=by omega
 clear hI;refine pD @vQ ?_;refine cH (λm e Xy=>∃(sq:Bool),m<=a/\td n0 m n sq/\e.get 0=.v (.int .i64 (m:Nat))/\e.get 3=.v (.int .i64 (n:Nat))/\e.get 4=.v (.bool sq)/\e.defers=[]/\Xy=h') ?_ a _ _ ?_;rotate_left 1
 ·exact⟨sq,aL _,kI.out,by first|assumption|(exact gA),by first|assumption|(exact gA),by first|assumption|(exact gA),by first|assumption|(exact gA),rfl⟩
 clear g0 g3 g4 hd kI sq;rintro b e Xy ⟨sq,Be,hI,g0,g3,g4,hd,rfl⟩;have kI:=ao.mk hI;have lY:=hI.1;have uE:=hI.2.1;have axz:n<=2147483579:=hI.2.2.2.2.1;clear hI;have m2:((b:Nat):Int).tmod 2=((b%2:Nat):Int):=pR b 2;have d2:((b:Nat):Int).tdiv 2=((b/2:Nat):Int):=JO b 2;have m8:((n:Nat):Int).tmod 8=((n%8:Nat):Int):=pR n 8;have mb4:((b:Nat):Int).tmod 4=((b%4:Nat):Int):=pR b 4;have mn4:((n:Nat):Int).tmod 4=((n%4:Nat):Int):=pR n 4;have mnb:=pR n b;rcases Ci b with hb|hb
 ·have hE:=kI.out.even hb;rw[hb,tY] at m2;by_cases c3:n%8=3
  ·rw[aH (.inl c3)] at hE;have m8:((n:Nat):Int).tmod 8=3:=(by rw[m8,c3];rfl);have kE:=ao.mk hE;clear hE;refine pD @vQ ?_;exact⟨b/2,by omega,_,by omega,kE.out,(by first|exact aY|exact rfl),(by first|exact aY|exact rfl),(by first|exact aY|exact rfl),(by first|exact aY|exact rfl),(by first|exact aY|exact rfl)⟩
  ·by_cases c5:n%8=5
   ·rw[aH (.inr c5)] at hE;have m8:((n:Nat):Int).tmod 8=5:=(by rw[m8,c5];rfl);have kE:=ao.mk hE;clear hE;refine pD @vQ ?_;exact⟨b/2,by omega,_,by omega,kE.out,(by first|exact aY|exact rfl),(by first|exact aY|exact rfl),(by first|exact aY|exact rfl),(by first|exact aY|exact rfl),(by first|exact aY|exact rfl)⟩
   ·rw[aJ ai] at hE;have kE:=ao.mk hE;have c3':¬(((n%8:Nat):Int)=3):=(by omega);have c5':¬(((n%8:Nat):Int)=5):=(by omega);clear hE;refine pD @vQ ?_;exact⟨b/2,by omega,_,by omega,kE.out,(by first|exact aY|exact rfl),(by first|exact aY|exact rfl),(by first|exact aY|exact rfl),(by first|exact aY|exact rfl),(by first|exact aY|exact rfl)⟩
 ·rw[hb,Ul] at m2;by_cases ak6:b=1
  ·subst ak6;have hr:=kf.out kI.out;exact jx @vQ
  ·have hO:=kI.out.DJ hb ai;have bG:¬((b:Nat):Int)=1:=(by omega);have hnz:¬((b:Nat):Int)=0:=(by omega);have aC:=nF n (ai:0<b);by_cases c4:b%4=3
   ·by_cases c5:n%4=3
    ·rw[aH ⟨c4,c5⟩] at hO;have mb4:((b:Nat):Int).tmod 4=3:=(by rw[mb4,c4];rfl);have mn4:((n:Nat):Int).tmod 4=3:=(by rw[mn4,c5];rfl);have kO:=ao.mk hO;clear hO;refine pD @vQ ?_;exact⟨n%b,by omega,b,_,kO.out,(by first|exact aY|exact rfl),(by first|exact aY|exact rfl),(by first|exact aY|exact rfl),(by first|exact aY|exact rfl),(by first|exact aY|exact rfl)⟩
    ·rw[aJ ai] at hO;have mb4:((b:Nat):Int).tmod 4=3:=(by rw[mb4,c4];rfl);have c5':¬(((n%4:Nat):Int)=3):=(by omega);have kO:=ao.mk hO;clear hO;refine pD @vQ ?_;exact⟨n%b,by omega,b,_,kO.out,(by first|exact aY|exact rfl),(by first|exact aY|exact rfl),(by first|exact aY|exact rfl),(by first|exact aY|exact rfl),(by first|exact aY|exact rfl)⟩
   ·rw[aJ ai] at hO;have c4':¬(((b%4:Nat):Int)=3):=(by omega);have kO:=ao.mk hO;clear hO;refine pD @vQ ?_;exact⟨n%b,by omega,b,_,kO.out,(by first|exact aY|exact rfl),(by first|exact aY|exact rfl),(by first|exact aY|exact rfl),(by first|exact aY|exact rfl),(by first|exact aY|exact rfl)⟩
def abE:Tryz.f138.results.toList=[.tmp 2]:=aw
def as5:Tryz.f65.results.toList=[.tmp 4]:=aw
def as6:Tryz.f66.results.toList=[.tmp 4]:=aw
def MI:Tryz.f215.results.toList=[.tmp 4]:=aw
def abO:Tryz.f194.results.toList=[.tmp 2,.tmp 3]:=aw
def abK:Tryz.f171.results.toList=[.tmp 2]:=aw
def ME:Tryz.f150.results.toList=[.tmp 4]:=aw
def Tc:Tryz.f94.results.toList=[.tmp 2]:=aw
def abC:Tryz.f132.results.toList=[.tmp 4,.tmp 5]:=aw
def SO:Tryz.f140.results.toList=[.tmp 4,.tmp 5]:=aw
def Jf(n:Int)(h:ar):W.call 138 [im n] h=aa (.ret (im (fmod n)),h):=by
 obtain⟨m1,m2,m3,m4⟩:=Gv n;unfold im;refine cN rfl Tryz.func138 rfl ?_;by_cases c:n.tmod 1073741789<0
 ·have e:=m1 c;clear m1 m2;exact jx @abE
 ·have e:=m2 c;clear m1 m2;exact jx @abE
def ajC(n:Int)(h:ar):W.call 171 [im n] h=aa (.ret (im (fmod n)),h):=by
 obtain⟨m1,m2,m3,m4⟩:=Gv n;unfold im;refine cN rfl Tryz.func171 rfl ?_;by_cases c:n.tmod 1073741789<0
 ·have e:=m1 c;clear m1 m2;exact jx @abK
 ·have e:=m2 c;clear m1 m2;exact jx @abK
def SF(a b:Int)(h:ar):W.call 66 [im a,im b] h=aa (.ret (im (df a b)),h):=by
 have ca:=Jf a;have cb:=Jf b;obtain⟨a1,a2⟩:=CJ a;obtain⟨b1,b2⟩:=CJ b;have p0:0<=fmod a * fmod b:=Uh a1 b1;have p1:fmod a * fmod b<=1073741789 * 1073741789:=Ug ai ai b1 ai;have e:df a b=(fmod a * fmod b).tmod 1073741789:=by rw[Gw p0];rfl
 rw[e];unfold im at *
 refine cN rfl Tryz.func66 rfl ?_;exact jx @as6
def aqd(a b:Int)(h:ar):W.call 65 [im a,im b] h=aa (.ret (im (dj a b)),h):=by
 have ca:=Jf a;have cb:=Jf b;obtain⟨a1,a2⟩:=CJ a;obtain⟨b1,b2⟩:=CJ b;have e:dj a b=(fmod a+fmod b).tmod 1073741789:=by rw[Gw ai];rfl
 rw[e];unfold im at *
 refine cN rfl Tryz.func65 rfl ?_;exact jx @as5
def asr(r a:Int)(n:Nat)(hn:n<=1073741787)(hI:rY r n a 1)(h:ar):W.call 215 [im a,im (n:Nat)] h=aa (.ret (im r),h):=by
 have P0:=ao.mk hI;clear hI;unfold im at *
 refine cN rfl Tryz.func215 rfl ?_;refine pD @MI ?_;refine cH (λm e h'=>∃(s x:Int),m<=1073741787/\rY r m s x/\e.get 1=.v (.int .i64 (m:Nat))/\e.get 0=.v (.int .i64 s)/\e.get 5=.v (.int .i64 x)/\e.defers=[]/\h'=h) ?_ n _ _ ?_;rotate_left 1
 ·exact⟨a,1,hn,P0.out,by exact gR,by exact gR,by exact gR,by exact gR,rfl⟩
 rintro l e h' ⟨s,x,hl,hI,g1,g0,g5,hd,rfl⟩;have kI:=ao.mk hI;have c1:=SF x s;have c2:=SF s s;unfold im at c1 c2;by_cases h0:l=0
 ·subst h0;have hx:=hI.done;clear hI;exact jx @MI
 ·have hdiv:((l:Nat):Int).tdiv 2=((l/2:Nat):Int):=JO l 2;have Bs:((l:Nat):Int).tmod 2=((l%2:Nat):Int):=pR l 2;have gV:(0:Int)<((l:Nat):Int):=by omega
  clear hI;rcases Ci l with ho|ho
  ·rw[ho,tY] at Bs;refine pD @MI ?_;exact⟨l/2,by omega,_,_,by omega,kI.out.even ho,(by first|exact aY|exact rfl),(by first|exact aY|exact rfl),(by first|exact aY|exact rfl),(by first|exact aY|exact rfl),(by first|exact aY|exact rfl)⟩
  ·rw[ho,Ul] at Bs;refine pD @MI ?_;exact⟨l/2,by omega,_,_,by omega,kI.out.DJ ho,(by first|exact aY|exact rfl),(by first|exact aY|exact rfl),(by first|exact aY|exact rfl),(by first|exact aY|exact rfl),(by first|exact aY|exact rfl)⟩
def arb(n:Int)(h:ar):W.call 194 [im n] h=aa (.ret (.tuple [im (if fmod n=0 then 0 else eU n),im (if fmod n=0 then 90 else 0)]),h):=by
 have cn:=Jf n;have cp:=asr (eU n) n 1073741787 (aL _) (rY.start n);by_cases hz:fmod n=0
 ·rw[aH hz,aH hz];clear cp;unfold im at *
  refine cN rfl aeL rfl ?_;exact jx @abO
 ·rw[aJ hz,aJ hz];have cp:∀h,W.call 215 [.v (.int .i64 n),.v (.int .i64 1073741787)] h=aa (.ret (.v (.int .i64 (eU n))),h):=cp;unfold im at *
  refine cN rfl aeL rfl ?_;exact jx @abO
def oK(r n a c:Nat):Prop:=c<P/\a<P/\c * a^n%P=r
def oK.DJ{r n a c}(h:oK r n a c)(ho:n%2=1):oK r (n/2) (a * a%P) (c * a%P):=by refine⟨nF _ aZ,nF _ aZ,?_⟩;rw[<-h.2.2,UB,uc,<-Hh,<-uc,Oh,<-UD,<-Hi,<-aey,show(2 * (n/2)).succ=n by omega]
def oK.even{r n a c}(h:oK r n a c)(ho:n%2=0):oK r (n/2) (a * a%P) c:=by refine⟨h.1,nF _ aZ,?_⟩;rw[<-h.2.2,uc,<-Hh,<-uc,<-UD,<-Hi,(ai:2 * (n/2)=n)]
def oK.done{r a c}(h:oK r 0 a c):c=r:=by rw[<-h.2.2,Nat.pow_zero,ph,oJ h.1]
def oK.start{a n}(ha:a<P)(hn:n<2^31):oK (tT a n) n a 1:=⟨aZ,ha,by rw[Sk hn,Ez]⟩
def oK.bound{r n a c}(h:oK r n a c):c * a<=4611685722074649241/\a * a<=4611685722074649241:=by obtain⟨h1,h2,-⟩:=h;have h1:c<=2147483579:=nY h1;have h2:a<=2147483579:=nY h2;exact⟨ri h1 h2,ri h2 h2⟩
def abz(r a n:Nat)(hn:n<=2147483647)(hI:oK r n a 1)(h:ar):W.call 150 [im (a:Nat),im (n:Nat)] h=aa (.ret (im (r:Nat)),h):=by
 have P0:=ao.mk hI;clear hI;unfold im at *
 refine cN rfl Tryz.func150 rfl ?_;refine pD @ME ?_;refine cH (λm e h'=>∃(s x:Nat),m<=2147483647/\oK r m s x/\e.get 1=.v (.int .i64 (m:Nat))/\e.get 0=.v (.int .i64 (s:Nat))/\e.get 5=.v (.int .i64 (x:Nat))/\e.defers=[]/\h'=h) ?_ n _ _ ?_;rotate_left 1
 ·exact⟨a,1,hn,P0.out,by exact gR,by exact gR,by exact gR,by exact gR,rfl⟩
 rintro l e h' ⟨s,x,hl,hI,g1,g0,g5,hd,rfl⟩;have kI:=ao.mk hI;obtain⟨b1,b2⟩:=hI.bound;by_cases h0:l=0
 ·subst h0;have hx:=hI.done;clear hI;exact jx @ME
 ·have hdiv:((l:Nat):Int).tdiv 2=((l/2:Nat):Int):=JO l 2;have Bs:((l:Nat):Int).tmod 2=((l%2:Nat):Int):=pR l 2;have gV:(0:Int)<((l:Nat):Int):=by omega
  have e1:((x:Nat):Int) * (s:Nat)=((x * s:Nat):Int):=(yY _ _).symm;have e2:((s:Nat):Int) * (s:Nat)=((s * s:Nat):Int):=(yY _ _).symm;have e3:((x * s:Nat):Int).tmod 2147483579=((x * s%P:Nat):Int):=pR (x * s) 2147483579;have e4:((s * s:Nat):Int).tmod 2147483579=((s * s%P:Nat):Int):=pR (s * s) 2147483579;clear hI;rcases Ci l with ho|ho
  ·rw[ho,tY] at Bs;refine pD @ME ?_;exact⟨l/2,by omega,_,_,by omega,kI.out.even ho,(by first|exact aY|exact rfl),(by first|exact aY|exact rfl),(by first|exact aY|exact rfl),(by first|exact aY|exact rfl),(by first|exact aY|exact rfl)⟩
  ·rw[ho,Ul] at Bs;refine pD @ME ?_;exact⟨l/2,by omega,_,_,by omega,kI.out.DJ ho,(by first|exact aY|exact rfl),(by first|exact aY|exact rfl),(by first|exact aY|exact rfl),(by first|exact aY|exact rfl),(by first|exact aY|exact rfl)⟩
def fH(a n:Int):Int:=if bN a=ah then ((bH a.toNat n:Nat):Int) else 0
def ni(a:Int):Int:=if bN a=ah then 0 else 100
def jL(a b:Int):Int:=if bN a=ah/\bN b=ah then ((a.toNat * b.toNat%P:Nat):Int) else 0
def mM(a b:Int):Int:=if bN a=ah/\bN b=ah then 0 else 100
def CA{a}(h:bN a=ah):∃n:Nat,a=n/\elem n=ah/\1<=n/\n<P:=by unfold bN at h;rw[bI,decide_eq_true_eq] at h;have:=elem_iff.1 h.2;exact⟨a.toNat,by omega,h.2,this.1,this.2.1⟩
def MV(x:Int)(h:ar):W.call 94 [im x] h=aa (.ret (.v (.bool (bN x))),h):=by
 by_cases hx:x<1
 ·rw[KK (.inl hx)];unfold im;refine cN rfl U3 rfl ?_;exact jx @Tc
 by_cases hy:2147483579<=x
 ·rw[KK (.inr hy)];unfold im;refine cN rfl U3 rfl ?_;exact jx @Tc
 obtain⟨n0,rfl⟩:∃n:Nat,x=n:=⟨x.toNat,by omega⟩;have h2:n0<P:=by have:P=2147483579:=rfl;omega
 have cp:∀h,W.call 150 [.v (.int .i64 (n0:Nat)),.v (.int .i64 1073741789)] h=aa (.ret (.v (.int .i64 (tT n0 Q:Nat))),h):=abz (tT n0 Q) n0 1073741789 aZ (oK.start h2 aZ);have e:bN (n0:Int)=decide (((tT n0 Q:Nat):Int)=1):=by
  unfold bN elem;rw[b8 ai,dW,b8 ai,b8 h2,rT,rT,rT,GA,decide_eq_true_eq];constructor
  ·intro q;rw[lD q];rfl
  ·intro q;have:tT n0 Q=1:=(by omega);rw[this];rfl
 rw[e];generalize tT n0 Q=r at *
 have ZB:(1:Int)<=(n0:Int):=by omega
 have hy1:(n0:Int)<2147483579:=by omega
 clear e h2 hx hy;unfold im;refine cN rfl U3 rfl ?_;exact jx @Tc
def S6:Tryz.f69.results.toList=[.tmp 4,.tmp 5]:=aw
def Ta:Tryz.f84.results.toList=[.tmp 2]:=aw
def mul_tmod{a b}(ha:a<P)(hb:b<P):((a:Nat):Int) * (b:Nat)<=4611685722074649241/\(0:Int)<=((a:Nat):Int) * (b:Nat)/\(((a:Nat):Int) * (b:Nat)).tmod 2147483579=((a * b%P:Nat):Int):=by have h1:a<=2147483579:=nY ha;have h2:b<=2147483579:=nY hb;have:=ri h1 h2;have e:((a:Nat):Int) * (b:Nat)=((a * b:Nat):Int):=(yY _ _).symm;rw[e];exact⟨ai,by omega,pR (a * b) 2147483579⟩
def akt(a b:Int)(h:ar):W.call 69 [im a,im b] h=aa (.ret (.tuple [im (jL a b),im (mM a b)]),h):=by
 have ca:=Nq a;have cb:=Nq b;unfold jL mM;by_cases ha:bN a=ah
 ·by_cases hb:bN b=ah
  ·rw[aH ⟨ha,hb⟩,aH ⟨ha,hb⟩];rw[ha] at ca;rw[hb] at cb;obtain⟨x,rfl,-,-,x2⟩:=CA ha;obtain⟨y,rfl,-,-,y2⟩:=CA hb;obtain⟨m1,m2,-⟩:=mul_tmod x2 y2;simp only[dW];have e1:((x:Nat):Int) * (y:Nat)=((x * y:Nat):Int):=(yY _ _).symm;have e3:((x * y:Nat):Int).tmod 2147483579=((x * y%P:Nat):Int):=pR (x * y) 2147483579;rw[e1] at m1 m2;have m4:x * y%P<2147483579:=nF _ aZ;clear ha hb;unfold im at *
   refine cN rfl U2 rfl ?_;exact jx @S6
  ·have iM:bN b=aB:=(by simpa using hb);rw[aJ (λq=>hb q.2),aJ (λq=>hb q.2)];rw[ha] at ca;rw[iM] at cb;unfold im at *
   refine cN rfl U2 rfl ?_;exact jx @S6
 ·have nN:bN a=aB:=by simpa using ha
  rw[aJ (λq=>ha q.1),aJ (λq=>ha q.1)];rw[nN] at ca;unfold im at *
  refine cN rfl U2 rfl ?_;exact jx @S6
def vH(l:List Int):Int:=l.foldl (λa x=>(a * (x.tmod 1073741789+1073741789)).tmod 1073741789) 1
def amZ(l)(x):vH (l++[x])=(vH l * (x.tmod 1073741789+1073741789)).tmod 1073741789:=by unfold vH;rw[oI];rfl
def amY(n):vH [n]=fmod n:=by
 obtain⟨m1,m2,m3,m4⟩:=Gv n;show(1 * (n.tmod 1073741789+1073741789)).tmod 1073741789=fmod n;rw[GL,Gw ai];by_cases c:n.tmod 1073741789<0
 ·rw[m1 c];omega
 ·rw[m2 c];omega
def Z8{a x:Int}(h:0<=a/\a<1073741789):0<=a * (x.tmod 1073741789+1073741789)/\a * (x.tmod 1073741789+1073741789)<=2305843013508661242/\0<=(a * (x.tmod 1073741789+1073741789)).tmod 1073741789/\(a * (x.tmod 1073741789+1073741789)).tmod 1073741789<1073741789:=by obtain⟨-,-,m3,m4⟩:=Gv x;have p0:0<=a * (x.tmod 1073741789+1073741789):=Uh h.1 ai;have p1:a * (x.tmod 1073741789+1073741789)<=1073741789 * 2147483578:=Ug ai ai ai ai;rw[Gw p0];omega
def amX(l):0<=vH l/\vH l<1073741789:=by
 unfold vH;have key:∀(l:List Int) (a:Int),0<=a/\a<1073741789->0<=l.foldl (λa x=>(a * (x.tmod 1073741789+1073741789)).tmod 1073741789) a/\l.foldl (λa x=>(a * (x.tmod 1073741789+1073741789)).tmod 1073741789) a<1073741789:=by
  intro l
  induction l with
  |nil=>intro a h;exact h|cons x l ih=>intro a h;exact ih _ (Z8 h).2.2
 exact key l 1 ⟨aZ,by decide⟩
def am0(l:List Int)(k:Tok)(hl:l.length<=9223372036854775807)(h:ar):W.call 84 [.list k 1 (ints l)] h=aa (.ret (im (vH l)),h):=by
 have u23:=dY;have a3:=fh;have s3:=fR;refine cN rfl Tryz.func84 rfl ?_;refine Pz @Ta @dE ?_;refine cH (λm e h'=>∃i:Nat,i<=l.length/\m=l.length - i/\e.get 6=.list k 1 (ints l)/\e.get 7=.v (.int .i64 (l.length:Nat))/\e.get 8=.v (.int .i64 i)/\e.get 3=.v (.int .i64 (vH (l.take i)))/\e.defers=[]/\h'=h) ?_ l.length _ _ ?_;rotate_left 1
 ·refine⟨0,cD _,rfl,?_,?_,?_,?_,?_,rfl⟩<;>(first|assumption|(simp only[gW,reduceIte,aS,aO,dE]<;>rfl))
 rintro m e h' ⟨i,hi,rfl,g6,g7,g8,g3,hd,rfl⟩;by_cases aC:i<l.length
 ·obtain⟨x,hx⟩:∃x,l[i]?=aa x:=⟨_,aU aC⟩;have alL:(i:Int)<((ints l).length:Int):=by rw[dE];omega
  obtain⟨-,-,x1,x2⟩:=Gv x;obtain⟨s1,s2,s3',s4⟩:=Z8 (x:=x) (amX (l.take i));have e1:vH (l.take (i+1))=(vH (l.take i) * (x.tmod 1073741789+1073741789)).tmod 1073741789:=by rw[fE hx,amZ]
  generalize vH (l.take i)=s at *
  have Qu:=Z0 (h:=h') hx;unfold im at Qu;refine PA @Ta @dE @bp ?_;exact⟨l.length - (i+1),by omega,i+1,by omega,rfl,by trivial,by trivial,by simp,by rw[e1],by trivial,by trivial⟩
 ·have:i=l.length:=by omega
  subst this;rw[fN] at g3
  repeat' (first|simp(maxSteps:=999999)(disch:=first|exact dZ|fail)only[gW,reduceIte,aS,aO,Ta,dE,im, *]|(refine dX ?_ ?_<;>(intro _;try omega))|refine vS aw ?_)
def abd{h:ar}{z cs}{b}(hb:b=h.boxes.length):(h.push z).put b cs=h.push cs:=by subst hb;exact qs h z cs
def apZ{h:ar}{z cs}{b}(hb:b≠h.boxes.length):(h.push z).put b cs=(h.put b cs).push z:=by
 unfold ar.push ar.put;simp only;congr 1;rcases ez b h.boxes.length with aC|eF
 ·rw[List.set_append_left _ _ aC]
 ·rw[N8 _ _ eF,aed (by simp;omega),aed eF]
def atb:Tryz.f83.results.toList=[.tmp 4]:=aw
def SP:Tryz.f147.results.toList=[]:=aw
def SZ:Tryz.f30.results.toList=[.cell 4 3,.tmp 5]:=aw
def Nu:(iB aq 3).bind AV.cd=aa [im 0]:=aw
def afy{t}{x y}{n}(hn:n<=9223372036854775807):dn aq .and t x y (.v (.int .i64 (n:Nat))) (.v (.int .i64 1))=aa (.v (.int .i64 ((n%2:Nat):Int))):=by
 rw[ug];congr 3;have e1:BitVec.ofInt IntKind.i64.bits (n:Int)=BitVec.ofNat 64 n:=by apply BitVec.eq_of_toNat_eq;show(BitVec.ofInt 64 (n:Int)).toNat=(BitVec.ofNat 64 n).toNat;rw[BitVec.toNat_ofInt,BitVec.toNat_ofNat];omega
 have e2:(BitVec.ofNat 64 n&&&1#64).toNat=n%2:=by rw[BitVec.toNat_and,BitVec.toNat_ofNat,show(1#64:BitVec 64).toNat=1 from rfl,Nat.and_one_is_mod];omega
 have e3:(BitVec.ofInt IntKind.i64.bits (n:Int)&&&BitVec.ofInt IntKind.i64.bits 1).toNat=n%2:=by rw[e1];exact e2
 rw[e3,gh ai ai]
def auh{t}{x y}{n}:dn aq .shr t x y (.v (.int .i64 (n:Nat))) (.v (.int .u64 1))=aa (.v (.int .i64 ((n/2:Nat):Int))):=by rw[Cr aZ];congr 3;show((n:Nat):Int).fdiv (2^1)=_;rw[GK _ aZ];simp
def oB{h:ar}{b}{cs}(hb:h.boxes[b]?=aa cs):h.put b cs=h:=by
 unfold ar.put;have:h.boxes.set b cs=h.boxes:=by
  apply rW;intro k;rw[mW];split
  ·rename_i e;subst e;rw[aH (aW.1 hb).1,hb]
  ·rfl
 rw[this]
def me{H}{b}{x}(hb:H.boxes[b]?=aa [x]):aI aq Gt H 3 (.ptr (.box b) 0)=aa x:=by rw[mT fh hb];rfl
def BT{H}{b}{x}{n}(hb:H.boxes[b]?=aa [x]):cE aq H 3 (.ptr (.box b) 0) (.v (.int .i64 n))=aa (H.put b [.v (.int .i64 n)]):=fK (off:=0) (cs:=[x]) (xs:=[im n]) rfl fR hb rfl (aL 1)
def UM(l bc:Nat)(rec:iW):Prop:=∀(s c:Nat) (b:Bool) (H:ar),s<P->c<P->H.loops[l]?=aa rec->H.boxes[bc]?=aa [im (c:Nat)]->W.round l [im (s:Nat),.v (.bool b)] H=aa (.ret (.v (.bool ah)),H.put bc [im ((if b=ah then c * s%P else c:Nat):Int)])
def AT{P}{R}{e}{h}{t l:Nat}{args}{ts}(hy:e.get t=.yield l):mK P R e h {callee:=.value (.tmp t),args,argTypes:=ts}=R.round l (args.toList.map e.eval) h:=by rw[VQ,hy]
def auK(l bn ba bc:Nat)(rec:iW)(hR:UM l bc rec)(h1:bn≠ba)(h2:bn≠bc)(h3:ba≠bc)(r n a c:Nat)(hn:n<=2147483647)(hI:oK r n a c)(h:ar)
 (CQ:h.boxes[bn]?=aa [im (n:Nat)]) (Be:h.boxes[ba]?=aa [im (a:Nat)]) (Fe:h.boxes[bc]?=aa [im (c:Nat)]) (hl:h.loops[l]?=aa rec):
 ∃h',W.call 147 [.yield l,.ptr (.box bn) 0,.ptr (.box ba) 0] h=aa (.ret (.tuple []),h')/\h'.boxes[bc]?=aa [im (r:Nat)]/\h'.loops=h.loops/\∀h0:ar,Ext h0 h->h0.boxes.length<=bn->h0.boxes.length<=ba->h0.boxes.length<=bc->Ext h0 h':=by
 have kR:=ao.mk hR;have kI:=ao.mk hI;clear hR hI;refine iD rfl Tryz.func147 rfl ?_;refine bC @SP ?_;refine cH (λm e h'=>∃(a c:Nat),m<=2147483647/\oK r m a c/\e.get 0=.yield l/\e.get 1=.ptr (.box bn) 0/\e.get 2=.ptr (.box ba) 0/\e.defers=[]/\h'.boxes[bn]?=aa [im (m:Nat)]/\h'.boxes[ba]?=aa [im (a:Nat)]/\h'.boxes[bc]?=aa [im (c:Nat)]/\h'.loops=h.loops/\∀h0:ar,Ext h0 h->h0.boxes.length<=bn->h0.boxes.length<=ba->h0.boxes.length<=bc->Ext h0 h') ?_ n _ _ ?_;rotate_left 1
 ·exact⟨a,c,hn,kI.out,by exact gR,by exact gR,by exact gR,by exact gR,CQ,Be,Fe,rfl,λ_ x _ _ _=>x⟩
 clear CQ Be Fe kI n a c hn;rintro m e H ⟨a,c,hm,hI,g0,g1,g2,hd,CQ,Be,Fe,Qz,hX⟩;have kI:=ao.mk hI;have kX:=ao.mk hX;have ln:=me CQ;have la:=me Be;clear hX;by_cases h0:m=0
 ·subst h0;have hx:=hI.done;subst hx;unfold im at ln la;clear hI;refine bC @SP ?_;exact⟨_,rfl,Fe,Qz,kX.out⟩
 have jV:(0:Int)<((m:Nat):Int):=by omega
 have q1:∀(t:aP) (x y:bU),dn aq .and t x y (.v (.int .i64 (m:Nat))) (.v (.int .i64 1))=aa (.v (.int .i64 ((m%2:Nat):Int))):=λt x y=>afy ai;obtain⟨m1,m2,m3⟩:=mul_tmod hI.2.1 hI.2.1;have wI:H.loops[l]?=aa rec:=by rw[Qz];exact hl
 have rd:=kR.out a c (decide ((m%2:Nat)=1)) H hI.2.1 hI.1 wI Fe;have HP:oK r (m/2) (a * a%P) (if decide (m%2=1)=ah then c * a%P else c):=by
  rcases Ci m with ho|ho
  ·rw[ho];exact hI.even ho
  ·rw[ho];exact hI.DJ ho
 have kI2:=ao.mk HP;have CW:decide (((m%2:Nat):Int)=1)=decide (m%2=1):=by rw[decide_eq_decide];omega
 have alG:=(aW.1 CQ).1;have alE:=(aW.1 Be).1;have alF:=(aW.1 Fe).1;clear hI HP hl;generalize (if decide (m%2=1)=ah then c * a%P else c)=c2 at *
 generalize decide (m%2=1)=bt at *
 unfold im at *
 have la2:∀x,aI aq Gt (H.put bc x) 3 (.ptr (.box ba) 0)=aa (.v (.int .i64 (a:Nat))):=λx=>me (by rw[dh h3];exact Be);have sa2:∀x n,cE aq (H.put bc x) 3 (.ptr (.box ba) 0) (.v (.int .i64 n))=aa ((H.put bc x).put ba [.v (.int .i64 n)]):=λx n=>BT (by rw[dh h3];exact Be);have ln2:∀x y,aI aq Gt ((H.put bc x).put ba y) 3 (.ptr (.box bn) 0)=aa (.v (.int .i64 (m:Nat))):=λx y=>me (by rw[dh h1,dh h2];exact CQ);have sn2:∀x y n,cE aq ((H.put bc x).put ba y) 3 (.ptr (.box bn) 0) (.v (.int .i64 n))=aa (((H.put bc x).put ba y).put bn [.v (.int .i64 n)]):=λx y n=>BT (by rw[dh h1,dh h2];exact CQ);refine cX @SP @AT @auh ?_;refine⟨m/2,by omega,a * a%P,c2,by omega,kI2.out,aY,aY,aY,aY,?_,?_,?_,Qz,λh0 x p1 p2 p3=>(((kX.out h0 x p1 p2 p3).fZ p3 _).fZ p2 _).fZ p1 _⟩
 ·exact eO (by rw[mE,mE];exact alG)
 ·rw[dh (Ne.symm h1)];exact eO (by rw[mE];exact alE)
 ·rw[dh (Ne.symm h2),dh (Ne.symm h3)];exact eO alF
def Jg{e:Env}{l p q t:Nat}{r:iW}{x y}(hp:r.params=#[p,q])(ht:r.tmps=e.tmps):(nV l r [x,y]).get t=if q=t then y else if p=t then x else e.get t:=by unfold nV;rw[hp,ht];have h1:=FV (e.tmps.set p x) q t y;have h2:=FV e.tmps p t x;show((e.tmps.set p x).set q y).get t=_;rw[h1,h2];rfl
def auL(a n:Int)(h:ar):W.call 83 [im a,im n] h=aa (.ret (.func (.func 147) [] [.ptr (.box (h.boxes.length+1)) 0,.ptr (.box h.boxes.length) 0]),(h.push [im a]).push [im n]):=by have bx:∀n:Int,(AV.v (.int .i64 n)).cd=aa [.v (.int .i64 n)]:=λ_=>rfl;unfold im;refine cN rfl Tryz.func83 rfl ?_;exact si @atb @bu @cR
def akx(a n:Int)(h:ar):∃h',W.call 30 [im a,im n] h=aa (.ret (.tuple [im (fH a n),im (ni a)]),h')/\Ext h h':=by
 have ca:=Nq a;have z3:=Nu;have a3:=fh;unfold fH ni;by_cases ha:bN a=ah;rotate_left 1
 ·have nN:bN a=aB:=by simpa using ha
  rw[aJ ha,aJ ha];rw[nN] at ca;unfold im at *
  refine iD rfl aeQ rfl ?_;refine bK @SZ @BT @me (az @abd @cR) ?_;exact⟨_,rfl,.push _ _⟩
 rw[aH ha,aH ha];rw[ha] at ca;obtain⟨x,rfl,-,x1,x2⟩:=CA ha;clear ha;have cl:=am0 [n] .tight bJ;rw[amY] at cl;obtain⟨m,hm⟩:∃m:Nat,fmod n=m:=⟨(fmod n).toNat,(CL n).symm⟩;have Ip:m<Q:=by have:=Pu n;rw[hm,dW] at this;exact this
 have he:bH (x:Int).toNat n=tT x m:=by unfold bH;rw[hm,dW,dW]
 rw[he];rw[hm] at cl;have bl:gG aq 23 1 [(0,im n)]=aa (.list .tight 1 (ints [n])):=aw;have bx:∀n:Int,(im n).cd=aa [im n]:=λ_=>rfl;have csq:=λH=>auL (x:Nat) (m:Nat) H;have FE:=oK.start (n:=m) x2 (qy Ip aZ);generalize tT x m=r at *
 clear he hm;have kS:=ao.mk (az FE (az x2 (az Ip x1)));clear FE x2 Ip x1;unfold im at *
 refine iD rfl aeQ rfl ?_;refine bK @SZ @BT @me (az @abd @cR) ?_;refine bM.gen λe he hd hp l9=>?_;have g4:e.get 4=.ptr (.box h.boxes.length) 0:=by rw[he];exact gS
 have g15:e.get 15=.func (.func 147) [] [.ptr (.box (h.boxes.length+1+1)) 0,.ptr (.box (h.boxes.length+1)) 0]:=by rw[he];exact gS
 have hdf:e.defers=[]:=by rw[hd];exact gS
 clear he hd hp l9;refine DU (by rw[A7];exact g15) λrec w1 w2 w3 w4 w5 w6=>?_;have hL:(((h.push [AV.v (.int .i64 1)]).push [AV.v (.int .i64 (x:Nat))]).push [AV.v (.int .i64 (m:Nat))]).loops.length=h.loops.length:=rfl;rw[hL];have PR:UM h.loops.length h.boxes.length rec:=by
  intro s c b H hs hc hl hb;obtain⟨m1,m2,-⟩:=mul_tmod hc hs;have e1:((c:Nat):Int) * (s:Nat)=((c * s:Nat):Int):=(yY _ _).symm;have e3:((c * s:Nat):Int).tmod 2147483579=((c * s%P:Nat):Int):=pR (c * s) 2147483579;rw[e1] at m1 m2;have r1:∀t,(nV h.loops.length rec [im (s:Nat),.v (.bool b)]).get t=if 17=t then .v (.bool b) else if 16=t then im (s:Nat) else e.get t:=λt=>Jg w2 w1
  have gi:(H.busy h.loops.length rec).boxes[h.boxes.length]?=aa [im (c:Nat)]:=hb;have l1:=me gi;have kU:=hb;have s1:=λn=>BT (n:=n) gi;refine Mr hl (by rw[w2];rfl) ?_;rw[w3];unfold im at *
  refine bM.gen λe2 jN iF oQ FA=>?_;have q16:e2.get 16=.v (.int .i64 (s:Nat)):=by rw[jN,r1];rfl
  have q17:e2.get 17=.v (.bool b):=by rw[jN,r1];rfl
  have q4:e2.get 4=.ptr (.box h.boxes.length) 0:=by rw[jN,r1];exact g4
  clear jN r1 g4 g15 cl csq ca bl;have dG:h.loops.length<H.loops.length:=(aW.1 hl).1;have jy:H.loops.set h.loops.length rec=H.loops:=by
   apply rW;intro k;rw[mW];split
   ·rename_i e;subst e;exact hl.symm
   ·rfl
  have Bw:{rec with state:=LoopState.ready,pending:=av}=rec:=by cases rec;cases w5;cases w6;rfl
  cases b with
  |true=>
   refine zy ?_;refine⟨aY,rec,rfl,w5,?_⟩;refine bQ @l1 @s1 ?_;refine⟨{rec with state:=.busy},?_,rfl,?_⟩
   ·show(H.loops.set h.loops.length _)[h.loops.length]?=_;simp[dG]
   ·show(H.put h.boxes.length _)=_;simp only[ar.put,ar.busy,Ev,Bw,jy]
  |false=>
   refine zy ?_;refine⟨aY,rec,rfl,w5,{rec with state:=.busy},?_,rfl,?_⟩
   ·show(H.loops.set h.loops.length _)[h.loops.length]?=_;simp[dG]
   ·have hq:H.put h.boxes.length [AV.v (Value.int IntKind.i64 (c:Nat))]=H:=oB kU;refine(show H.put h.boxes.length _=H from hq).trans ?_;simp only[ar.busy,Ev,Bw,jy]
 have zE:∀{z:iW},((((h.push [AV.v (.int .i64 1)]).push [AV.v (.int .i64 (x:Nat))]).push [AV.v (.int .i64 (m:Nat))]).loop z).boxes[h.boxes.length]?=aa [im ((1:Nat):Int)]:=λ{z}=>bh (bh (bg _ _));have lY:∀{z:iW},((((h.push [AV.v (.int .i64 1)]).push [AV.v (.int .i64 (x:Nat))]).push [AV.v (.int .i64 (m:Nat))]).loop z).boxes[h.boxes.length+1]?=aa [im (x:Nat)]:=λ{z}=>bh (nM (by rw[cR]));have gi:∀{z:iW},((((h.push [AV.v (.int .i64 1)]).push [AV.v (.int .i64 (x:Nat))]).push [AV.v (.int .i64 (m:Nat))]).loop z).boxes[h.boxes.length+1+1]?=aa [im (m:Nat)]:=λ{z}=>nM (by rw[cR,cR]);have iu:=@DG (((h.push [AV.v (.int .i64 1)]).push [AV.v (.int .i64 (x:Nat))]).push [AV.v (.int .i64 (m:Nat))]) rec;have Ip:=kS.out.2.2.1;obtain⟨h',c1,c2,c3,c4⟩:=auK h.loops.length (h.boxes.length+1+1) (h.boxes.length+1) h.boxes.length rec PR ai ai ai r m x 1 (by unfold Q at Ip;omega) kS.out.1 _ gi lY zE iu;refine⟨_,h',c1,rec,by rw[c3];exact iu,by rw[w5];decide,.inl ⟨w6,?_⟩⟩;have hX:Ext h h':=c4 h ((((Ext.push h _).trans (Ext.push _ _)).trans (Ext.push _ _)).trans ((Fr.BC (bn:=h.boxes.length+3) (l0:=h.loops.length) (n0:=h.tn) _ _).ext (by simp only[cR];omega) (aL _) (aL _))) ai ai (aL _);have aC:h.boxes.length<h'.boxes.length:=(aW.1 c2).1;generalize hH:h'.fc h.loops.length {rec with state:=.exhausted}=H;have hb:H.boxes[h.boxes.length]?=aa [im (r:Nat)]:=by rw[<-hH];exact c2
 have hX2:Ext h H:=by rw[<-hH];exact((Fr.DK (bn:=h.boxes.length) (l0:=h.loops.length) (n0:=h.tn) hX (aL _)).trans (.fc (aL _) _)).ext (aL _) (aL _) (aL _)
 clear c1 c2 c3 c4 hH iu zE lY gi PR w1 w2 w3 w4 w5 w6 hX aC;have l1:=me hb;unfold im at *
 have s1:=λn=>BT (n:=n) hb;have l2:∀y,aI aq Gt (H.put h.boxes.length [.v (.int .i64 y)]) 3 (.ptr (.box h.boxes.length) 0)=aa (.v (.int .i64 y)):=λy=>me (eO (aW.1 hb).1);refine bC @SZ ?_;exact⟨_,rfl,hX2.fZ (aL _) _⟩
abbrev bf(b:List UInt8):List (List AV):=b.map lQ
def abR:Tryz.f220.results.toList=[.tmp 2]:=aw
def yH:Tryz.f221.results.toList=[.tmp 4]:=aw
def abS:Tryz.f222.results.toList=[.tmp 8]:=aw
def Kq:gY aq 5=aa aB:=aw
def tW:dJ aq 5=aa 1:=aw
def Ww(n)(h):oa aq h 5 42 (.v (.int .u8 n))=aa (.v (.int .u32 (IntKind.u32.wrap n)),h):=aw
def vk(n)(h):oa aq h 3 179 (.v (.int .i64 n))=aa (.v (.int .u64 (IntKind.u64.wrap n)),h):=aw
def jK(b:List UInt8):Nat->Nat
 |0=>0
 |i+1=>jK b i * 256+(dO b i).toNat
def vV(b:UInt8):b.toNat<256:=b.toNat_lt
def U8(b):∀i,jK b i<256^i
 |0=>Nat.zero_lt_one
 |i+1=>by have:=U8 b i;have:=vV (dO b i);unfold jK;rw[Cj];omega
def ae2(b):BitVec.ofNat 32 (jK b 4)=qZ b 0:=by unfold qZ;refine congrArg (BitVec.ofNat 32) ?_;show(((0 * 256+(dO b 0).toNat) * 256+(dO b 1).toNat) * 256+(dO b 2).toNat) * 256+(dO b 3).toNat=((dO b 0).toNat * 256+(dO b 1).toNat) * 256 * 256+(dO b 2).toNat * 256+(dO b 3).toNat;omega
def or8{t}{x y}{n m}(hn:n<16777216)(hm:m<256):dn aq .or t x y (aX (BitVec.ofNat 32 n<<<8)) (.v (.int .u32 (IntKind.u32.wrap (m:Nat))))=aa (aX (BitVec.ofNat 32 (n * 256+m))):=by
 have e1:AV.v (.int .u32 (IntKind.u32.wrap (m:Nat)))=aX (BitVec.ofNat 32 m):=by unfold aX;rw[wrap32,BitVec.toNat_ofNat];congr 2
 rw[e1,qo];congr 2;apply BitVec.eq_of_toNat_eq;rw[BitVec.toNat_or,BitVec.toNat_shiftLeft,BitVec.toNat_ofNat,BitVec.toNat_ofNat,BitVec.toNat_ofNat];have:n%2^32=n:=oJ ai;rw[this];have h1:n<<<8=n * 256:=by rw[Ck]
 have h2:n<<<8%2^32=n<<<8:=oJ ai;rw[h2,oJ (ai:m<2^32),<-Nat.shiftLeft_add_eq_or_of_lt (ai:m<2^8),h1];exact(oJ ai).symm
def auc{t}{x y}{u}:dn aq .shl t x y (aX u) (.v (.int .u64 8))=aa (aX (u<<<8)):=sP (n:=8) aZ
def awG(b:List UInt8)(x:AV)(h:ar)(s:eu 1 h x (bf b))(hb:4<=b.length):W.call 220 [x] h=aa (.ret (aX (qZ b 0)),h):=by
 have u28:=jJ;have a5:=Kq;have s5:=tW;obtain⟨y,y1,y2⟩:=s.slice (t:=28) (lo:=av) (hi:=aa (.v (.int .i64 4))) (l:=0) (m:=4) aZ u28 tW (.inr ⟨.i64,rfl,by simpa using hb⟩) (.inl ⟨rfl,rfl⟩) aZ;have y3:=y2.len u28;rw[show((N9 4 (bf b)).drop 0).length=4 by simp;omega] at y3;have kY:=ao.mk y2;clear s y2;refine cN rfl Tryz.func220 rfl ?_;refine pD @abR ?_;refine cH (λm e h'=>∃i:Nat,i<=4/\m=4 - i/\e.get 6=y/\e.get 7=.v (.int .i64 (4:Nat))/\e.get 8=.v (.int .i64 i)/\e.get 2=aX (BitVec.ofNat 32 (jK b i))/\e.defers=[]/\h'=h) ?_ 4 _ _ ?_;rotate_left 1
 ·refine⟨0,cD _,rfl,?_,?_,?_,?_,?_,rfl⟩<;>(first|assumption|(exact gR))
 rintro m e h' ⟨i,hi,rfl,g6,g7,g8,g2,hd,rfl⟩;by_cases hc:i=4
 ·subst hc;rw[ae2] at g2;exact jx @abR
 ·have aC:i<4:=by omega
  have gi:i<b.length:=by omega
  obtain⟨p,p1,p2,-⟩:=kY.out.index (G:=Gt) (t:=28) (i:=i) (row:=lQ (b[i])) aZ u28 tW (by simp[aC,gi]);have p4:=p2 Kq;have e1:(lQ b[i]).head?=aa (.v (.int .u8 (((dO b i).toNat:Nat):Int))):=by unfold dO;rw[eE,aU gi];rfl
  rw[e1] at p4;have l1:=U8 b i;have l2:jK b i<16777216:=nE l1 (by have:256^i<=256^3:=Nat.pow_le_pow_right aZ ai;exact this);have l3:=vV (dO b i);clear p2 e1 l1;refine PA @Ww @or8 @auc ?_;refine⟨4 - (i+1),by omega,i+1,by omega,rfl,aY,aY,?_,?_,aY,aY⟩
  ·rfl
  ·rfl
def yC(v:fa)(n)(hn:n<32):(v<<<(32 - n))|||(v>>>n)=NT.ec v n:=by unfold NT.ec;rw[BitVec.or_comm]
def ar2(v:fa)(h:ar):W.call 221 [aX v,.v (.int .i64 (-2))] h=aa (.ret (aX (NT.ec v 2)),h):=by
 have c1:∀(t:aP) (x y:bU),dn aq .and t x y (.v (.int .u64 (IntKind.u64.wrap (-2)))) (.v (.int .u64 31))=aa (.v (.int .u64 30)):=λt x y=>by rw[ug];rfl
 have c2:∀(t:aP) (x y:bU),dn aq .shl t x y (aX v) (.v (.int .u64 30))=aa (aX (v<<<30)):=λt x y=>sP (n:=30) aZ;have c3:∀(t:aP) (x y:bU),dn aq .shr t x y (aX v) (.v (.int .u64 (IntKind.u64.wrap (32 - 30))))=aa (aX (v>>>2)):=λt x y=>tV (n:=2) aZ;have c4:=yC v 2 aZ;refine cN rfl zf rfl ?_;exact ya @yH @vk @qo
def ar5(v:fa)(h:ar):W.call 221 [aX v,.v (.int .i64 (-6))] h=aa (.ret (aX (NT.ec v 6)),h):=by
 have c1:∀(t:aP) (x y:bU),dn aq .and t x y (.v (.int .u64 (IntKind.u64.wrap (-6)))) (.v (.int .u64 31))=aa (.v (.int .u64 26)):=λt x y=>by rw[ug];rfl
 have c2:∀(t:aP) (x y:bU),dn aq .shl t x y (aX v) (.v (.int .u64 26))=aa (aX (v<<<26)):=λt x y=>sP (n:=26) aZ;have c3:∀(t:aP) (x y:bU),dn aq .shr t x y (aX v) (.v (.int .u64 (IntKind.u64.wrap (32 - 26))))=aa (aX (v>>>6)):=λt x y=>tV (n:=6) aZ;have c4:=yC v 6 aZ;refine cN rfl zf rfl ?_;exact ya @yH @vk @qo
def ar6(v:fa)(h:ar):W.call 221 [aX v,.v (.int .i64 (-7))] h=aa (.ret (aX (NT.ec v 7)),h):=by
 have c1:∀(t:aP) (x y:bU),dn aq .and t x y (.v (.int .u64 (IntKind.u64.wrap (-7)))) (.v (.int .u64 31))=aa (.v (.int .u64 25)):=λt x y=>by rw[ug];rfl
 have c2:∀(t:aP) (x y:bU),dn aq .shl t x y (aX v) (.v (.int .u64 25))=aa (aX (v<<<25)):=λt x y=>sP (n:=25) aZ;have c3:∀(t:aP) (x y:bU),dn aq .shr t x y (aX v) (.v (.int .u64 (IntKind.u64.wrap (32 - 25))))=aa (aX (v>>>7)):=λt x y=>tV (n:=7) aZ;have c4:=yC v 7 aZ;refine cN rfl zf rfl ?_;exact ya @yH @vk @qo
def arX(v:fa)(h:ar):W.call 221 [aX v,.v (.int .i64 (-11))] h=aa (.ret (aX (NT.ec v 11)),h):=by
 have c1:∀(t:aP) (x y:bU),dn aq .and t x y (.v (.int .u64 (IntKind.u64.wrap (-11)))) (.v (.int .u64 31))=aa (.v (.int .u64 21)):=λt x y=>by rw[ug];rfl
 have c2:∀(t:aP) (x y:bU),dn aq .shl t x y (aX v) (.v (.int .u64 21))=aa (aX (v<<<21)):=λt x y=>sP (n:=21) aZ;have c3:∀(t:aP) (x y:bU),dn aq .shr t x y (aX v) (.v (.int .u64 (IntKind.u64.wrap (32 - 21))))=aa (aX (v>>>11)):=λt x y=>tV (n:=11) aZ;have c4:=yC v 11 aZ;refine cN rfl zf rfl ?_;exact ya @yH @vk @qo
def arY(v:fa)(h:ar):W.call 221 [aX v,.v (.int .i64 (-13))] h=aa (.ret (aX (NT.ec v 13)),h):=by
 have c1:∀(t:aP) (x y:bU),dn aq .and t x y (.v (.int .u64 (IntKind.u64.wrap (-13)))) (.v (.int .u64 31))=aa (.v (.int .u64 19)):=λt x y=>by rw[ug];rfl
 have c2:∀(t:aP) (x y:bU),dn aq .shl t x y (aX v) (.v (.int .u64 19))=aa (aX (v<<<19)):=λt x y=>sP (n:=19) aZ;have c3:∀(t:aP) (x y:bU),dn aq .shr t x y (aX v) (.v (.int .u64 (IntKind.u64.wrap (32 - 19))))=aa (aX (v>>>13)):=λt x y=>tV (n:=13) aZ;have c4:=yC v 13 aZ;refine cN rfl zf rfl ?_;exact ya @yH @vk @qo
def arZ(v:fa)(h:ar):W.call 221 [aX v,.v (.int .i64 (-17))] h=aa (.ret (aX (NT.ec v 17)),h):=by
 have c1:∀(t:aP) (x y:bU),dn aq .and t x y (.v (.int .u64 (IntKind.u64.wrap (-17)))) (.v (.int .u64 31))=aa (.v (.int .u64 15)):=λt x y=>by rw[ug];rfl
 have c2:∀(t:aP) (x y:bU),dn aq .shl t x y (aX v) (.v (.int .u64 15))=aa (aX (v<<<15)):=λt x y=>sP (n:=15) aZ;have c3:∀(t:aP) (x y:bU),dn aq .shr t x y (aX v) (.v (.int .u64 (IntKind.u64.wrap (32 - 15))))=aa (aX (v>>>17)):=λt x y=>tV (n:=17) aZ;have c4:=yC v 17 aZ;refine cN rfl zf rfl ?_;exact ya @yH @vk @qo
def ar0(v:fa)(h:ar):W.call 221 [aX v,.v (.int .i64 (-18))] h=aa (.ret (aX (NT.ec v 18)),h):=by
 have c1:∀(t:aP) (x y:bU),dn aq .and t x y (.v (.int .u64 (IntKind.u64.wrap (-18)))) (.v (.int .u64 31))=aa (.v (.int .u64 14)):=λt x y=>by rw[ug];rfl
 have c2:∀(t:aP) (x y:bU),dn aq .shl t x y (aX v) (.v (.int .u64 14))=aa (aX (v<<<14)):=λt x y=>sP (n:=14) aZ;have c3:∀(t:aP) (x y:bU),dn aq .shr t x y (aX v) (.v (.int .u64 (IntKind.u64.wrap (32 - 14))))=aa (aX (v>>>18)):=λt x y=>tV (n:=18) aZ;have c4:=yC v 18 aZ;refine cN rfl zf rfl ?_;exact ya @yH @vk @qo
def ar1(v:fa)(h:ar):W.call 221 [aX v,.v (.int .i64 (-19))] h=aa (.ret (aX (NT.ec v 19)),h):=by
 have c1:∀(t:aP) (x y:bU),dn aq .and t x y (.v (.int .u64 (IntKind.u64.wrap (-19)))) (.v (.int .u64 31))=aa (.v (.int .u64 13)):=λt x y=>by rw[ug];rfl
 have c2:∀(t:aP) (x y:bU),dn aq .shl t x y (aX v) (.v (.int .u64 13))=aa (aX (v<<<13)):=λt x y=>sP (n:=13) aZ;have c3:∀(t:aP) (x y:bU),dn aq .shr t x y (aX v) (.v (.int .u64 (IntKind.u64.wrap (32 - 13))))=aa (aX (v>>>19)):=λt x y=>tV (n:=19) aZ;have c4:=yC v 19 aZ;refine cN rfl zf rfl ?_;exact ya @yH @vk @qo
def ar3(v:fa)(h:ar):W.call 221 [aX v,.v (.int .i64 (-22))] h=aa (.ret (aX (NT.ec v 22)),h):=by
 have c1:∀(t:aP) (x y:bU),dn aq .and t x y (.v (.int .u64 (IntKind.u64.wrap (-22)))) (.v (.int .u64 31))=aa (.v (.int .u64 10)):=λt x y=>by rw[ug];rfl
 have c2:∀(t:aP) (x y:bU),dn aq .shl t x y (aX v) (.v (.int .u64 10))=aa (aX (v<<<10)):=λt x y=>sP (n:=10) aZ;have c3:∀(t:aP) (x y:bU),dn aq .shr t x y (aX v) (.v (.int .u64 (IntKind.u64.wrap (32 - 10))))=aa (aX (v>>>22)):=λt x y=>tV (n:=22) aZ;have c4:=yC v 22 aZ;refine cN rfl zf rfl ?_;exact ya @yH @vk @qo
def ar4(v:fa)(h:ar):W.call 221 [aX v,.v (.int .i64 (-25))] h=aa (.ret (aX (NT.ec v 25)),h):=by
 have c1:∀(t:aP) (x y:bU),dn aq .and t x y (.v (.int .u64 (IntKind.u64.wrap (-25)))) (.v (.int .u64 31))=aa (.v (.int .u64 7)):=λt x y=>by rw[ug];rfl
 have c2:∀(t:aP) (x y:bU),dn aq .shl t x y (aX v) (.v (.int .u64 7))=aa (aX (v<<<7)):=λt x y=>sP (n:=7) aZ;have c3:∀(t:aP) (x y:bU),dn aq .shr t x y (aX v) (.v (.int .u64 (IntKind.u64.wrap (32 - 7))))=aa (aX (v>>>25)):=λt x y=>tV (n:=25) aZ;have c4:=yC v 25 aZ;refine cN rfl zf rfl ?_;exact ya @yH @vk @qo
def ar8(v:fa)(h:ar):W.call 222 [aX v,.v (.int .i64 6),.v (.int .i64 11),.v (.int .i64 25)] h=aa (.ret (aX (NT.ec v 6^^^NT.ec v 11^^^NT.ec v 25)),h):=by
 have w1:IntKind.i64.wrap (0 - 6)= -6:=by decide
 have w2:IntKind.i64.wrap (0 - 11)= -11:=by decide
 have w3:IntKind.i64.wrap (0 - 25)= -25:=by decide
 have c1:=ar5 v;have c2:=arX v;have c3:=ar4 v;refine cN rfl aeP rfl ?_;exact Xx @abS @pS
def ar7(v:fa)(h:ar):W.call 222 [aX v,.v (.int .i64 2),.v (.int .i64 13),.v (.int .i64 22)] h=aa (.ret (aX (NT.ec v 2^^^NT.ec v 13^^^NT.ec v 22)),h):=by
 have w1:IntKind.i64.wrap (0 - 2)= -2:=by decide
 have w2:IntKind.i64.wrap (0 - 13)= -13:=by decide
 have w3:IntKind.i64.wrap (0 - 22)= -22:=by decide
 have c1:=ar2 v;have c2:=arY v;have c3:=ar3 v;refine cN rfl aeP rfl ?_;exact Xx @abS @pS
def sN:Tryz.f204.results.toList=[]:=aw
def Hn:gY aq 42=aa aB:=aw
def yP:dJ aq 42=aa 1:=aw
def Ko:gY aq 230=aa ah:=aw
def Gu:dJ aq 230=aa 8:=aw
def Nt:(iB aq 242).bind AV.cd=aa (br 64 (aX 0#32)):=aw
def ac8:(iB aq 230).bind AV.cd=aa (br 8 (aX 0#32)):=aw
abbrev cz(l:List fa):List AV:=l.map aX
def sF{b n}{k}(hn:n<64):dS aq 242 (.ptr (.box b) 0) (.v (.int k (n:Nat)))=aa (.ptr (.box b) n):=by have hu:=aeU;unfold dS;rw[hu];simp only[yP];rw[aH ⟨ai,by omega⟩];simp
def amF{g n}{k}(hn:n<64):dS aq 242 (.ptr (.fb g) 0) (.v (.int k (n:Nat)))=aa (.ptr (.fb g) n):=by have hu:=aeU;unfold dS;rw[hu];simp only[yP];rw[aH ⟨ai,by omega⟩];simp
def zX{b n}{k}(hn:n<8):dS aq 230 (.ptr (.box b) 0) (.v (.int k (n:Nat)))=aa (.ptr (.box b) n):=by have hu:=aeT;unfold dS;rw[hu];simp only[yP];rw[aH ⟨ai,by omega⟩];simp
def sH{H}{b n}{l}(hb:H.boxes[b]?=aa (cz l))(hn:n<l.length):aI aq Gt H 42 (.ptr (.box b) n)=aa (aX (dt l n)):=by rw[mT Hn hb,Ke,dt,eE,ey,aU hn];rfl
def JF{H}{b n}{l}{x:fa}(hb:H.boxes[b]?=aa (cz l))(hn:n<l.length):cE aq H 42 (.ptr (.box b) n) (aX x)=aa (H.put b (cz (l.set n x))):=by
 have h1:n+1<=(cz l).length:=by rw[bF];omega
 rw[fK (xs:=[aX x]) rfl yP hb rfl h1];congr 2;unfold fe cz;rw[Cd,aH hn];simp
def amT{H}{t}(ht:t<64):aI aq Gt H 42 (.ptr (.fb 1) t)=aa (aX (zY t)):=by
 have hl:t<FP.length:=ht;unfold aI;rw[Hn];show((IY.drop t).head?)=_;rw[Ke];unfold IY zY;rw[ey,eE,aU hl];show aa _=aa (aX (BitVec.ofNat 32 FP[t]));unfold aX;rw[BitVec.toNat_ofNat];have:∀x∈FP,x<2^32:=by decide
 rw[oJ (this _ (iK hl))]
def Gm(b):∀n,(iS b n).length=n
 |0=>rfl|n+1=>by rw[iS,dM,Gm b n];rfl
def wl(b:List UInt8)(i:Nat):List fa:=iS b i++br (64 - i) 0#32
def vX{b}{i}(hi:i<=64):(wl b i).length=64:=by unfold wl;rw[dM,Gm,mX];omega
def ac5{b}{i k}(hk:k<i):dt (wl b i) k=dt (iS b i) k:=by unfold wl dt;rw[eE,sY (by rw[Gm];exact hk),eE]
def Nr{b}{i}{x}(hi:i<64)(hx:x=if i<16 then qZ b (4 * i) else FW (iS b i) i):(wl b i).set i x=wl b (i+1):=by subst hx;unfold wl;have h1:=Gm b i;obtain⟨k,hk⟩:∃k,64 - i=k+1:=⟨63 - i,by omega⟩;rw[N8 _ _ ai,h1,ve,hk,Cc,Uy,(ai:64 - (i+1)=k),iS,ua];rfl
def ac6(b):cz (wl b 0)=br 64 (aX 0#32):=by show List.map aX ([]++br 64 0#32)=_;rw[mh,y9]
def TX(b):wl b 64=iS b 64:=by unfold wl;simp
def awE(b)(k):qZ (b.drop k) 0=qZ b k:=by unfold qZ dO;simp only[eE,pX,Cf,qA]
def ar9(w v)(t)(a b c d e f g i)(hv:v=[a,b,c,d,e,f,g,i]):Jh w v t=
 [i+(NT.ec e 6^^^NT.ec e 11^^^NT.ec e 25)+(g^^^(e&&&(f^^^g)))+zY t+dt w t+((NT.ec a 2^^^NT.ec a 13^^^NT.ec a 22)+((a&&&b)|||(c&&&(a|||b)))),
  a,b,c,d+(i+(NT.ec e 6^^^NT.ec e 11^^^NT.ec e 25)+(g^^^(e&&&(f^^^g)))+zY t+dt w t),e,f,g]:=by
 subst hv;rw[ahP,anB];rfl
def eight{l:List fa}(h:l.length=8):∃a b c d e f g i,l=[a,b,c,d,e,f,g,i]:=by
 match l,h with
 | [a,b,c,d,e,f,g,i],_=>exact⟨a,b,c,d,e,f,g,i,rfl⟩
def vF(s:List fa)(b:List UInt8)(t:Nat):List fa:=(bO t).foldl (Jh (iS b 64)) s
def TT(s)(b)(t):vF s b (t+1)=Jh (iS b 64) (vF s b t) t:=by unfold vF;rw[nD,oI];rfl
def TS{s}(b)(hs:s.length=8):∀t,(vF s b t).length=8
 |0=>hs
 |t+1=>by rw[TT];rfl
def Ao(s v:List fa)(i:Nat):List fa:=GZ (·+·) (s.take i) (v.take i)++s.drop i
def aw8{s v}(hs:s.length=8)(hv:v.length=8){i}(hi:i<=8):(Ao s v i).length=8:=by unfold Ao;simp;omega
def aw7{s v}(hs:s.length=8)(hv:v.length=8){i}(hi:i<8):dt (Ao s v i) i=dt s i:=by unfold Ao dt;rw[eE,AL (by simp;omega),pX,eE];congr 2;simp;omega
def aw9{s v}(hs:s.length=8)(hv:v.length=8){i}(hi:i<8):(Ao s v i).set i (dt s i+dt v i)=Ao s v (i+1):=by
 obtain⟨a,b,c,d,e,f,g,j,rfl⟩:=eight hs;obtain⟨a',b',c',d',e',f',g',j',rfl⟩:=eight hv;have:i=0∨i=1∨i=2∨i=3∨i=4∨i=5∨i=6∨i=7:=by omega
 rcases this with rfl|rfl|rfl|rfl|rfl|rfl|rfl|rfl<;>rfl
def aw6{s b}(hs:s.length=8)(hv:b.length=8):Ao s b 8=GZ (·+·) s b:=by unfold Ao;rw[gK ai,gK ai,rh ai,jC]
end Go.Proofs.YtnfciiiohoafaaaGreatDoor
end
section
namespace Go.AE
section
variable {b n0:Nat} {h h':ar}
def gu.fZ(m:gu b n0 h h'){c:Nat}(hc:h.boxes.length<=c)(cs:List AV):gu b n0 h (h'.put c cs):=by refine⟨λd ds hd hb=>?_,by rw[mE];exact m.len,m.loop,m.tn,m.dead,m.ok⟩;have aC:d<h.boxes.length:=(aW.1 hb).1;rw[dh ai];exact m.box d ds hd hb
def gu.push(m:gu b n0 h h')(cs:List AV):gu b n0 h (h'.push cs):=
 ⟨λd ds hd hb=>bh (m.box d ds hd hb),by rw[cR];exact Nat.le_succ_of_le m.len,m.loop,m.tn,m.dead,m.ok⟩
end
def gu.uW{b n0 n1}{h h'}(m:gu b n1 h h')(hn:n0<=n1):gu b n0 h h':=⟨m.box,m.len,m.loop,m.tn,λk hk hd=>m.dead k (nE hk hn) hd,m.ok⟩
def du.mut{b n0 n1}{h h'}{k}(hk:du n0 h k)(m:gu b n1 h h')(hn:h.tn<=n1):du n0 h' k:=by
 rcases hk with q|q|⟨z,q,q2,q3⟩
 ·exact .inl q
 ·exact .inr (.inl q)
 ·refine .inr (.inr ⟨z,q,q2,?_⟩);unfold alive at q3 ⊢;simp only[bI,decide_eq_true_eq,At,List.contains_eq_mem,decide_eq_false_iff_not] at q3 ⊢;exact⟨nE q3.1 m.tn,λhd=>q3.2 (m.dead z (nE q3.1 hn) hd)⟩
end Go.AE
end
section
namespace Go.Proofs.YtnfciiiohoafaaaGreatDoor
open Go.AE Go.NT
def yM{t}{x y}{u}:dn aq .shr t x y (aX u) (.v (.int .u64 3))=aa (aX (u>>>3)):=tV (n:=3) aZ
def yL{t}{x y}{u}:dn aq .shr t x y (aX u) (.v (.int .u64 10))=aa (aX (u>>>10)):=tV (n:=10) aZ
def KC{s}(hs:s.length=8):(AV.agg (cz s)).cd=aa (cz s):=by obtain⟨a,b,c,d,e,f,g,j,rfl⟩:=eight hs;rfl
def TU(n):cz (br n 0#32)=br n (aX 0#32):=by simp[cz]
def sg{R}{c}{e}{h}{I}{m}{Q0}(hq:∀Q,bM R c e h (DF I m Q)):bM R c e h (DF I m Q0):=hq Q0
def Mk{h:ar}{b}{xs ys}:(h.put b xs).put b ys=h.put b ys:=by unfold ar.put;simp only[Ev]
def Z5{H:ar}{b k}{cs}(hb:b<H.boxes.length):aI aq Gt (H.put b cs) 42 (.ptr (.box b) k)=(cs.drop k).head?:=mT Hn (eO hb)
def stp{H:ar}{b k}{cs}{x:fa}(hb:b<H.boxes.length)(hk:k+1<=cs.length):cE aq (H.put b cs) 42 (.ptr (.box b) k) (aX x)=aa (H.put b (cs.set k (aX x))):=by rw[fK (xs:=[aX x]) rfl yP (eO hb) rfl hk,Mk];congr 2;unfold fe;rw[Cd,aH (show k<cs.length from hk)];simp
def aup{b}:jc aq 230 (.ptr (.box b) 0) (aa (.v (.int .i64 1))) av av=aa (.arr b 1 7 7):=aw
def auq{b}:jc aq 230 (.ptr (.box b) 0) av (aa (.v (.int .i64 7))) av=aa (.arr b 0 7 8):=aw
def aiy{H}{b}{a0 a1 a2 a3 a4 a5 a6 a7}(hb:H.boxes[b]?=aa [a0,a1,a2,a3,a4,a5,a6,a7]):A3 aq H #[43,43] (.arr b 1 7 7) (.arr b 0 7 8)=aa (.v (.int .i64 7),H.put b [a0,a0,a1,a2,a3,a4,a5,a6]):=by
 have hn:np H 1 (.arr b 0 7 8)=aa [[a0],[a1],[a2],[a3],[a4],[a5],[a6]]:=by show rowsOf H 1 (.arr b 0 7 8)=_;unfold rowsOf;simp only[hb];rfl
 have hi:∃i,aq.info? 42=aa i/\i.size=1:=by
  have wF:=yP;unfold dJ at wF;cases hq:aq.info? 42 with
  |none=>rw[hq] at wF;cases wF
  |some i=>rw[hq] at wF;exact⟨i,rfl,by simpa using wF⟩
 obtain⟨i,h1,h2⟩:=hi;have hu:((#[43,43]:Array Nat)[0]?).bind aq.underlying=aa (.slice 42):=aw;unfold A3;rw[hu];simp only[h1,h2,hn,hb];rfl
def Ox(s:List fa)(b:List UInt8)(sb:Nat)(x:AV)(h:ar)(hs:s.length=8)(hb:64<=b.length)(ma:h.boxes[sb]?=aa (cz s))
 (hx:∀H,gu sb h.tn h H->eu 1 H x (bf b)):
 ∃h',W.call 204 [.ptr (.box sb) 0,x] h=aa (.ret (.tuple []),h')/\h'.boxes[sb]?=aa (cz (xQ s b))/\gu sb h.tn h h':=by
 have kX:=ao.mk hx;clear hx;have axK:=(aW.1 ma).1;have kz:=ao.mk (ac6 b);have z242:=Nt;refine iD rfl Tryz.func204 rfl ?_
 repeat' (first|simp(maxSteps:=999999)(disch:=first|exact dZ|fail)only[gW,reduceIte,aS,aO,sN,cR, *]|refine dX ?_ ?_<;>(intro _;try omega))
 refine cH (λm e H=>∃i:Nat,i<=16/\m=16 - i/\e.get 0=.ptr (.box sb) 0/\e.get 1=x/\e.get 4=.ptr (.box h.boxes.length) 0/\e.get 14=.v (.int .i64 i)/\e.defers=[]/\H.boxes[h.boxes.length]?=aa (cz (wl b i))/\H.boxes[sb]?=aa (cz s)/\gu sb h.tn h H) ?_ 16 _ _ ?_;rotate_left 1
 ·refine⟨0,cD _,rfl,?_,?_,?_,?_,?_,?_,bh ma,(gu.refl _ _ _).push _⟩
  iterate 5 (first|assumption|(exact gR))
  rw[kz.out];exact bg _ _
 clear z242 kz;rintro m e H ⟨i,hi,rfl,g0,g1,g4,g14,hd,hw,nm,hM⟩;have kM:=ao.mk hM;have wI:=hM.len;clear hM;by_cases hc:i=16;rotate_left 1
 ·refine sg λQ=>?_;have aC:i<16:=by omega
  have tM:=kX.out H kM.out;obtain⟨y,y1,y2⟩:=tM.slice (t:=28) (lo:=aa (.v (.int .i64 ((4 * i:Nat):Int)))) (hi:=av) (l:=4 * i) (m:=b.length) aZ jJ tW (.inl ⟨rfl,by rw[bF]⟩) (.inr ⟨.i64,rfl⟩) ai;have y3:eu 1 H y (bf (b.drop (4 * i))):=by have e:(N9 b.length (bf b)).drop (4 * i)=bf (b.drop (4 * i)):=(by rw[gK (by rw[bF];exact aL _),<-ad5]);rw[<-e];exact y2
  have cw:=awG _ y H y3 (by rw[iC];omega);rw[awE] at cw;have e4:IntKind.i64.wrap (4 * ((i:Nat):Int))=((4 * i:Nat):Int):=by rw[gh ai ai];omega
  have st:=λz=>JF (x:=z) hw (n:=i) (by rw[vX ai];omega);have bT:=λz hz=>Nr (b:=b) (i:=i) (x:=z) ai hz;have FD:=bT (qZ b (4 * i)) (by rw[aH aC]);have kst:=ao.mk FD;have jG:=(aW.1 hw).1;have ks:=ao.mk nm;clear bT FD tM y2 y3 hw nm ma;have ix:=sF (b:=h.boxes.length) (n:=i) (k:=.i64) ai
  repeat' (first|simp(maxSteps:=999999)(disch:=first|exact dZ|fail)only[gW,reduceIte,aS,aO,sN, *]|refine dX ?_ ?_<;>(intro _;try omega))
  refine⟨16 - (i+1),by omega,i+1,by omega,rfl,aY,aY,aY,rfl,aY,?_,?_,kM.out.fZ (aL _) _⟩
  ·rw[kst.out];exact eO jG
  ·rw[dh ai];exact ks.out
 subst hc;have kw:=ao.mk hw;have ks:=ao.mk nm;clear hw nm ma
 repeat' (first|simp(maxSteps:=999999)(disch:=first|exact dZ|fail)only[gW,reduceIte,aS,aO,sN, *]|refine dX ?_ ?_<;>(intro _;try omega))
 refine cH (λm e H=>∃i:Nat,16<=i/\i<=64/\m=64 - i/\e.get 0=.ptr (.box sb) 0/\e.get 4=.ptr (.box h.boxes.length) 0/\e.get 6=.v (.int .i64 i)/\e.defers=[]/\H.boxes[h.boxes.length]?=aa (cz (wl b i))/\H.boxes[sb]?=aa (cz s)/\gu sb h.tn h H) ?_ 48 _ _ ?_;rotate_left 1
 ·refine⟨16,by decide,by decide,rfl,?_,?_,?_,?_,kw.out,ks.out,kM.out⟩<;>(first|assumption|(exact gR))
 clear kw ks kM g0 g1 g4 g14 hd wI hi;rintro m e H ⟨i,Qh,hi,rfl,g0,g4,g6,hd,hw,nm,hM⟩;have kM:=ao.mk hM;have wI:=hM.len;clear hM;by_cases hc:i=64;rotate_left 1
 ·refine sg λQ=>?_;have l0:=sH hw (n:=i - 16) (by rw[vX hi];omega);have l1:=sH hw (n:=i - 15) (by rw[vX hi];omega);have l2:=sH hw (n:=i - 7) (by rw[vX hi];omega);have l3:=sH hw (n:=i - 2) (by rw[vX hi];omega);rw[ac5 ai] at l0 l1 l2 l3;have i0:=sF (b:=h.boxes.length) (n:=i - 16) (k:=.i64) ai;have i1:=sF (b:=h.boxes.length) (n:=i - 15) (k:=.i64) ai;have i2:=sF (b:=h.boxes.length) (n:=i - 7) (k:=.i64) ai;have i3:=sF (b:=h.boxes.length) (n:=i - 2) (k:=.i64) ai;have i4:=sF (b:=h.boxes.length) (n:=i) (k:=.i64) ai;have e0:IntKind.i64.wrap (((i:Nat):Int) - 16)=((i - 16:Nat):Int):=by rw[gh ai ai];omega
  have e1:IntKind.i64.wrap (((i:Nat):Int) - 15)=((i - 15:Nat):Int):=by rw[gh ai ai];omega
  have e2:IntKind.i64.wrap (((i:Nat):Int) - 7)=((i - 7:Nat):Int):=by rw[gh ai ai];omega
  have e3:IntKind.i64.wrap (((i:Nat):Int) - 2)=((i - 2:Nat):Int):=by rw[gh ai ai];omega
  have st:=λz=>JF (x:=z) hw (n:=i) (by rw[vX hi];omega);have FD:=Nr (b:=b) (i:=i) (x:=FW (iS b i) i) ai (by rw[aJ ai]);unfold FW at FD;have kst:=ao.mk FD;have r7:=λH=>ar6 (dt (iS b i) (i - 15)) H;have r18:=λH=>ar0 (dt (iS b i) (i - 15)) H;have r17:=λH=>arZ (dt (iS b i) (i - 2)) H;have r19:=λH=>ar1 (dt (iS b i) (i - 2)) H;have kw:=ao.mk hw;have ks:=ao.mk nm;clear FD hw nm
  repeat' (first|simp(maxSteps:=999999)(disch:=first|exact dZ|fail)only[gW,reduceIte,aS,aO,sN,pS,po,yM,yL, *]|refine dX ?_ ?_<;>(intro _;try omega))
  refine vS aw ?_
  repeat' (first|simp(maxSteps:=999999)(disch:=first|exact dZ|fail)only[gW,reduceIte,aS,aO,sN,pS,po,yM,yL, *]|refine dX ?_ ?_<;>(intro _;try omega))
  refine Te [6,8,20,22] [] aw ?_ (λp hp=>nomatch hp) ?_
  ·intro k hk;simp only[iU,List.not_mem_nil,or_false] at hk;rcases hk with rfl|rfl|rfl|rfl
   ·refine EM (x:=aX (NT.ec (dt (iS b i) (i - 15)) 7)) rfl rfl ?_ ?_
    ·simp only[iV,gF]
     repeat' (first|simp(maxSteps:=999999)(disch:=first|exact dZ|fail)only[gW,reduceIte,aS,aO, *]|refine dX ?_ ?_<;>(intro _;try omega))
     exact⟨by trivial,λ_=>by trivial⟩
    ·repeat' (first|simp(maxSteps:=999999)(disch:=first|exact dZ|fail)only[gW,reduceIte,aS,aO,pS,po,yM,yL, *]|refine dX ?_ ?_<;>(intro _;try omega))
   ·refine EM (x:=aX (NT.ec (dt (iS b i) (i - 15)) 18)) rfl rfl ?_ ?_
    ·simp only[iV,gF]
     repeat' (first|simp(maxSteps:=999999)(disch:=first|exact dZ|fail)only[gW,reduceIte,aS,aO, *]|refine dX ?_ ?_<;>(intro _;try omega))
     exact⟨by trivial,λ_=>by trivial⟩
    ·repeat' (first|simp(maxSteps:=999999)(disch:=first|exact dZ|fail)only[gW,reduceIte,aS,aO,pS,po,yM,yL, *]|refine dX ?_ ?_<;>(intro _;try omega))
   ·refine EM (x:=aX (NT.ec (dt (iS b i) (i - 2)) 17)) rfl rfl ?_ ?_
    ·simp only[iV,gF]
     repeat' (first|simp(maxSteps:=999999)(disch:=first|exact dZ|fail)only[gW,reduceIte,aS,aO,pS,po,yM,yL, *]|refine dX ?_ ?_<;>(intro _;try omega))
     exact⟨by trivial,λ_=>by trivial⟩
    ·repeat' (first|simp(maxSteps:=999999)(disch:=first|exact dZ|fail)only[gW,reduceIte,aS,aO,pS,po,yM,yL, *]|refine dX ?_ ?_<;>(intro _;try omega))
   ·refine EM (x:=aX (NT.ec (dt (iS b i) (i - 2)) 19)) rfl rfl ?_ ?_
    ·simp only[iV,gF]
     repeat' (first|simp(maxSteps:=999999)(disch:=first|exact dZ|fail)only[gW,reduceIte,aS,aO,pS,po,yM,yL, *]|refine dX ?_ ?_<;>(intro _;try omega))
     exact⟨by trivial,λ_=>by trivial⟩
    ·repeat' (first|simp(maxSteps:=999999)(disch:=first|exact dZ|fail)only[gW,reduceIte,aS,aO,pS,po,yM,yL, *]|refine dX ?_ ?_<;>(intro _;try omega))
  repeat' (first|simp(maxSteps:=999999)(disch:=first|exact dZ|fail)only[gW,reduceIte,aS,aO,sN,pS,po,yM,yL, *]|refine dX ?_ ?_<;>(intro _;try omega))
  refine⟨64 - (i+1),by omega,i+1,by omega,by omega,rfl,aY,aY,rfl,aY,?_,?_,kM.out.fZ (aL _) _⟩
  ·rw[kst.out];exact eO (aW.1 kw.out).1
  ·rw[dh ai];exact ks.out
 subst hc;rw[TX] at hw;have a230:=Ko;have s230:=Gu;have lds:aI aq Gt H 230 (.ptr (.box sb) 0)=aa (.agg (cz s)):=by
  have h8:(cz s).length=8:=by rw[bF];exact hs
  rw[iP Ko Gu nm (by rw[h8];exact aL _),jm,gK (by rw[h8];exact aL _)]
 have cs8:(AV.agg (cz s)).cd=aa (cz s):=KC hs;have zz:(iB aq 230).bind AV.cd=aa (cz (br 8 0#32)):=by rw[TU];exact ac8
 have spz:∀H:ar,cE aq (H.push (cz (br 8 0#32))) 230 (.ptr (.box H.boxes.length) 0) (.agg (cz s))=aa (H.push (cz s)):=λH=>lq (KC hs) Gu (by rw[bF];exact hs) (by rw[bF];rfl);have jG:=(aW.1 hw).1;have kw:=ao.mk hw;have ks:=ao.mk nm;clear hw nm;have hM:=kM.out
 repeat' (first|simp(maxSteps:=999999)(disch:=first|exact dZ|fail)only[gW,reduceIte,aS,aO,sN, *]|refine dX ?_ ?_<;>(intro _;try omega))
 refine cH (λm e H2=>∃i:Nat,i<=64/\m=64 - i/\e.get 0=.ptr (.box sb) 0/\e.get 4=.ptr (.box h.boxes.length) 0/\e.get 9=.ptr (.box H.boxes.length) 0/\e.get 69=.v (.int .i64 i)/\e.defers=[]/\H2.boxes[h.boxes.length]?=aa (cz (iS b 64))/\H2.boxes[sb]?=aa (cz s)/\H2.boxes[H.boxes.length]?=aa (cz (vF s b i))/\gu sb h.tn h H2) ?_ 64 _ _ ?_;rotate_left 1
 ·refine⟨0,by decide,rfl,?_,?_,?_,?_,?_,bh kw.out,bh ks.out,bg _ _,kM.out.push _⟩<;>(first|assumption|(exact gR))
 clear kw ks kM g0 g4 g6 hd lds cs8 zz spz hi Qh hM;have hHL:h.boxes.length<H.boxes.length:=jG;generalize hvb:H.boxes.length=vb at *
 clear hvb jG wI;rintro m e H ⟨i,hi,rfl,g0,g4,g9,g69,hd,hw,nm,hv,hM⟩;have kM:=ao.mk hM;have wI:=hM.len;clear hM;by_cases hc:i=64;rotate_left 1
 ·refine sg λQ=>?_;have aC:i<64:=by omega
  have lw:=sH hw (n:=i) (by rw[Gm];exact aC);have lk:=λH=>amT (H:=H) aC;have iw:=sF (b:=h.boxes.length) (n:=i) (k:=.i64) aC;have ik:=amF (g:=1) (n:=i) (k:=.i64) aC;have kR:=ao.mk (TT s b i);obtain⟨v0,v1,v2,v3,v4,v5,v6,v7,FH⟩:=eight (TS b hs i);have kE:=ao.mk (ar9 (iS b 64) _ i _ _ _ _ _ _ _ _ FH);rw[FH] at hv;have r1:=λH=>ar8 v4 H;have r2:=λH=>ar7 v0 H;have rG:H.boxes[vb]?=aa [aX v0,aX v1,aX v2,aX v3,aX v4,aX v5,aX v6,aX v7]:=hv;have kw:=ao.mk hw;have ks:=ao.mk nm;clear hw nm hv FH;have j0:dS aq 230 (.ptr (.box vb) 0) (.v (.int .i64 0))=aa (.ptr (.box vb) 0):=zX (n:=0) aZ;have j1:dS aq 230 (.ptr (.box vb) 0) (.v (.int .i64 1))=aa (.ptr (.box vb) 1):=zX (n:=1) aZ;have j2:dS aq 230 (.ptr (.box vb) 0) (.v (.int .i64 2))=aa (.ptr (.box vb) 2):=zX (n:=2) aZ;have j4:dS aq 230 (.ptr (.box vb) 0) (.v (.int .i64 4))=aa (.ptr (.box vb) 4):=zX (n:=4) aZ;have j5:dS aq 230 (.ptr (.box vb) 0) (.v (.int .i64 5))=aa (.ptr (.box vb) 5):=zX (n:=5) aZ;have j6:dS aq 230 (.ptr (.box vb) 0) (.v (.int .i64 6))=aa (.ptr (.box vb) 6):=zX (n:=6) aZ;have j7:dS aq 230 (.ptr (.box vb) 0) (.v (.int .i64 7))=aa (.ptr (.box vb) 7):=zX (n:=7) aZ;have qR:=(aW.1 rG).1;have a42:=Hn;have s42:=yP;have cp:=aiy rG;have sla:=aup (b:=vb);have slb:=auq (b:=vb)
  repeat' (first|simp(maxSteps:=999999)(disch:=first|exact dZ|fail)only[gW,reduceIte,aS,aO,sN,pS,po,EG,qo,AK,jm,B9, *]|refine dX ?_ ?_<;>(intro _;try omega))
  refine Te [4] [] aw ?_ (λp hp=>nomatch hp) ?_
  ·intro k hk;simp only[nC] at hk;subst hk;refine EM (x:=aX (NT.ec v4 6^^^NT.ec v4 11^^^NT.ec v4 25)) rfl rfl ?_ ?_
   ·simp only[iV,gF]
    repeat' (first|simp(maxSteps:=999999)(disch:=first|exact dZ|fail)only[gW,reduceIte,aS,aO,AK,jm,B9, *]|refine dX ?_ ?_<;>(intro _;try omega))
    exact⟨by trivial,λ_=>by trivial⟩
   ·repeat' (first|simp(maxSteps:=999999)(disch:=first|exact dZ|fail)only[gW,reduceIte,aS,aO,pS,po,EG,qo,AK,jm,B9, *]|refine dX ?_ ?_<;>(intro _;try omega))
  repeat' (first|simp(maxSteps:=999999)(disch:=first|exact dZ|fail)only[gW,reduceIte,aS,aO,sN,pS,po,EG,qo,AK,jm,B9, *]|refine dX ?_ ?_<;>(intro _;try omega))
  refine Te [2] [] aw ?_ (λp hp=>nomatch hp) ?_
  ·intro k hk;simp only[nC] at hk;subst hk;refine EM (x:=aX (NT.ec v0 2^^^NT.ec v0 13^^^NT.ec v0 22)) rfl rfl ?_ ?_
   ·simp only[iV,gF]
    repeat' (first|simp(maxSteps:=999999)(disch:=first|exact dZ|fail)only[gW,reduceIte,aS,aO,AK,jm,B9, *]|refine dX ?_ ?_<;>(intro _;try omega))
    exact⟨by trivial,λ_=>by trivial⟩
   ·repeat' (first|simp(maxSteps:=999999)(disch:=first|exact dZ|fail)only[gW,reduceIte,aS,aO,pS,po,EG,qo,AK,jm,B9, *]|refine dX ?_ ?_<;>(intro _;try omega))
  repeat' (first|simp(maxSteps:=999999)(disch:=first|exact dZ|fail)only[gW,reduceIte,aS,aO,sN,pS,po,EG,qo,AK,jm,B9, *]|refine dX ?_ ?_<;>(intro _;try omega))
  refine vS aw ?_;clear rG
  repeat' (first|simp(maxSteps:=999999)(disch:=first|exact dZ|fail)only[gW,reduceIte,aS,aO,sN,Z5,stp,Mk,po,AK,jm,B9,Uy,List.set_cons_succ, *]|refine dX ?_ ?_<;>(intro _;try omega))
  refine⟨64 - (i+1),by omega,i+1,by omega,rfl,aY,aY,aY,rfl,aY,?_,?_,?_,kM.out.fZ ai _⟩
  ·rw[dh ai];exact kw.out
  ·rw[dh ai];exact ks.out
  ·rw[eO qR,kR.out,kE.out];rfl
 subst hc;have Yj:xQ s b=GZ (·+·) s (vF s b 64):=rfl;rw[Yj];have h8:=TS b hs 64;generalize vF s b 64=v at *
 have qR:=(aW.1 hv).1;have ks:=ao.mk nm;have kv:=ao.mk hv;clear hw nm hv Yj
 repeat' (first|simp(maxSteps:=999999)(disch:=first|exact dZ|fail)only[gW,reduceIte,aS,aO,sN, *]|refine dX ?_ ?_<;>(intro _;try omega))
 refine cH (λm e H2=>∃i:Nat,i<=8/\m=8 - i/\e.get 0=.ptr (.box sb) 0/\e.get 9=.ptr (.box vb) 0/\e.get 129=.v (.int .i64 i)/\e.defers=[]/\H2.boxes[sb]?=aa (cz (Ao s v i))/\H2.boxes[vb]?=aa (cz v)/\gu sb h.tn h H2) ?_ 8 _ _ ?_;rotate_left 1
 ·refine⟨0,by decide,rfl,?_,?_,?_,?_,ks.out,kv.out,kM.out⟩<;>(first|assumption|(exact gR))
 clear ks kv kM g0 g4 g9 g69 hd wI hi;rintro m e H ⟨i,hi,rfl,g0,g9,g129,hd,nm,hv,hM⟩;have kM:=ao.mk hM;clear hM;by_cases hc:i=8;rotate_left 1
 ·refine sg λQ=>?_;have aC:i<8:=by omega
  have hz:=aw8 hs h8 hi;have l1:=sH nm (n:=i) ai;have l2:=sH hv (n:=i) ai;rw[aw7 hs h8 aC] at l1;have j1:=zX (b:=sb) (n:=i) (k:=.i64) aC;have j2:=zX (b:=vb) (n:=i) (k:=.i64) aC;have st:=JF (x:=dt s i+dt v i) nm (n:=i) ai;rw[aw9 hs h8 aC] at st;have nR:=(aW.1 nm).1;have kv:=ao.mk hv;clear nm hv
  repeat' (first|simp(maxSteps:=999999)(disch:=first|exact dZ|fail)only[gW,reduceIte,aS,aO,sN, *]|refine dX ?_ ?_<;>(intro _;try omega))
  refine vS aw ?_
  repeat' (first|simp(maxSteps:=999999)(disch:=first|exact dZ|fail)only[gW,reduceIte,aS,aO,sN,po, *]|refine dX ?_ ?_<;>(intro _;try omega))
  refine⟨8 - (i+1),by omega,i+1,by omega,rfl,aY,aY,rfl,aY,eO nR,?_,kM.out.trans (.put _ _ _ _)⟩;rw[dh ai];exact kv.out
 subst hc;rw[aw6 hs h8] at nm;have ks:=ao.mk nm;clear nm hv
 repeat' (first|simp(maxSteps:=999999)(disch:=first|exact dZ|fail)only[gW,reduceIte,aS,aO,sN, *]|refine dX ?_ ?_<;>(intro _;try omega))
 exact⟨_,rfl,ks.out,kM.out⟩
def SU:Tryz.f205.results.toList=[]:=aw
def aiU(n)(h):oa aq h 42 216 (.v (.int .u32 n))=aa (.v (.int .u64 (IntKind.u64.wrap n)),h):=aw
def r8(n)(h):oa aq h 3 216 (.v (.int .i64 n))=aa (.v (.int .u64 (IntKind.u64.wrap n)),h):=aw
def EP(n)(h):oa aq h 216 5 (.v (.int .u64 n))=aa (.v (.int .u8 (IntKind.u8.wrap n)),h):=aw
def cB(b:UInt8):AV:=.v (.int .u8 b.toNat)
abbrev ct(l:List UInt8):List AV:=l.map cB
def wj(n k:Nat):List UInt8:=(bO k).map λi=>UInt8.ofNat (n/256^(k - 1 - i))
def OM(n k):(wj n k).length=k:=by simp[wj]
def xg(cs:List AV)(off len n i:Nat):List AV:=cs.take (off+len - i)++ct ((wj n len).drop (len - i))++cs.drop (off+len)
def apX{cs}{off len n}:xg cs off len n 0=cs:=by unfold xg;rw[UH,UH,rh (by rw[OM];exact aL _)];show N9 (off+len) cs++[]++_=_;rw[jC,zd]
def apV{cs}{off len n i}(hi:i<=len)(hl:off+len<=cs.length):(xg cs off len n i).length=cs.length:=by unfold xg;simp only[dM,fm,bF,iC,OM];omega
def apW{cs}{off len n i}(hi:i<len)(hl:off+len<=cs.length):(xg cs off len n i).set (off+(len - 1 - i)) (cB (UInt8.ofNat (n/256^i)))=xg cs off len n (i+1):=by
 unfold xg;have e1:off+len - i=(off+(len - 1 - i))+1:=by omega
 have e2:off+len - (i+1)=off+(len - 1 - i):=by omega
 have aC:off+(len - 1 - i)<cs.length:=by omega
 have e3:(wj n len).drop (len - (i+1))=UInt8.ofNat (n/256^i)::(wj n len).drop (len - i):=by
  rw[y6 (by rw[OM];omega)];congr 1
  ·unfold wj;rw[qx,B8];congr 3;omega
  ·congr 1;omega
 rw[e1,e2,e3,aeh aC];generalize he:cs[off+(len - 1 - i)]=z;rw[ua,ua,N8 _ _ (by rw[fm];omega),fm,show off+(len - 1 - i) - min (off+(len - 1 - i)) cs.length=0 by omega];simp
def DO(cs:List AV)(off len n:Nat):List AV:=cs.take off++ct (wj n len)++cs.drop (off+len)
def apU{cs}{off len n}:xg cs off len n len=DO cs off len n:=by unfold xg DO;rw[ve,jm,Nat.add_sub_cancel]
def ZQ{b off len aF n}{k}(hn:n<len):dS aq 28 (.arr b off len aF) (.v (.int k (n:Nat)))=aa (.ptr (.box b) (off+n)):=by rw[FK jJ tW ai ai,dW,ph]
def Nc{H}{b k}{cs}{v}(hb:H.boxes[b]?=aa cs)(hk:k<cs.length):cE aq H 5 (.ptr (.box b) k) (cB v)=aa (H.put b (cs.set k (cB v))):=by rw[fK (xs:=[cB v]) rfl tW hb rfl hk];congr 2;unfold fe;rw[Cd,aH (show k<cs.length from hk)];simp
def TP(m):AV.v (.int .u8 (IntKind.u8.wrap ((m:Nat):Int)))=cB (UInt8.ofNat m):=by unfold cB;rw[show(UInt8.ofNat m).toNat=m%256 from UInt8.toNat_ofNat'];unfold IntKind.wrap;simp[IntKind.signed,IntKind.bits]
def Sz(b off len aF n:Nat)(cs:List AV)(h:ar)(hl:len<=8)(hn:n<18446744073709551616)(hb:h.boxes[b]?=aa cs)(hc:off+len<=cs.length):
 W.call 205 [.arr b off len aF,.v (.int .u64 (n:Nat))] h=aa (.ret (.tuple []),h.put b (DO cs off len n)):=by
 have u28:=jJ;have PT:=(aW.1 hb).1;have k0:=ao.mk (oB hb);clear hb;refine cN rfl Tryz.func205 rfl ?_;refine pD @SU ?_;refine cH (λm e H=>∃i:Nat,i<=len/\m=len - i/\e.get 0=.arr b off len aF/\e.get 1=.v (.int .u64 (n:Nat))/\e.get 6=.v (.int .i64 (len:Nat))/\e.get 7=.v (.int .i64 i)/\e.defers=[]/\H=h.put b (xg cs off len n i)) ?_ len _ _ ?_;rotate_left 1
 ·refine⟨0,cD _,rfl,?_,?_,?_,?_,?_,by rw[apX];exact k0.out.symm⟩<;>(first|assumption|(exact gR))
 rintro m e H ⟨i,hi,rfl,g0,g1,g6,g7,hd,rfl⟩;by_cases CU:i=len
 ·subst CU;rw[apU];exact jx @SU
 ·refine sg λQ=>?_;have aC:i<len:=by omega
  have e1:IntKind.i64.wrap (8 * ((i:Nat):Int))=((8 * i:Nat):Int):=by rw[gh ai ai];omega
  have e2:IntKind.i64.wrap (((len:Nat):Int) - 1)=((len - 1:Nat):Int):=by rw[gh ai ai];omega
  have e3:IntKind.i64.wrap (((len - 1:Nat):Int) - ((i:Nat):Int))=((len - 1 - i:Nat):Int):=by rw[gh ai ai];omega
  have sh:∀(t:aP) (x y:bU),dn aq .shr t x y (.v (.int .u64 (n:Nat))) (.v (.int .i64 ((8 * i:Nat):Int)))=aa (.v (.int .u64 ((n/256^i:Nat):Int))):=λt x y=>by rw[Cr ai,dW,show IntKind.u64.bits=64 from rfl,Ey ai];congr 3;rw[GK _ (by have:(0:Int)<2^(8 * i):=adI aZ;omega)];have e8:(2:Int)^(8 * i)=((256^i:Nat):Int):=(by rw[GN];simp);rw[e8];rfl
  have uv:=TP (n/256^i);have ix:=ZQ (b:=b) (off:=off) (aF:=aF) (k:=.i64) (ai:len - 1 - i<len);have st:=Nc (H:=h.put b (xg cs off len n i)) (v:=UInt8.ofNat (n/256^i)) (k:=off+(len - 1 - i)) (eO PT) (by rw[apV ai hc];omega);rw[apW aC hc,Mk] at st;refine Pz @SU @EP ?_;refine⟨len - (i+1),by omega,i+1,by omega,rfl,aY,aY,aY,rfl,aY,rfl⟩
def Hw:∀(i:Nat) (s:List fa) (b:List UInt8),hY (i+1) s b=xQ (hY i s b) ((b.drop (64 * i)).take 64)
 |0,s,b=>rfl
 |i+1,s,b=>by rw[hY,Hw i,hY,y5];congr 3;omega
def VF:∀(i j:Nat) (s:List fa) (b:List UInt8),hY (i+j) s b=hY j (hY i s b) (b.drop (64 * i))
 |0,j,s,b=>by rw[qA];rfl
 |i+1,j,s,b=>by rw[(ai:i+1+j=(i+j)+1),hY,VF i j,hY,y5];congr 2;omega
def OS:∀(i:Nat) (s:List fa) (a b:List UInt8),64 * i<=a.length->hY i s (a++b)=hY i s a
 |0,_,_,_,_=>rfl
 |i+1,s,a,b,h=>by rw[hY,hY,List.take_append_of_le_length ai,adP ai];exact OS i _ _ b (by rw[iC];omega)
def agN{s}{b}(hs:s.length=8):(xQ s b).length=8:=by have:=TS b hs 64;unfold vF at this;unfold xQ;simp[hs,this]
def wq:∀(i:Nat) (s:List fa) (b:List UInt8),s.length=8->(hY i s b).length=8
 |0,_,_,h=>h
 |i+1,s,b,h=>wq i _ _ (agN h)
def py(r:Nat):Nat:=if r>55 then 128 else 64
def ob(rest:List UInt8)(n:Nat):List UInt8:=rest++0x80::br (py rest.length - 9 - rest.length) 0++pN n
def WK{rest}{n}(hr:rest.length<64):(ob rest n).length=py rest.length:=by
 unfold ob py;simp only[dM,jd,mX];have:(pN n).length=8:=by simp[pN]
 rw[this];split<;>omega
def aoH(b):rM b=b.take (64 * (b.length/64))++ob (b.drop (64 * (b.length/64))) b.length:=by
 unfold rM ob;have e:pT b.length=py (b.drop (64 * (b.length/64))).length - 9 - (b.drop (64 * (b.length/64))).length:=by unfold pT py;rw[iC];split<;>omega
 rw[e,<-ua,<-ua,zd]
def at7(b):fk b=jY (hY (py (b.drop (64 * (b.length/64))).length/64) (hY (b.length/64) NT.start b) (ob (b.drop (64 * (b.length/64))) b.length)):=by
 unfold fk;have hr:(b.drop (64 * (b.length/64))).length<64:=by rw[iC];omega
 have bR:(b.take (64 * (b.length/64))).length=64 * (b.length/64):=by rw[fm];omega
 rw[aoH,dM,WK hr,bR,show(64 * (b.length/64)+py (b.drop (64 * (b.length/64))).length)/64=b.length/64+py (b.drop (64 * (b.length/64))).length/64 by rw[Nat.mul_add_div aZ]];have h2:hY (b.length/64) NT.start (b.take (64 * (b.length/64)))=hY (b.length/64) NT.start b:=by have:=OS (b.length/64) NT.start (b.take (64 * (b.length/64))) (b.drop (64 * (b.length/64))) (by rw[bR];exact aL _);rw[zd] at this;exact this.symm
 have h1:(b.take (64 * (b.length/64))).drop (64 * (b.length/64))=[]:=rh (by rw[bR];exact aL _);rw[VF,adP (by rw[bR];exact aL _),h1,mh];rw[OS _ _ _ _ (by rw[bR];exact aL _),h2]
def am2(n):wj (n * 8) 8=pN n:=by unfold wj pN;apply Kf;intro i hi;rw[gf] at hi;congr 2;rw[show(256:Nat)=2^8 from rfl,<-Hi]
def af6(x:fa):wj x.toNat 4=[UInt8.ofNat (x.toNat/16777216),UInt8.ofNat (x.toNat/65536),UInt8.ofNat (x.toNat/256),UInt8.ofNat x.toNat]:=by show[UInt8.ofNat (x.toNat/256^3),UInt8.ofNat (x.toNat/256^2),UInt8.ofNat (x.toNat/256^1),UInt8.ofNat (x.toNat/256^0)]=_;simp
def aoy{s:List fa}{i}{x}(hi:s[i]?=aa x):jY (s.take (i+1))=jY (s.take i)++wj x.toNat 4:=by rw[fE hi,af6];unfold jY;rw[List.flatMap_append];simp
def DN(s):(jY s).length=4 * s.length:=by
 unfold jY
 induction s with
 |nil=>rfl|cons a s ih=>rw[List.flatMap_cons,dM,ih];simp;omega
def mI(l):(ct l).length=l.length:=bF _
def ajw{rest}{n}(hr:rest.length<64):
 DO ((ct rest++(br 128 (cB 0)).drop rest.length).set rest.length (cB 0x80)) (py rest.length - 8) 8 (n * 8)=ct (ob rest n)++br (128 - py rest.length) (cB 0):=by
 have hL:py rest.length=64∨py rest.length=128:=by unfold py;split<;>omega
 have hL2:rest.length+9<=py rest.length:=by unfold py;split<;>omega
 rw[Us];obtain⟨k,hk⟩:∃k,128 - rest.length=k+1:=⟨127 - rest.length,by omega⟩;rw[hk,Cc,N8 _ _ (by rw[mI];exact aL _),mI,ve,Uy];unfold DO ob;rw[am2];generalize py rest.length=L at *
 have e1:N9 (L - 8) (ct rest++cB 0x80::br k (cB 0))=ct (rest++0x80::br (L - 9 - rest.length) 0):=by rw[List.take_append,mI,gK (by rw[mI];omega)];obtain⟨j,hj⟩:∃j,L - 8 - rest.length=j+1:=⟨L - 9 - rest.length,by omega⟩;rw[hj,iV,List.take_replicate,Ey ai];unfold ct;rw[mY,eL,y9,(ai:L - 9 - rest.length=j)]
 have e2:List.drop (L - 8+8) (ct rest++cB 0x80::br k (cB 0))=br (128 - L) (cB 0):=by rw[Eu,mI,rh (by rw[mI];omega),mh];obtain⟨j,hj⟩:∃j,L - 8+8 - rest.length=j+1:=⟨L - 1 - rest.length,by omega⟩;rw[hj,AK,Us];congr 1;omega
 rw[e1,e2];unfold ct;rw[<-mY]
def vP:Tryz.f181.results.toList=[.cell 2 177]:=aw
def EF:gY aq 177=aa ah:=aw
def rQ:dJ aq 177=aa 32:=aw
def Gx:(iB aq 177).bind AV.cd=aa (br 32 (cB 0)):=aw
def amR(H):aI aq Gt H 229 (.ptr (.fb 0) 0)=aa (.agg (cz NT.start)):=aw
def Am(l):(AV.agg (ct l)).cd=aa (ct l):=by
 have:(ct l).all AV.eH=ah:=by rw[eK];intro x hx;obtain⟨b,-,rfl⟩:=kC.1 hx;rfl
 unfold AV.cd;simp[this]
def aan(H):Ab aq H 28 (.v (.int .i64 64)) (.v (.int .i64 128))=aa (.arr H.boxes.length 0 64 128,H.push (br 128 (cB 0))):=aw
def JQ(l):(bf l).flatten=ct l:=by rw[OW];rfl
def aix{H}{eb len aF}{x}{rest}{cs}(s:eu 1 H x (bf rest))(hb:H.boxes[eb]?=aa cs)(h1:len<=cs.length)(h2:len<=aF)(h3:rest.length<=len):
 A3 aq H #[28,28] (.arr eb 0 len aF) x=aa (.v (.int .i64 (rest.length:Nat)),H.put eb (ct rest++cs.drop rest.length)):=by
 have hi:∃i,aq.info? 5=aa i/\i.size=1:=by
  have wF:=tW;unfold dJ at wF;cases hq:aq.info? 5 with
  |none=>rw[hq] at wF;cases wF
  |some i=>rw[hq] at wF;exact⟨i,rfl,by simpa using wF⟩
 obtain⟨i,q1,q2⟩:=hi;have hu:((#[28,28]:Array Nat)[0]?).bind aq.underlying=aa (.slice 5):=aw;unfold A3;rw[hu];simp only[q1,q2,s.news,hb];rw[aH ⟨ai,h2⟩];have hm:Nat.min (bf rest).length len=rest.length:=by rw[bF];exact Ey h3
 rw[hm,gK (by rw[bF];exact aL _),JQ];have e:fe cs 0 (ct rest)=ct rest++cs.drop rest.length:=by unfold fe;rw[gF,mh,qA,mI]
 rw[e];rfl
def To{R:ar->Prop}{H0}{x}{l}(hx:∀H,R H->eu 1 H x (bf l))(h0:R H0)(hl:64<=l.length):
 ∃y z,jc aq 28 x av (aa (.v (.int .i64 64))) av=aa y/\jc aq 28 x (aa (.v (.int .i64 64))) av av=aa z/\
  (∀H,R H->eu 1 H y (bf (l.take 64)))/\∀H,R H->eu 1 H z (bf (l.drop 64)):=by
 have A:∀H,R H->∃y,jc aq 28 x av (aa (.v (.int .i64 64))) av=aa y/\eu 1 H y (bf (l.take 64)):=λH hH=>by obtain⟨y,y1,y2⟩:=(hx H hH).slice (t:=28) (lo:=av) (hi:=aa (.v (.int .i64 64))) (l:=0) (m:=64) aZ jJ tW (.inr ⟨.i64,rfl,by rw[bF];exact hl⟩) (.inl ⟨rfl,rfl⟩) aZ;rw[jm,<-List.map_take] at y2;exact⟨y,y1,y2⟩
 have B:∀H,R H->∃y,jc aq 28 x (aa (.v (.int .i64 64))) av av=aa y/\eu 1 H y (bf (l.drop 64)):=λH hH=>by obtain⟨y,y1,y2⟩:=(hx H hH).slice (t:=28) (lo:=aa (.v (.int .i64 64))) (hi:=av) (l:=64) (m:=l.length) aZ jJ tW (.inl ⟨rfl,by rw[bF]⟩) (.inr ⟨.i64,rfl⟩) hl;rw[gK (by rw[bF];exact aL _),<-ad5] at y2;exact⟨y,y1,y2⟩
 obtain⟨y,y1,-⟩:=A H0 h0;obtain⟨z,z1,-⟩:=B H0 h0;refine⟨y,z,y1,z1,λH hH=>?_,λH hH=>?_⟩
 ·obtain⟨y',q1,q2⟩:=A H hH;rw[y1] at q1;cases q1;exact q2
 ·obtain⟨y',q1,q2⟩:=B H hH;rw[z1] at q1;cases q1;exact q2
def ZP{l}{i}{k}(hl:l.length=8)(hi:i<8):DA aq 230 (.agg (cz l)) (.v (.int k (i:Nat)))=aa (aX (dt l i)):=by
 have hu:=aeT;unfold DA;rw[hu];simp only[yP];rw[aH ⟨ai,by omega⟩];unfold I5;rw[Hn];simp only[yP];rw[dW,ph];have kU:i<l.length:=by omega
 show(cz l)[i]?=_;rw[ey,dt,eE,aU kU];rfl
def acf{b i}(hi:i<8):jc aq 177 (.ptr (.box b) 0) (aa (.v (.int .i64 ((4 * i:Nat):Int)))) (aa (.v (.int .i64 ((4 * i+4:Nat):Int)))) av=aa (.arr b (4 * i) 4 (32 - 4 * i)):=by
 have hu:=Tryz.underlying177;unfold jc;rw[hu];have h1:hJ 32 av 32=aa 32:=rfl;have h2:hJ 32 (aa (.v (.int .i64 ((4 * i+4:Nat):Int)))) 32=aa (4 * i+4):=by show(if _ then _ else _)=_;rw[aH ⟨ai,by omega⟩,dW]
 have h3:hJ (4 * i+4) (aa (.v (.int .i64 ((4 * i:Nat):Int)))) 0=aa (4 * i):=by show(if _ then _ else _)=_;rw[aH ⟨ai,by omega⟩,dW]
 simp only[tW,h1,h2,h3];rw[aJ bJ,aJ ai,qA,ph,(ai:4 * i+4 - 4 * i=4)]
def Wy{v:fa}{H}:oa aq H 42 216 (aX v)=aa (.v (.int .u64 (v.toNat:Nat)),H):=by unfold aX;rw[aiU];congr 4;unfold IntKind.wrap;simp[IntKind.signed,IntKind.bits];have:=v.isLt;omega
def aco(cs):fe cs 0 cs=cs:=by unfold fe;simp
def aaJ{s}(hs:s.length=8){i}(hi:i<8):DO (ct (jY (s.take i))++br (32 - 4 * i) (cB 0)) (4 * i) 4 (dt s i).toNat=ct (jY (s.take (i+1)))++br (32 - 4 * (i+1)) (cB 0):=by
 have hl:(ct (jY (s.take i))).length=4 * i:=by rw[mI,DN,fm];omega
 have hx:s[i]?=aa (dt s i):=by unfold dt;rw[eE,aU ai];rfl
 unfold DO;rw[aoy hx,Ki hl,Eu,hl,rh ai,mh,Us,(ai:32 - 4 * i - (4 * i+4 - 4 * i)=32 - 4 * (i+1))];unfold ct;rw[mY]
def ajc(b)(i):xQ (hY i NT.start b) ((b.drop (64 * i)).take 64)=hY (i+1) NT.start b:=(Hw i _ b).symm
def acb(b:List UInt8)(x:AV)(h:ar)(s:eu 1 h x (bf b))(hb:b.length<=1152921504606846975):
 ∃h',W.call 181 [x] h=aa (.ret (.agg (ct (fk b))),h')/\Ext h h':=by
 have u28:=jJ;have z177:=Gx;have zz:(iB aq 230).bind AV.cd=aa (cz (br 8 0#32)):=by rw[TU];exact ac8
 have cs8:(AV.agg (cz NT.start)).cd=aa (cz NT.start):=KC rfl;have spz:∀H:ar,cE aq (H.push (cz (br 8 0#32))) 230 (.ptr (.box H.boxes.length) 0) (.agg (cz NT.start))=aa (H.push (cz NT.start)):=λH=>lq (KC rfl) Gu rfl rfl;have spz2:∀H:ar,∀y,cE aq ((H.push y).push (cz (br 8 0#32))) 230 (.ptr (.box (H.boxes.length+1)) 0) (.agg (cz NT.start))=aa ((H.push y).push (cz NT.start)):=λH y=>by rw[<-cR H y];exact spz _
 have lx:=s.len jJ;rw[bF] at lx;have kS:=ao.mk s;have kSs:=ao.mk (at7 b);clear s;refine iD rfl Tryz.func181 rfl ?_;refine cX @vP @cR @amR ?_;generalize fX:(h.push (br 32 (cB 0))).push (cz NT.start)=H0;generalize ma:h.boxes.length+1=sb;have kx:ao (∀H',gu sb h.tn H0 H'->eu 1 H' x (bf b)):=⟨λH' m=>kS.out.mono λc cs hc=>by have aC:=(aW.1 hc).1;refine m.box c cs ai ?_;rw[<-fX];exact bh (bh hc)⟩;have bE:H0.boxes[h.boxes.length]?=aa (br 32 (cB 0)):=by rw[<-fX];exact bh (bg _ _)
 have wQ:H0.boxes[sb]?=aa (cz (hY 0 NT.start b)):=by rw[<-fX,<-ma];exact nM (by rw[cR])
 have XM:Ext h H0:=by rw[<-fX];exact(Ext.push _ _).trans (.push _ _)
 have axJ:h.boxes.length<sb:=by omega
 have PI:H0.boxes.length=sb+1:=by rw[<-fX,<-ma,cR,cR]
 have kd:=ao.mk bE;have kE:=ao.mk XM;have ks:=ao.mk wQ;clear bE XM wQ fX ma z177 zz cs8 spz spz2 kS;refine cH (λm e H=>∃(i:Nat) (y:AV),64 * i<=b.length/\m=b.length - 64 * i/\e.get 0=x/\e.get 2=.ptr (.box h.boxes.length) 0/\e.get 3=.ptr (.box sb) 0/\e.get 4=.func (.func 204) [.ptr (.box sb) 0] []/\e.get 5=y/\e.defers=[]/\(∀H',gu sb h.tn H0 H'->eu 1 H' y (bf (b.drop (64 * i))))/\H.boxes[sb]?=aa (cz (hY i NT.start b))/\gu sb h.tn H0 H) ?_ b.length _ _ ?_;rotate_left 1
 ·refine⟨0,x,cD _,rfl,?_,?_,?_,?_,?_,?_,kx.out,ks.out,gu.refl _ _ _⟩<;>(first|assumption|(exact gR))
 clear ks;rintro m e H ⟨i,y,hi,rfl,g0,g2,g3,g4,g5,hd,hy,ma,hM⟩;have ly:=(hy H hM).len jJ;rw[bF,iC] at ly;by_cases hc:64<=b.length - 64 * i
 ·refine sg λQ=>?_;obtain⟨y1,y2,q1,q2,q3,q4⟩:=To hy hM (by rw[iC];exact hc);obtain⟨H2,c1,c2,c3⟩:=Ox _ _ sb y1 H (wq i NT.start b rfl) (by rw[fm,iC];omega) ma (λH' m=>q3 H' (hM.trans (m.uW (fG kE.out.tn hM.tn))));rw[ajc] at c2;have kM:=ao.mk (hM.trans (c3.uW (fG kE.out.tn hM.tn)));have kq:=ao.mk q4;have k2:=ao.mk c2;clear hM c2 c3 q3 q4 hy ma;refine cX @vP @lO.{0} @mh.{0} ?_;refine⟨b.length - 64 * (i+1),by omega,i+1,y2,by omega,rfl,aY,aY,aY,aY,rfl,aY,?_,k2.out,kM.out⟩;rw[(ai:64 * (i+1)=64 * i+64),<-y5];exact kq.out
 have qh:b.length/64=i:=by omega
 have kSh:=ao.mk kSs.out;rw[qh] at kSh;have cU:(b.drop (64 * i)).length<64:=by rw[iC];omega
 have wP:b.length - 64 * i=(b.drop (64 * i)).length:=by rw[iC]
 rw[wP] at ly hc;have h8:=wq i NT.start b rfl;generalize hY i NT.start b=s1 at *
 generalize b.drop (64 * i)=r at *
 clear wP kSs;have kM:=ao.mk hM;have wI:=hM.len;have ZE:=hy (H.push (br 128 (cB 0))) (hM.push _);have cp:=aix (len:=64) (aF:=128) ZE (bg _ _) (by rw[mX];decide) aZ ai;rw[qs] at cp;have e1:IntKind.u64.wrap ((b.length:Nat):Int)=((b.length:Nat):Int):=by unfold IntKind.wrap;simp[IntKind.signed,IntKind.bits];omega
 have e2:IntKind.u64.wrap (((b.length:Nat):Int) * 8)=((b.length * 8:Nat):Int):=by unfold IntKind.wrap;simp[IntKind.signed,IntKind.bits];omega
 have ix:=ZQ (b:=H.boxes.length) (off:=0) (aF:=128) (k:=.i64) cU;rw[qA] at ix;have PH:(ct r++(br 128 (cB 0)).drop r.length).length=128:=by rw[dM,mI,iC,mX];omega
 have st:cE aq (H.push (ct r++(br 128 (cB 0)).drop r.length)) 5 (.ptr (.box H.boxes.length) r.length) (.v (.int .u8 128))=aa (H.push ((ct r++(br 128 (cB 0)).drop r.length).set r.length (cB 0x80))):=by have:=Nc (H:=H.push (ct r++(br 128 (cB 0)).drop r.length)) (v:=0x80) (bg _ _) (k:=r.length) (by rw[PH];omega);rw[qs] at this;exact this
 have hE:=ajw (n:=b.length) cU;have XK:((ct r++(br 128 (cB 0)).drop r.length).set r.length (cB 0x80)).length=128:=by rw[mJ,PH]
 generalize ct r++(br 128 (cB 0)).drop r.length=C1 at *
 generalize C1.set r.length (cB 0x80)=C2 at *
 have kEl:=ao.mk (WK (n:=b.length) cU);have pe:=λ(off aF:Nat) (ho:off+8<=128)=>Sz H.boxes.length off 8 aF (b.length * 8) C2 (H.push C2) aZ ai (bg _ _) (by rw[XK];exact ho);simp only[qs] at pe;have ks:=ao.mk ma;clear ZE hy hM ma PH XK hi qh;have hL:(r.length<=55/\py r.length=64)∨(55<r.length/\py r.length=128):=by unfold py;split<;>omega
 rcases hL with⟨hr,hL⟩|⟨hr,hL⟩
 ·rw[hL] at hE kEl kSh;have p1:=pe 56 72 aZ;rw[hE] at p1;have sl:jc aq 28 (.arr H.boxes.length 0 64 128) (aa (.v (.int .i64 (((64:Nat):Int) - 8)))) av av=aa (.arr H.boxes.length 56 8 72):=aw;clear pe hE hL;refine cX @vP @aan @r8 ?_;have bR:=kEl.out;generalize iq:H.push (ct (ob r b.length)++br (128 - 64) (cB 0))=H1;generalize hz:H.boxes.length=eb;have ye:H1.boxes[eb]?=aa (ct (ob r b.length)++br (128 - 64) (cB 0)):=by rw[<-iq,<-hz];exact bg _ _
  have HR:gu sb h.tn H0 H1:=by rw[<-iq];exact kM.out.push _
  have bD:H1.boxes[sb]?=aa (cz s1):=by rw[<-iq];exact bh ks.out
  have bG:eb≠sb:=by omega
  have hR:∀H',gu sb h.tn H1 H'->eu 1 H' (.arr eb 0 64 128) (bf ((ob r b.length).drop (64 * 0))):=λH' m=>by
   rw[aes,jm];refine⟨AS _,.inr ⟨eb,0,128,_,by rw[bF,bR],by rw[bF,bR];decide,m.box _ _ bG ye,?_,?_⟩⟩
   ·rw[JQ,bF,ph,jm,Ki (mI _)]
   ·rw[bF,dM,mI,bR,mX];decide
  have kR:=ao.mk hR;have kB:=ao.mk ye;have kM1:=ao.mk HR;have kS1:=ao.mk bD;clear ye HR bD hR iq hz kM ks cp st p1 sl ix;refine cH (λm e H=>∃(i:Nat) (y:AV),64 * i<=64/\m=64 - 64 * i/\e.get 2=.ptr (.box h.boxes.length) 0/\e.get 3=.ptr (.box sb) 0/\e.get 4=.func (.func 204) [.ptr (.box sb) 0] []/\e.get 6=y/\e.defers=[]/\(∀H',gu sb h.tn H1 H'->eu 1 H' y (bf ((ob r b.length).drop (64 * i))))/\H.boxes[sb]?=aa (cz (hY i s1 (ob r b.length)))/\gu sb h.tn H1 H) ?_ 64 _ _ ?_;rotate_left 1
  ·refine⟨0,.arr eb 0 64 128,cD _,rfl,?_,?_,?_,?_,?_,kR.out,kS1.out,gu.refl _ _ _⟩<;>(first|assumption|(exact gR))
  clear kR kS1 g0 g2 g3 g4 g5 hd ly hc;rintro m e H ⟨i,y,hi,rfl,g2,g3,g4,g6,hd,hy,ma,hM⟩;have ly:=(hy H hM).len jJ;rw[bF,iC,bR] at ly;by_cases hc:0<64 - 64 * i
  ·refine sg λQ=>?_;obtain⟨y1,y2,q1,q2,q3,q4⟩:=To hy hM (by rw[iC,bR];omega);obtain⟨H2,c1,c2,c3⟩:=Ox _ _ sb y1 H (wq i s1 _ h8) (by rw[fm,iC,bR];omega) ma (λH' m=>q3 H' (hM.trans (m.uW (fG kE.out.tn (fG kM1.out.tn hM.tn)))));rw[<-Hw] at c2;have kM:=ao.mk (hM.trans (c3.uW (fG kE.out.tn (fG kM1.out.tn hM.tn))));have kq:=ao.mk q4;have k2:=ao.mk c2;clear hM c2 c3 q3 q4 hy ma;refine cX @vP @lO.{0} @mh.{0} ?_;refine⟨64 - 64 * (i+1),by omega,i+1,y2,by omega,rfl,aY,aY,aY,rfl,aY,?_,k2.out,kM.out⟩;rw[(ai:64 * (i+1)=64 * i+64),<-y5];exact kq.out
  have qh:i=64/64:=by omega
  subst qh;have HL:=wq (64/64) s1 (ob r b.length) h8;generalize hY (64/64) s1 (ob r b.length)=s2 at *
  have hX:Ext h H:=kE.out.mut (kM1.out.trans hM) ai;have mB:=(kM1.out.trans hM).box _ _ ai kd.out;have zB:s2.length=8:=HL;have lds:aI aq Gt H 230 (.ptr (.box sb) 0)=aa (.agg (cz s2)):=by have II:(cz s2).length=8:=(by rw[bF];exact zB);rw[iP Ko Gu ma (by rw[II];exact aL _),jm,gK (by rw[II];exact aL _)]
  have kX:=ao.mk hX;have kdb:=ao.mk mB;clear hX mB ma hM hy kM1 kd kB kE HL;have kSh2:ao (fk b=jY s2):=⟨kSh.out⟩;clear kSh;refine bC @vP ?_;refine cH (λm e H=>∃(i:Nat),i<=8/\m=8 - i/\e.get 2=.ptr (.box h.boxes.length) 0/\e.get 53=.agg (cz s2)/\e.get 54=.v (.int .i64 i)/\e.defers=[]/\H.boxes[h.boxes.length]?=aa (ct (jY (s2.take i))++br (32 - 4 * i) (cB 0))/\Ext h H) ?_ 8 _ _ ?_;rotate_left 1
  ·refine⟨0,by decide,rfl,?_,?_,?_,?_,kdb.out,kX.out⟩<;>(first|assumption|(exact gR))
  clear kdb kX lds g2 g3 g4 g6 hd ly hc;rintro m e H ⟨i,hi,rfl,g2,g53,g54,hd,mB,hX⟩;by_cases hc:i=8
  ·subst hc;rw[gK ai] at mB;have e0:ct (jY s2)++br (32 - 4 * 8) (cB 0)=ct (jY s2):=jC _;rw[e0,<-kSh2.out] at mB;have zC:(ct (fk b)).length=32:=(by rw[mI,kSh2.out,DN,zB]);have l177:aI aq Gt H 177 (.ptr (.box h.boxes.length) 0)=aa (.agg (ct (fk b))):=(by rw[iP EF rQ mB (by rw[zC];exact aL _),jm,gK (by rw[zC];exact aL _)]);have s177:cE aq H 177 (.ptr (.box h.boxes.length) 0) (.agg (ct (fk b)))=aa H:=(by rw[fK (Am _) rQ mB zC (by rw[zC];exact aL _),aco,oB mB]);have kX:=ao.mk hX;clear mB hX;refine bC @vP ?_;exact⟨_,rfl,kX.out⟩
  ·refine sg λQ=>?_;have aC:i<8:=(by omega);have iv:=ZP (k:=.i64) zB aC;have e4:IntKind.i64.wrap (4 * ((i:Nat):Int))=((4 * i:Nat):Int):=(by rw[gh ai ai];omega);have e5:IntKind.i64.wrap (((4 * i:Nat):Int)+4)=((4 * i+4:Nat):Int):=(by rw[gh ai ai];omega);have sl:=acf (b:=h.boxes.length) aC;have pe:=Sz h.boxes.length (4 * i) 4 (32 - 4 * i) (dt s2 i).toNat _ H aZ (by have:=(dt s2 i).isLt;omega) mB (by rw[dM,mI,DN,fm,mX];omega);rw[aaJ zB aC] at pe;have ox:=(aW.1 mB).1;have kX:=ao.mk hX;clear mB hX;refine bQ @vP @Wy ?_;refine⟨8 - (i+1),by omega,i+1,by omega,rfl,aY,aY,rfl,aY,eO ox,kX.out.fZ (aL _) _⟩
 ·rw[hL] at hE kEl kSh;have p1:=pe 120 8 aZ;rw[hE] at p1;have sl0:jc aq 28 (.arr H.boxes.length 0 64 128) av (aa (.v (.int .i64 128))) av=aa (.arr H.boxes.length 0 128 128):=aw;have sl:jc aq 28 (.arr H.boxes.length 0 128 128) (aa (.v (.int .i64 (((128:Nat):Int) - 8)))) av av=aa (.arr H.boxes.length 120 8 8):=aw;clear pe hE hL;refine cX @vP @aan @r8 ?_;have bR:=kEl.out;generalize iq:H.push (ct (ob r b.length)++br (128 - 128) (cB 0))=H1;generalize hz:H.boxes.length=eb;have ye:H1.boxes[eb]?=aa (ct (ob r b.length)++br (128 - 128) (cB 0)):=by rw[<-iq,<-hz];exact bg _ _
  have HR:gu sb h.tn H0 H1:=by rw[<-iq];exact kM.out.push _
  have bD:H1.boxes[sb]?=aa (cz s1):=by rw[<-iq];exact bh ks.out
  have bG:eb≠sb:=by omega
  have hR:∀H',gu sb h.tn H1 H'->eu 1 H' (.arr eb 0 128 128) (bf ((ob r b.length).drop (64 * 0))):=λH' m=>by
   rw[aes,jm];refine⟨AS _,.inr ⟨eb,0,128,_,by rw[bF,bR],by rw[bF,bR];decide,m.box _ _ bG ye,?_,?_⟩⟩
   ·rw[JQ,bF,ph,jm,Ki (mI _)]
   ·rw[bF,dM,mI,bR,mX];decide
  have kR:=ao.mk hR;have kB:=ao.mk ye;have kM1:=ao.mk HR;have kS1:=ao.mk bD;clear ye HR bD hR iq hz kM ks cp st p1 sl ix;refine cH (λm e H=>∃(i:Nat) (y:AV),64 * i<=128/\m=128 - 64 * i/\e.get 2=.ptr (.box h.boxes.length) 0/\e.get 3=.ptr (.box sb) 0/\e.get 4=.func (.func 204) [.ptr (.box sb) 0] []/\e.get 6=y/\e.defers=[]/\(∀H',gu sb h.tn H1 H'->eu 1 H' y (bf ((ob r b.length).drop (64 * i))))/\H.boxes[sb]?=aa (cz (hY i s1 (ob r b.length)))/\gu sb h.tn H1 H) ?_ 128 _ _ ?_;rotate_left 1
  ·refine⟨0,.arr eb 0 128 128,cD _,rfl,?_,?_,?_,?_,?_,kR.out,kS1.out,gu.refl _ _ _⟩<;>(first|assumption|(exact gR))
  clear kR kS1 g0 g2 g3 g4 g5 hd ly hc;rintro m e H ⟨i,y,hi,rfl,g2,g3,g4,g6,hd,hy,ma,hM⟩;have ly:=(hy H hM).len jJ;rw[bF,iC,bR] at ly;by_cases hc:0<128 - 64 * i
  ·refine sg λQ=>?_;obtain⟨y1,y2,q1,q2,q3,q4⟩:=To hy hM (by rw[iC,bR];omega);obtain⟨H2,c1,c2,c3⟩:=Ox _ _ sb y1 H (wq i s1 _ h8) (by rw[fm,iC,bR];omega) ma (λH' m=>q3 H' (hM.trans (m.uW (fG kE.out.tn (fG kM1.out.tn hM.tn)))));rw[<-Hw] at c2;have kM:=ao.mk (hM.trans (c3.uW (fG kE.out.tn (fG kM1.out.tn hM.tn))));have kq:=ao.mk q4;have k2:=ao.mk c2;clear hM c2 c3 q3 q4 hy ma;refine cX @vP @lO.{0} @mh.{0} ?_;refine⟨128 - 64 * (i+1),by omega,i+1,y2,by omega,rfl,aY,aY,aY,rfl,aY,?_,k2.out,kM.out⟩;rw[(ai:64 * (i+1)=64 * i+64),<-y5];exact kq.out
  have qh:i=128/64:=by omega
  subst qh;have HL:=wq (128/64) s1 (ob r b.length) h8;generalize hY (128/64) s1 (ob r b.length)=s2 at *
  have hX:Ext h H:=kE.out.mut (kM1.out.trans hM) ai;have mB:=(kM1.out.trans hM).box _ _ ai kd.out;have zB:s2.length=8:=HL;have lds:aI aq Gt H 230 (.ptr (.box sb) 0)=aa (.agg (cz s2)):=by have II:(cz s2).length=8:=(by rw[bF];exact zB);rw[iP Ko Gu ma (by rw[II];exact aL _),jm,gK (by rw[II];exact aL _)]
  have kX:=ao.mk hX;have kdb:=ao.mk mB;clear hX mB ma hM hy kM1 kd kB kE HL;have kSh2:ao (fk b=jY s2):=⟨kSh.out⟩;clear kSh;refine bC @vP ?_;refine cH (λm e H=>∃(i:Nat),i<=8/\m=8 - i/\e.get 2=.ptr (.box h.boxes.length) 0/\e.get 53=.agg (cz s2)/\e.get 54=.v (.int .i64 i)/\e.defers=[]/\H.boxes[h.boxes.length]?=aa (ct (jY (s2.take i))++br (32 - 4 * i) (cB 0))/\Ext h H) ?_ 8 _ _ ?_;rotate_left 1
  ·refine⟨0,by decide,rfl,?_,?_,?_,?_,kdb.out,kX.out⟩<;>(first|assumption|(exact gR))
  clear kdb kX lds g2 g3 g4 g6 hd ly hc;rintro m e H ⟨i,hi,rfl,g2,g53,g54,hd,mB,hX⟩;by_cases hc:i=8
  ·subst hc;rw[gK ai] at mB;have e0:ct (jY s2)++br (32 - 4 * 8) (cB 0)=ct (jY s2):=jC _;rw[e0,<-kSh2.out] at mB;have zC:(ct (fk b)).length=32:=(by rw[mI,kSh2.out,DN,zB]);have l177:aI aq Gt H 177 (.ptr (.box h.boxes.length) 0)=aa (.agg (ct (fk b))):=(by rw[iP EF rQ mB (by rw[zC];exact aL _),jm,gK (by rw[zC];exact aL _)]);have s177:cE aq H 177 (.ptr (.box h.boxes.length) 0) (.agg (ct (fk b)))=aa H:=(by rw[fK (Am _) rQ mB zC (by rw[zC];exact aL _),aco,oB mB]);have kX:=ao.mk hX;clear mB hX;refine bC @vP ?_;exact⟨_,rfl,kX.out⟩
  ·refine sg λQ=>?_;have aC:i<8:=(by omega);have iv:=ZP (k:=.i64) zB aC;have e4:IntKind.i64.wrap (4 * ((i:Nat):Int))=((4 * i:Nat):Int):=(by rw[gh ai ai];omega);have e5:IntKind.i64.wrap (((4 * i:Nat):Int)+4)=((4 * i+4:Nat):Int):=(by rw[gh ai ai];omega);have sl:=acf (b:=h.boxes.length) aC;have pe:=Sz h.boxes.length (4 * i) 4 (32 - 4 * i) (dt s2 i).toNat _ H aZ (by have:=(dt s2 i).isLt;omega) mB (by rw[dM,mI,DN,fm,mX];omega);rw[aaJ zB aC] at pe;have ox:=(aW.1 mB).1;have kX:=ao.mk hX;clear mB hX;refine bQ @vP @Wy ?_;refine⟨8 - (i+1),by omega,i+1,by omega,rfl,aY,aY,rfl,aY,eO ox,kX.out.fZ (aL _) _⟩
end Go.Proofs.YtnfciiiohoafaaaGreatDoor
end
