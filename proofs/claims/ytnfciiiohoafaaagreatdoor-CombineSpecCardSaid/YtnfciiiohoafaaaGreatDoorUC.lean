/-
  The engine, part 39: a call that makes memory that nobody sees again may be taken as one that makes none.
-/
import Derived.Test.YtnfciiiohoafaaaGreatDoorUB
import Derived.KernelRfl
import Derived.Test.YtnfciiiohoafaaaGreatDoorChecked
open True renaming intro->aU
open Bool renaming true->ah,and_assoc->acv,and_eq_true->bC,false_and->yn,false_eq_true->jO,false->az,eq_iff_iff->F1,not_eq_true'->zR,true_and->ry
open List renaming cons_append->kL,flatten_cons->pC,getElem?_eq_some_iff->aS,getElem?_take->oJ,map_cons->eC,map_nil->vE,getElem?_toArray->jy,getElem?_cons_zero->jV,getElem?_cons_succ->p8,append_nil->jr,nil_append->lJ,length_cons->iP,length_append->dw,drop_zero->iO,take_length->fC,drop_take->Ty,take_take->TF,drop_drop->yv,mem_of_mem_take->pE,length_drop->hJ,length_take->eS,take_zero->fR,ext_getElem->JE,getElem_map->p9,getElem_range->Bv,getElem?_eq_getElem->aR,replicate->a9,mem_cons->iu,mem_cons_self->fW,mem_cons_of_mem->fE,all_cons->Gg,all_eq_true->ey,nodup_cons->Gq,mem_map->jP,map_map->Bx,map_append->mw,map_congr_left->JH,zipWith->Gu,range->bM,getD_eq_getElem?_getD->ez,getElem_mem->iW,getElem?_eq_none->uI,length_zipWith->ada,getElem_zipWith->ac8,getElem?_append_left->sH,getElem?_append_right->Ab,getElem?_drop->pD,length_map->bu,getElem_drop->TA,mem_range->fQ,getElem_set_self->Nl,getElem_set_ne->Nk,getElem_set->Gl,mem_or_eq_of_mem_set->wS,mem_iff_getElem->By,length_singleton->Nn,getElem?_set_ne->JF,getElem?_map->ej,range_succ->om,foldl_append->oj,foldl_cons->yw,foldl_nil->Gj,getElem?_replicate->Ni,length_set->mr,getElem?_set->mL,take_append_drop->yz,drop_eq_getElem_cons->Bu,getElem_zipIdx->ac7,append_assoc->tL,take_succ_eq_append_getElem->adq,set_append_right->Nt,set_eq_of_length_le->adm,ext_getElem?->rB,set_set->DW,take->Nu,head?_drop->JG,set_eq_take_append_cons_drop->BA,length_replicate->mM,replicate_succ->Bz,set_cons_zero->TE,map_replicate->yy,take_of_length_le->gm,drop_of_length_le->qF,map_drop->ade,take_succ_cons->hU,drop_succ_cons->Aa,head?_cons->Bw,mem_singleton->my,drop_append_of_le_length->acW,drop_replicate->Tx,drop_append->DU,take_left'->JK
open Option renaming some->aa,map_some->ff,bind_some->oq,none->au,isSome_none->BJ,some.injEq->dP,getD_some->JM
open And renaming intro->aw
open Nat renaming sub_zero->TO,zero_mul->GF,add_zero->BC,le_refl->aJ,mul_le_mul_right->oM,add_mul->gJ,min_eq_left->DZ,shiftLeft_eq->BH,add_comm->ads,Coprime->oL,Coprime.symm->Nz,dvd_of_mod_eq_zero->Gx,le_of_dvd->DY,mod_lt->nj,eq_zero_or_pos->Gy,mul_add->TJ,add_mod->JL,mul_assoc->ND,mul_mod_mod->adA,mul_le_mul_left->adz,mod_eq_of_lt->oo,one_mul->D0,mod_mul_mod->TH,div_add_mod->TG,mul_mod->tM,mul_one->oN,mul_comm->NF,mod_two_eq_zero_or_one->BF,pow_pos->NI,mul_add_mod->adx,Coprime.coprime_mul_left->adr,pow_succ->BG,lt_or_ge->dW,mul_le_mul->qG,pow_mod->GC,pow_mul->GD,pow_two->TK,pow_succ'->adH,eq_of_beq_eq_true->jW,one_pow->adD,pow_add->adF,zero_le->cA,lt_trans->qa,reduceEqDiff->aO,le_of_lt->nJ,lt_of_lt_of_le->ni,sub_self->uK,zero_add->qb,le_trans->fw,mul_zero->adB
open Int renaming toNat_natCast->dV,fdiv_eq_ediv_of_nonneg->Gc,pow_pos->acP,natCast_mul->yr,mul_left_comm->DQ,pow_succ->yu,mul_assoc->yq,mul_comm->zW,pow_add->Tr,sub_mul->Nf,mul_sub->zX,dvd_add->yp,dvd_mul_of_dvd_right->Gb,natAbs_dvd_natAbs->acK,natAbs_natCast->Tn,natCast_add->acL,mul_add->Nb,mul_one->JA,pow_zero->Nd,one_mul->Gd,pow_mul->Ge,natCast_dvd_natCast->To,emod_nonneg->Tk,emod_lt_of_pos->Tj,emod_eq_of_lt->M8,add_emod->acF,mul_emod->Bs,mul_zero->Nc,zero_mul->JC,sub_emod->acQ,emod_emod_of_dvd->DP,dvd_refl->DO,neg_zero->acN,neg_mul->acM,zero_add->Gf,ofNat_lt->acO,natCast_emod->Tp,sub_self->Ts,emod_add_mul_ediv->acH,dvd_sub->Ti,dvd_zero->acG,tmod_eq_emod_of_nonneg->JB,mul_nonneg->Tm,mul_le_mul->Tl,tdiv_eq_ediv_of_nonneg->acR,natCast_zero->tK,natCast_one->Tq
open Decidable renaming not_not->Jz
open Go.Proofs.Tryz renaming prog->ao,underlying23->dQ,func201->adU,func46->Uf,func194->adT,func94->Uh,func69->Ug,func30->adY,underlying28->jz,func221->yB,func222->adX,underlying242->ad2,underlying230->ad1
set_option maxHeartbeats 64000000
set_option maxRecDepth 100000
set_option linter.unusedSimpArgs false
set_option linter.unusedVariables false
set_option linter.constructorNameAsVariable false
set_option linter.defProp false
section
namespace Go.AE
mutual
def nX(n:Nat):AV->Bool
 | .list _ _ es=>Io n es
 | .arr b _ _ _=>decide (b<n)
 | .agg cs=>pW n cs
 | .tuple cs=>pW n cs
 | .ptr (.box b) _=>decide (b<n)
 | .elem _ es _ _=>Io n es
 | .func _ a b=>pW n a&&pW n b
 | .iface _ x=>nX n x
 |_=>ah
def pW(n:Nat):List AV->Bool
 | []=>ah
 |x::r=>nX n x&&pW n r
def Io(n:Nat):List (List AV)->Bool
 | []=>ah
 |r::rs=>pW n r&&Io n rs
end
def Zn(n):∀(a b:List AV),pW n (a++b)=(pW n a&&pW n b)
 | [],b=>by simp[pW]
 |x::a,b=>by rw[kL,pW,pW,Zn n a b,acv]
def Ip(n):∀es:List (List AV),pW n es.flatten=Io n es
 | []=>rfl
 |r::es=>by rw[pC,Zn,Io,Ip n es]
def aW.low(K:aW)(n:Nat):aW:={K with β:=K.β.take n}
section
variable {K:aW}
def MU{b g:Nat}(h:K.β[b]?=aa g):b<K.β.length:=(aS.1 h).1
mutual
def aX.low:∀{x:AV} {c:Value},aX K x c->nX K.β.length x=ah
 |_,_,.bad _=>rfl
 |_,_,.v _ _=>rfl
 |_,_,.nil _=>rfl
 |_,_,.jv _ _=>rfl
 |_,_,.list _ _ es _ _ _ _ _ _ _ hv _ _ _=>by rw[nX,<-Ip];exact aQ.low hv
 |_,_,.arr _ _ _ _ _ _ _ hb _ _ _ _=>by rw[nX];exact bQ (MU hb)
 |_,_,.agg _ _ hv=>by rw[nX];exact aQ.low hv
 |_,_,.tuple _ _ hv=>by rw[nX];exact aQ.low hv
 |_,_,.box _ _ _ hb=>by rw[nX];exact bQ (MU hb)
 |_,_,.eV _ _=>rfl
 |_,_,.elem _ es _ _ _ _ _ _ _ hv _ _ _ _=>by rw[nX,<-Ip];exact aQ.low hv
 |_,_,.func _ _ _ _ _ h1 h2=>by rw[nX,aQ.low h1,aQ.low h2];rfl
 |_,_,.yield _ _ _=>rfl
 |_,_,.iface _ _ _ hx=>by rw[nX];exact aX.low hx
def aQ.low:∀{xs:List AV} {cs:List Value},aQ K xs cs->pW K.β.length xs=ah
 |_,_,.nil=>rfl
 |_,_,.cons _ _ _ _ hx hs=>by rw[pW,aX.low hx,aQ.low hs];rfl
end
def Zo{n b g:Nat}(hb:K.β[b]?=aa g)(hn:b<n):(K.low n).β[b]?=aa g:=by show(K.β.take n)[b]?=aa g;rw[oJ,aG hn,hb]
def wY.low{n:Nat}{k:Tok}{g off sz m aD:Nat}(h:wY K k g off sz m aD):wY (K.low n) k g off sz m aD:=h
mutual
def aX.cut{n:Nat}:∀{x:AV} {c:Value},aX K x c->nX n x=ah->aX (K.low n) x c
 |_,_,.bad c,_=>.bad c
 |_,_,.v x hx,_=>.v x hx
 |_,_,.nil sz,_=>.nil sz
 |_,_,.jv sz a,_=>.jv sz a
 |_,_,.list k sz es g off m aD cells hn hr hv hc ht ha,h=>.list k sz es g off m aD cells hn hr (aQ.cut hv (by rw[Ip];rw[nX] at h;exact h)) hc ht.low ha
 |_,_,.arr b g off len aD fH iJ hb hl hc ho hr,h=>.arr b g off len aD fH iJ (Zo hb (by rw[nX] at h;exact of_decide_eq_true h)) hl hc ho hr
 |_,_,.agg cs vs hv,h=>.agg cs vs (aQ.cut hv (by rw[nX] at h;exact h))
 |_,_,.tuple cs vs hv,h=>.tuple cs vs (aQ.cut hv (by rw[nX] at h;exact h))
 |_,_,.box b g off hb,h=>.box b g off (Zo hb (by rw[nX] at h;exact of_decide_eq_true h))
 |_,_,.eV g off,_=>.eV g off
 |_,_,.elem sz es i off g o p cells hr hv hc hi hp ha,h=>.elem sz es i off g o p cells hr (aQ.cut hv (by rw[Ip];rw[nX] at h;exact h)) hc hi hp ha
 |_,_,.func fn first aD fs cs h1 h2,h=>.func fn first aD fs cs (aQ.cut h1 (by rw[nX,bC] at h;exact h.1)) (aQ.cut h2 (by rw[nX,bC] at h;exact h.2))
 |_,_,.yield l g hl,_=>.yield l g hl
 |_,_,.iface t x c hx,h=>.iface t x c (aX.cut hx (by rw[nX] at h;exact h))
def aQ.cut{n:Nat}:∀{xs:List AV} {cs:List Value},aQ K xs cs->pW n xs=ah->aQ (K.low n) xs cs
 |_,_,.nil,_=>.nil
 |_,_,.cons x c xs cs hx hs,h=>.cons x c xs cs (aX.cut hx (by rw[pW,bC] at h;exact h.1)) (aQ.cut hs (by rw[pW,bC] at h;exact h.2))
end
end
section
variable {P:Program} {G:Nat->Option (List AV)} {w0 w w':World} {K K':aW} {h h':aq} {ok:FuncId->Nat->Code->Bool}
end
end Go.AE
end
section
namespace Go.AE
section
universe u
set_option linter.defProp false in
def goT:=aw @ff.{0,0} (aw @Option.map_none.{0,0} (aw @oq.{0,0} (aw @eC.{0,0} (aw @vE.{0,0} (aw @List.getD_cons_zero.{0} (aw @List.getD_cons_succ.{0} (aw @jy.{0} (aw @jV.{0} @p8.{0}))))))))
set_option linter.defProp false in
def goU:=aw @jr.{0} @lJ.{0}
set_option linter.defProp false in
def Zf:=aw @cH (aw @mj @Zg)
set_option linter.defProp false in
def al3:=aw @iP.{0} (aw @List.length_nil.{0} (aw @dw.{0} (aw @cH (aw @mj @Zg))))
set_option linter.defProp false in
def aji:=aw @ajk (aw @nt (aw @Kx (aw @ajl (aw @ajm @ajj))))
set_option linter.defProp false in
def agw:=aw @An @BU
set_option linter.defProp false in
def aqN:=aw @abA (aw @VM @aab)
end
set_option linter.defProp false in
def G_d:=@ajL
set_option linter.defProp false in
def G_n:=@ajP
set_option linter.defProp false in
def B_d:=@af5
set_option linter.defProp false in
def B_n:=@af8
set_option linter.defProp false in
def G_m:=@ajO
set_option linter.defProp false in
def B_m:=@af7
set_option linter.defProp false in
def G_b:=@ajK
set_option linter.defProp false in
def B_b:=@af4
def dZ{p:Prop}(h:p:=by first|assumption|(exact Nat.le_refl _)|omega|(simp only[al3]<;>omega)|(simp(disch:=(first|assumption|omega|(exact(cH _ _).symm)|(simp only[Zf];omega)|(refine Nat.le_antisymm ?_ ?_<;>simp only[Zf]<;>omega)|fail)) only[aji]<;>first|assumption|rfl)|(simp only[agw];assumption)|(exact SI _ _)|(simp only[aqN];first|assumption|exact SI _ _)):p:=h
def dX{a b p:Prop}(x:a)(y:b)(f:a->b->p:=by first|exact G_d|exact G_n|exact B_d|exact B_n|exact G_m|exact B_m|exact G_b|exact B_b):p:=f x y
end Go.AE
end
section
namespace Go.AE
section
variable {P:Program} {t0 t1 t elem:TypeId} {i:TypeInfo} {h:aq} {k k':Tok} {sz:Nat} {es new:List (List AV)}
def MI(h0:P.underlying t0=aa (.slice elem))(h1:P.underlying t1=aa (.slice elem))(hi:P.info? elem=aa i)(dL:0<i.size)(hz:(i.zero.map λz=>z.cells.size)=aa i.size)(mg:new≠[])
 (hb:(es.length+new.length) * i.bytes<=140737488355328) (hl:es.length+new.length<=9223372036854775807) (hs:sz=i.size∨es=[]) (hk:k=.nil∨k=.tight) {x:AV} (hx:mX h i.size x=aa new):
 sC P h #[t0,t1] (.list k sz es) x=aa (.arr h.boxes.length 0 (es.length+new.length) (es.length+new.length),h.push (es++new).flatten):=by
 unfold sC;simp only[jy,jV,p8,oq,h0,h1,hi,hx];rw[aG ⟨dL,hz⟩,aG hs,aI mg,aG ⟨hb,hl⟩];rcases hk with rfl|rfl<;>rfl
def SZ{b len:Nat}{cs:List AV}(h0:P.underlying t0=aa (.slice elem))(h1:P.underlying t1=aa (.slice elem))(hi:P.info? elem=aa i)(dL:0<i.size)(hz:(i.zero.map λz=>z.cells.size)=aa i.size)(mg:new≠[])
 (hb:(len+new.length) * i.bytes<=140737488355328) (hl:len+new.length<=9223372036854775807) (Hr:h.boxes[b]?=aa cs) (h2:0<len) (h3:len * i.size=cs.length) {x:AV} (hx:mX h i.size x=aa new):
 sC P h #[t0,t1] (.arr b 0 len len) x=aa (.arr h.boxes.length 0 (len+new.length) (len+new.length),(h.put b []).push (cs++new.flatten)):=by
 have hn:0<new.length:=by cases new with|nil=>exact absurd rfl mg|cons _ _=>simp
 unfold sC;simp only[jy,jV,p8,oq,h0,h1,hi,hx,Hr];rw[aG ⟨dL,hz⟩,aI ag,aG ⟨aU,h2,aU,h3,hb,hl⟩];rfl
def Ra:mX h sz (.list k sz es)=aa es:=by unfold mX rowsOf;simp
def abo{b off len aD n:Nat}{m:Int}{kk:IntKind}(h0:P.underlying t=aa (.slice elem))(hs:dt P elem=aa n)(hn:n≠0)(h1:0<=m)(h2:m<=aD)(h3:0<aD):iN P t (.arr b off len aD) au (aa (.v (.int kk m))) au=aa (.arr b off m.toNat aD):=by
 have e1:gK aD au aD=aa aD:=rfl;have e2:gK aD (aa (.v (.int kk m))) len=aa m.toNat:=by show(if 0<=m/\m<=(aD:Int) then aa m.toNat else au)=_;rw[aG ⟨h1,h2⟩]
 have e3:gK m.toNat au 0=aa 0:=rfl;unfold iN;simp only[h0,hs,e1,e2,e3,BJ,yn,jO,false_and,if_false,hn,TO,GF,BC,ite_self]
end
end Go.AE
end
section
namespace Go.AE
def dT(sz:Nat)(h:aq)(x:AV)(ae:List (List AV)):Prop:=
 (∀r∈ae,r.length=sz)/\
 ((∃k s,x=.list k s ae/\(ae≠[]->s=sz))∨
  (∃b off aD cs,x=.arr b off ae.length aD/\ae.length<=aD/\h.boxes[b]?=aa cs/\(cs.drop off).take (ae.length * sz)=ae.flatten/\off+ae.length * sz<=cs.length))
section
variable {P:Program} {G:Nat->Option (List AV)} {h h':aq} {t e:TypeId} {sz:Nat} {x:AV} {ae:List (List AV)}
def dT.list{k:Tok}{s:Nat}(hr:∀r∈ae,r.length=sz)(hs:ae≠[]->s=sz):dT sz h (.list k s ae) ae:=⟨hr,.inl ⟨k,s,rfl,hs⟩⟩
def dT.box{b n:Nat}(hr:∀r∈ae,r.length=sz)(hn:n=ae.length)(hb:h.boxes[b]?=aa ae.flatten):dT sz h (.arr b 0 n n) ae:=by
 subst hn;refine⟨hr,.inr ⟨b,0,ae.length,ae.flatten,rfl,aJ _,hb,?_,?_⟩⟩
 ·rw[iO,<-nN hr,fC]
 ·rw[nN hr];omega
def dT.mono(s:dT sz h x ae)(m:∀(b:Nat) (cs:List AV),h.boxes[b]?=aa cs->h'.boxes[b]?=aa cs):dT sz h' x ae:=by
 obtain⟨hr,s⟩:=s;refine⟨hr,?_⟩;rcases s with s|⟨b,off,aD,cs,h1,h2,h3,h4⟩
 ·exact .inl s
 ·exact .inr ⟨b,off,aD,cs,h1,h2,m _ _ h3,h4⟩
def dT.ext(s:dT sz h x ae)(m:Ext h h'):dT sz h' x ae:=s.mono m.box
def dT.len(s:dT sz h x ae)(hu:P.underlying t=aa (.slice e)):dM P t x=aa (.v (.int .i64 ae.length)):=by
 rcases s.2 with⟨k,s,rfl,-⟩|⟨b,off,aD,cs,rfl,-⟩
 ·exact QW hu
 ·exact QV hu
def dT.index(s:dT sz h x ae)(hp:0<sz)(hu:P.underlying t=aa (.slice e))(hs:dt P e=aa sz){i:Nat}{row:List AV}(hi:ae[i]?=aa row):
 ∃p,(∀kk,dH P t x (.v (.int kk (i:Int)))=aa p)/\(gI P e=aa az->aH P G h e p=row.head?)/\(gI P e=aa ah->aH P G h e p=aa (.agg row)):=by
 have aA:=(aS.1 hi).1;have cP:=s.1 row (List.mem_of_getElem? hi);rcases s.2 with⟨k,s',rfl,hk⟩|⟨b,off,aD,cs,rfl,h2,h3,h4,h5⟩
 ·have:s'=sz:=hk (by rintro rfl;simp at aA);subst this;refine⟨.elem s' ae i 0,λkk=>?_,λha=>?_,λha=>?_⟩
  ·rw[bh hu hs ag ag,dV]
  ·rw[r8 ha hi,iO]
  ·rw[Lj ha hs hi ag,iO,<-cP,fC]
 ·have dU:(cs.drop (off+i * sz)).take sz=row:=by have:=OI s.1 hi;rw[<-h4,Ty,TF,yv] at this;rw[<-this];congr 1;have:(i+1) * sz<=ae.length * sz:=oM _ aA;rw[gJ] at this;omega
  have nR:off+i * sz+sz<=cs.length:=by have:(i+1) * sz<=ae.length * sz:=oM _ aA;rw[gJ] at this;omega
  refine⟨.ptr (.box b) (off+i * sz),λkk=>?_,λha=>?_,λha=>?_⟩
  ·rw[E6 hu hs ag ag,dV]
  ·rw[mJ ha h3,<-dU];obtain⟨n,rfl⟩:∃n,sz=n+1:=⟨sz - 1,by omega⟩;cases cs.drop (off+i * (n+1)) with|nil=>rfl|cons a l=>rfl
  ·rw[iL ha hs h3 nR,dU]
def dT.slice(s:dT sz h x ae)(hp:0<sz)(hu:P.underlying t=aa (.slice e))(hs:dt P e=aa sz){lo hi:Option AV}{l m:Nat}
 (ui:(hi=au/\m=ae.length)∨∃kk,hi=aa (.v (.int kk (m:Int)))/\m<=ae.length) (qR:(lo=au/\l=0)∨∃kk,lo=aa (.v (.int kk (l:Int)))) (CB:l<=m):
 ∃y,iN P t x lo hi au=aa y/\dT sz h y ((ae.take m).drop l):=by
 have hm:m<=ae.length:=by rcases ui with⟨-,q⟩|⟨_,-,q⟩<;>omega
 have bound:∀top,ae.length<=top->gK top hi ae.length=aa m:=λtop Yv=>by
  rcases ui with⟨rfl,rfl⟩|⟨kk,rfl,q⟩
  ·rfl
  ·show(if 0<=(m:Int)/\(m:Int)<=(top:Int) then aa (m:Int).toNat else au)=_;rw[aG ⟨ag,by omega⟩,dV]
 have bound0:gK m lo 0=aa l:=by
  rcases qR with⟨rfl,rfl⟩|⟨kk,rfl⟩
  ·rfl
  ·show(if 0<=(l:Int)/\(l:Int)<=(m:Int) then aa (l:Int).toNat else au)=_;rw[aG ⟨ag,by omega⟩,dV]
 have jD:∀r∈(ae.take m).drop l,r.length=sz:=λr hr=>s.1 r (pE (List.mem_of_mem_drop hr));rcases s.2 with⟨k,s',rfl,hk⟩|⟨b,off,aD,cs,rfl,h2,h3,h4,h5⟩
 ·have lu:gK ae.length au ae.length=aa ae.length:=rfl;have bq:sz=s'∨ae=[]:=by
   by_cases q:ae=[]
   ·exact .inr q
   ·exact .inl (hk q).symm
  refine⟨.list (xn k (decide (m=ae.length)) az (m - l)) s' ((ae.take m).drop l),?_,jD,.inl ⟨_,_,rfl,λq=>hk (by rintro rfl;simp at q)⟩⟩;unfold iN;simp only[hu,hs,lu,bound ae.length (aJ _),bound0,BJ,yn,jO,if_false,aG bq,Option.isNone_none,Bool.and_true]
 ·have lu:gK aD au aD=aa aD:=rfl;have hlen:((ae.take m).drop l).length=m - l:=by rw[hJ,eS];omega
  refine⟨.arr b (if aD=l then off else off+l * sz) (m - l) (aD - l),?_,jD,.inr ⟨b,_,aD - l,cs,by rw[hlen],by omega,h3,?_,?_⟩⟩
  ·unfold iN;simp only[hu,hs,lu,bound aD h2,bound0,BJ,yn,jO,if_false,false_and];rw[aI ag]
  ·rw[hlen];by_cases q:aD=l
   ·have:m - l=0:=(by omega);rw[aG q,this,GF,fR];have:(ae.take m).drop l=[]:=(by apply List.eq_nil_of_length_eq_zero;rw[hlen];omega);rw[this];rfl
   ·rw[aI q,We (λr hr=>s.1 r (pE hr)),OJ s.1,<-h4,TF,<-yv];have e1:min (m * sz) (ae.length * sz)=m * sz:=DZ (oM _ hm);rw[e1,Ty,<-Nat.sub_mul]
  ·rw[hlen];have e1:m * sz<=ae.length * sz:=oM _ hm;have e2:(m - l) * sz+l * sz=m * sz:=(by rw[<-gJ,Nat.sub_add_cancel CB]);split<;>omega
def dT.got(s:dT sz h x ae):rowsOf h sz x=aa ae:=by
 rcases s.2 with⟨k,s',rfl,hk⟩|⟨b,off,aD,cs,rfl,h2,h3,h4,h5⟩
 ·unfold rowsOf;by_cases q:ae=[]
  ·simp[q]
  ·simp[hk q]
 ·unfold rowsOf;simp only[h3,aG h5,dP];apply JE
  ·simp
  ·intro i h1 h6;rw[p9,Bv];have:=OI s.1 (aR h6);rw[<-h4,Ty,TF,yv] at this;rw[<-this];congr 1;have:(i+1) * sz<=ae.length * sz:=oM _ h6;rw[gJ] at this;omega
def dT.news(s:dT sz h x ae):mX h sz x=aa ae:=by have:=s.got;rcases s.2 with⟨k,s',rfl,-⟩|⟨b,off,aD,cs,rfl,-⟩<;>exact this
end
end Go.AE
end
section
namespace Go.AE
section
variable {P:Program} {G:Nat->Option (List AV)} {t:TypeId} {x y:Operand} {k k':IntKind} {a b:Int}
def tR:cY P .and t x y (.v (.int k a)) (.v (.int k b))=aa (.v (.int k (k.wrap (BitVec.ofInt k.bits a&&&BitVec.ofInt k.bits b).toNat))):=sM (v:=.int k (k.wrap (BitVec.ofInt k.bits a&&&BitVec.ofInt k.bits b).toNat)) (by simp[binOp,Op.intBits];rfl)
def N8:cY P .or t x y (.v (.int k a)) (.v (.int k b))=aa (.v (.int k (k.wrap (BitVec.ofInt k.bits a|||BitVec.ofInt k.bits b).toNat))):=sM (v:=.int k (k.wrap (BitVec.ofInt k.bits a|||BitVec.ofInt k.bits b).toNat)) (by simp[binOp,Op.intBits];rfl)
def UO:cY P .xor t x y (.v (.int k a)) (.v (.int k b))=aa (.v (.int k (k.wrap (BitVec.ofInt k.bits a^^^BitVec.ofInt k.bits b).toNat))):=sM (v:=.int k (k.wrap (BitVec.ofInt k.bits a^^^BitVec.ofInt k.bits b).toNat)) (by simp[binOp,Op.intBits];rfl)
def N9(h:0<=b):cY P .shl t x y (.v (.int k a)) (.v (.int k' b))=aa (.v (.int k (k.wrap (a * 2^min b.toNat k.bits)))):=by
 have hn:¬b<0:=by omega
 show(fg P (do eqGuard .shl t x y (.int k a) (.int k' b);binOp .shl t (.int k a) (.int k' b))).bind ob=_;rw[r9];have hg:fg P (eqGuard .shl t x y (.int k a) (.int k' b))=aa ():=rfl;rw[hg];simp[binOp,Op.shift,hn];rfl
def BP(h:0<=b):cY P .shr t x y (.v (.int k a)) (.v (.int k' b))=aa (.v (.int k (a.fdiv (2^min b.toNat k.bits)))):=by
 have hn:¬b<0:=by omega
 show(fg P (do eqGuard .shr t x y (.int k a) (.int k' b);binOp .shr t (.int k a) (.int k' b))).bind ob=_;rw[r9];have hg:fg P (eqGuard .shr t x y (.int k a) (.int k' b))=aa ():=rfl;rw[hg];simp[binOp,Op.shift,hn];rfl
end
def aT(v:BitVec 32):AV:=.v (.int .u32 (v.toNat:Int))
section
variable {P:Program} {t:TypeId} {x y:Operand} {k':IntKind} {u v:BitVec 32}
def wrap32(n):IntKind.u32.wrap n=n%4294967296:=by unfold IntKind.wrap;simp[IntKind.signed,IntKind.bits]
def ofInt32(v):BitVec.ofInt 32 (v.toNat:Int)=v:=by apply BitVec.eq_of_toNat_eq;rw[BitVec.toNat_ofInt];have:=v.isLt;simp;omega
def MP(v:BitVec 32):IntKind.u32.wrap (v.toNat:Int)=(v.toNat:Int):=by rw[wrap32];have:=v.isLt;omega
def D7:cY P .and t x y (aT u) (aT v)=aa (aT (u&&&v)):=by unfold aT;rw[tR,show IntKind.u32.bits=32 from rfl,ofInt32,ofInt32,MP]
def pY:cY P .or t x y (aT u) (aT v)=aa (aT (u|||v)):=by unfold aT;rw[N8,show IntKind.u32.bits=32 from rfl,ofInt32,ofInt32,MP]
def pj:cY P .xor t x y (aT u) (aT v)=aa (aT (u^^^v)):=by unfold aT;rw[UO,show IntKind.u32.bits=32 from rfl,ofInt32,ofInt32,MP]
def oP:cY P .add t x y (aT u) (aT v)=aa (aT (u+v)):=by unfold aT;rw[UN,wrap32,BitVec.toNat_add];congr 3
def tH{n:Nat}(hn:n<32):cY P .shr t x y (aT u) (.v (.int k' (n:Int)))=aa (aT (u>>>n)):=by unfold aT;rw[BP ag,dV,show IntKind.u32.bits=32 from rfl,DZ ag,BitVec.toNat_ushiftRight,Nat.shiftRight_eq_div_pow];congr 3;rw[Gc _ (by have:(0:Int)<2^n:=acP aV;omega)];simp
def ss{n:Nat}(hn:n<32):cY P .shl t x y (aT u) (.v (.int k' (n:Int)))=aa (aT (u<<<n)):=by unfold aT;rw[N9 ag,dV,show IntKind.u32.bits=32 from rfl,DZ ag,wrap32,BitVec.toNat_shiftLeft,BH];congr 3
end
end Go.AE
end
section
namespace Go.AE
section
variable {P:Program} {h:aq} {t0 t1 elem:TypeId} {kn k:IntKind} {i:TypeInfo} {zero:List AV} {sz n:Nat}
def UC(h0:P.underlying t0=aa (.slice elem))(h1:P.underlying t1=aa (.int kn))(hi:P.info? elem=aa i)(hz:(gZ P elem).bind AV.bP=aa zero)(hn:0<n)(hb:n * i.bytes<=140737488355328)(hm:n<=9223372036854775807)(hs:0<i.size)(hl:zero.length=i.size):
 gN P h #[t0,t1] (.list .nil sz []) (.v (.int k (n:Nat)))=aa (.arr h.boxes.length 0 n n,h.push (a9 n zero).flatten):=by
 unfold gN MT;have fT:((n:Nat):Int) * i.bytes<=140737488355328:=by
  have:((n * i.bytes:Nat):Int)<=140737488355328:=Int.ofNat_le.2 hb
  rwa [yr] at this
 simp only[jy,jV,p8,oq,h0,h1,hi,hz];rw[aG ⟨rfl,by omega,fT,by omega,hs,hl⟩,dV];rfl
def UA{b off len aD:Nat}{cs:List AV}{new:List (List AV)}{x:AV}(h0:P.underlying t0=aa (.slice elem))(h1:P.underlying t1=aa (.slice elem))(hi:P.info? elem=aa i)(hs:0<i.size)(hz:(i.zero.map λz=>z.cells.size)=aa i.size)
 (hx:mX h i.size x=aa new) (hb:h.boxes[b]?=aa cs) (h2:len+new.length<=aD) (h3:off+aD * i.size<=cs.length):
 gN P h #[t0,t1] (.arr b off len aD) x=aa (.arr b off (len+new.length) aD,h.put b (eX cs (off+len * i.size) new.flatten)):=by
 unfold gN;simp only[jy,jV,p8,oq,h0,h1,hi,hx,hb];rw[aG ⟨hs,hz⟩,aG ⟨h2,h3⟩];rfl
end
end Go.AE
end
section
namespace Go.AE
def sD(t:Nat):Tok->Bool
 | .free i=>decide (i<t)
 |_=>ah
mutual
def aK(n l t:Nat):AV->Bool
 | .list k _ es=>sD t k&&gQ n l t es
 | .arr b _ _ _=>decide (b<n)
 | .agg cs=>aP n l t cs
 | .tuple cs=>aP n l t cs
 | .ptr (.box b) _=>decide (b<n)
 | .elem _ es _ _=>gQ n l t es
 | .func _ a b=>aP n l t a&&aP n l t b
 | .yield i=>decide (i<l)
 | .iface _ x=>aK n l t x
 |_=>ah
def aP(n l t:Nat):List AV->Bool
 | []=>ah
 |x::r=>aK n l t x&&aP n l t r
def gQ(n l t:Nat):List (List AV)->Bool
 | []=>ah
 |r::rs=>aP n l t r&&gQ n l t rs
end
def V6(n l t):∀(a b:List AV),aP n l t (a++b)=(aP n l t a&&aP n l t b)
 | [],b=>by simp[aP]
 |x::a,b=>by rw[kL,aP,aP,V6 n l t a b,acv]
def tW(n l t):∀es:List (List AV),aP n l t es.flatten=gQ n l t es
 | []=>rfl
 |r::es=>by rw[pC,V6,gQ,tW n l t es]
def bO:Tok->Tok
 | .free _=>.held
 |k=>k
mutual
def aC:AV->AV
 | .list k sz es=>.list (bO k) sz (fa es)
 | .tuple cs=>.tuple (bN cs)
 | .agg cs=>.agg (bN cs)
 | .iface t x=>.iface t (aC x)
 |x=>x
def bN:List AV->List AV
 | []=>[]
 |x::r=>aC x::bN r
def fa:List (List AV)->List (List AV)
 | []=>[]
 |r::rs=>bN r::fa rs
end
def X9:∀a b:List AV,bN (a++b)=bN a++bN b
 | [],b=>rfl
 |x::a,b=>by rw[kL,bN,X9 a b,bN,kL]
def EL:∀es:List (List AV),(fa es).flatten=bN es.flatten
 | []=>rfl
 |r::es=>by rw[fa,pC,pC,X9,EL es]
def Ya:∀a:List AV,(bN a).length=a.length
 | []=>rfl
 |x::a=>by rw[bN,iP,Ya a,iP]
def HR:∀a:List (List AV),(fa a).length=a.length
 | []=>rfl
 |x::a=>by rw[fa,iP,HR a,iP]
def KV{sz}:∀{es:List (List AV)},(∀r∈es,r.length=sz)->∀r∈fa es,r.length=sz
 | [],_,r,h=>by cases h
 |a::es,h,r,hr=>by
  rw[fa] at hr;rcases iu.1 hr with rfl|hr
  ·rw[Ya];exact h a fW
  ·exact KV (λr hr=>h r (fE _ hr)) r hr
def akV(x):(aC x).ek=x.ek:=by cases x<;>rfl
def P4:∀a:List AV,(bN a).all AV.ek=a.all AV.ek
 | []=>rfl
 |x::a=>by rw[bN,Gg,akV,P4 a,Gg]
section
variable {K:aW}
def av7{b g:Nat}(h:K.γ[b]?=aa g):b<K.γ.length:=(aS.1 h).1
mutual
def aX.fit:∀{x:AV} {c:Value},aX K x c->aK K.β.length K.γ.length K.tn x=ah
 |_,_,.bad _=>rfl
 |_,_,.v _ _=>rfl
 |_,_,.nil _=>rfl
 |_,_,.jv _ _=>rfl
 |_,_,.list k _ es _ _ _ _ _ _ _ hv _ ht _=>by
  rw[aK,bC,<-tW];refine⟨?_,aQ.fit hv⟩;cases k with|free i=>exact bQ ht.2.1|_=>rfl
 |_,_,.arr _ _ _ _ _ _ _ hb _ _ _ _=>by rw[aK];exact bQ (MU hb)
 |_,_,.agg _ _ hv=>by rw[aK];exact aQ.fit hv
 |_,_,.tuple _ _ hv=>by rw[aK];exact aQ.fit hv
 |_,_,.box _ _ _ hb=>by rw[aK];exact bQ (MU hb)
 |_,_,.eV _ _=>rfl
 |_,_,.elem _ es _ _ _ _ _ _ _ hv _ _ _ _=>by rw[aK,<-tW];exact aQ.fit hv
 |_,_,.func _ _ _ _ _ h1 h2=>by rw[aK,aQ.fit h1,aQ.fit h2];rfl
 |_,_,.yield _ _ hl=>by rw[aK];exact bQ (av7 hl)
 |_,_,.iface _ _ _ hx=>by rw[aK];exact aX.fit hx
def aQ.fit:∀{xs:List AV} {cs:List Value},aQ K xs cs->aP K.β.length K.γ.length K.tn xs=ah
 |_,_,.nil=>rfl
 |_,_,.cons _ _ _ _ hx hs=>by rw[aP,aX.fit hx,aQ.fit hs];rfl
end
mutual
def aX.xP{K2:aW}{n l t:Nat}(hβ:∀b g:Nat,b<n->K.β[b]?=aa g->K2.β[b]?=aa g)(hγ:∀b g:Nat,b<l->K.γ[b]?=aa g->K2.γ[b]?=aa g)(iS:∀g j c,K.ic g j=aa c->K2.ic g j=aa c)(v9:K2.tk=K.tk)(uq:K2.tn=t)(nT:∀b,b<n->K2.lb b=K.lb b):
 ∀{x:AV} {c:Value},aX K x c->aK n l t x=ah->aX K2 x c
 |_,_,.bad c,_=>.bad c
 |_,_,.v x hx,_=>.v x hx
 |_,_,.nil sz,_=>.nil sz
 |_,_,.jv sz a,_=>.jv sz a
 |_,_,.list k sz es g off m aD cells hn hr hv hc ht ha,h=>by
  rw[aK,bC] at h;refine .list k sz es g off m aD cells hn hr (aQ.xP hβ hγ iS v9 uq nT hv (by rw[tW];exact h.2)) (λj c hj=>iS _ _ _ (hc j c hj)) ⟨ht.1,?_⟩ ha;have h1:=h.1;have h2:=ht.2;cases k with|free i=>simp only at h2 ⊢;rw[v9,uq];exact⟨of_decide_eq_true h1,h2.2⟩|_=>exact h2
 |_,_,.arr b g off len aD fH iJ hb hl hc ho hr,h=>by rw[aK] at h;have aA:=of_decide_eq_true h;exact .arr b g off len aD fH iJ (hβ _ _ aA hb) hl hc ho (by rw[nT b aA];exact hr)
 |_,_,.agg cs vs hv,h=>.agg cs vs (aQ.xP hβ hγ iS v9 uq nT hv (by rw[aK] at h;exact h))
 |_,_,.tuple cs vs hv,h=>.tuple cs vs (aQ.xP hβ hγ iS v9 uq nT hv (by rw[aK] at h;exact h))
 |_,_,.box b g off hb,h=>.box b g off (hβ _ _ (by rw[aK] at h;exact of_decide_eq_true h) hb)
 |_,_,.eV g off,_=>.eV g off
 |_,_,.elem sz es i off g o p cells hr hv hc hi hp ha,h=>.elem sz es i off g o p cells hr (aQ.xP hβ hγ iS v9 uq nT hv (by rw[tW];rw[aK] at h;exact h)) (λj c hj=>iS _ _ _ (hc j c hj)) hi hp ha
 |_,_,.func fn first aD fs cs h1 h2,h=>.func fn first aD fs cs (aQ.xP hβ hγ iS v9 uq nT h1 (by rw[aK,bC] at h;exact h.1)) (aQ.xP hβ hγ iS v9 uq nT h2 (by rw[aK,bC] at h;exact h.2))
 |_,_,.yield i g hl,h=>.yield i g (hγ _ _ (by rw[aK] at h;exact of_decide_eq_true h) hl)
 |_,_,.iface t x c hx,h=>.iface t x c (aX.xP hβ hγ iS v9 uq nT hx (by rw[aK] at h;exact h))
def aQ.xP{K2:aW}{n l t:Nat}(hβ:∀b g:Nat,b<n->K.β[b]?=aa g->K2.β[b]?=aa g)(hγ:∀b g:Nat,b<l->K.γ[b]?=aa g->K2.γ[b]?=aa g)(iS:∀g j c,K.ic g j=aa c->K2.ic g j=aa c)(v9:K2.tk=K.tk)(uq:K2.tn=t)(nT:∀b,b<n->K2.lb b=K.lb b):
 ∀{xs:List AV} {cs:List Value},aQ K xs cs->aP n l t xs=ah->aQ K2 xs cs
 |_,_,.nil,_=>.nil
 |_,_,.cons x c xs cs hx hs,h=>.cons x c xs cs (aX.xP hβ hγ iS v9 uq nT hx (by rw[aP,bC] at h;exact h.1)) (aQ.xP hβ hγ iS v9 uq nT hs (by rw[aP,bC] at h;exact h.2))
end
mutual
def aX.hold:∀{x:AV} {c:Value},aX K x c->aX K (aC x) c
 |_,_,.bad c=>.bad c
 |_,_,.v x hx=>.v x hx
 |_,_,.nil sz=>.nil sz
 |_,_,.jv sz a=>.jv sz a
 |_,_,.list k sz es g off m aD cells hn hr hv hc ht ha=>by
  have qW:aQ K (fa es).flatten cells:=by rw[EL];exact aQ.hold hv
  have nu:(fa es).flatten.all AV.ek=ah:=by rw[EL,P4];exact ha
  have EJ:m=(fa es).length:=by rw[HR];exact hn
  cases k with|free i=>exact .list .held sz _ g off m aD cells EJ (KV hr) qW hc ⟨ht.1,aU⟩ nu|_=>exact .list _ sz _ g off m aD cells EJ (KV hr) qW hc ht nu
 |_,_,.arr b g off len aD fH iJ hb hl hc ho hr=>.arr b g off len aD fH iJ hb hl hc ho hr
 |_,_,.agg cs vs hv=>.agg _ vs (aQ.hold hv)
 |_,_,.tuple cs vs hv=>.tuple _ vs (aQ.hold hv)
 |_,_,.box b g off hb=>.box b g off hb
 |_,_,.eV g off=>.eV g off
 |_,_,.elem sz es i off g o p cells hr hv hc hi hp ha=>.elem sz es i off g o p cells hr hv hc hi hp ha
 |_,_,.func fn first aD fs cs h1 h2=>.func fn first aD fs cs h1 h2
 |_,_,.yield l g hl=>.yield l g hl
 |_,_,.iface t x c hx=>.iface t _ c (aX.hold hx)
def aQ.hold:∀{xs:List AV} {cs:List Value},aQ K xs cs->aQ K (bN xs) cs
 |_,_,.nil=>.nil
 |_,_,.cons x c xs cs hx hs=>.cons _ c _ cs (aX.hold hx) (aQ.hold hs)
end
end
section
variable {P:Program} {G:Nat->Option (List AV)} {w0 w w':World} {K K':aW} {h h':aq} {ok:FuncId->Nat->Code->Bool}
end
end Go.AE
end
section
namespace Go.AE
section
variable {P:Program} {G:Nat->Option (List AV)} {w0:World} {prims:FuncId->Option (List AV->aq->Option (AV × aq))}
def uO{L:List FuncId}(h:(L.all λg=>match P.funcs[g]? with|some fn=>fn.body.isSome|none=>az)=ah):∀g∈L,∃fn,P.funcs[g]?=aa fn/\fn.body.isSome=ah:=by
 intro g hg;have:=ey.1 h g hg;split at this
 ·rename_i fn ig;exact⟨fn,ig,this⟩
 ·cases this
variable {L:List FuncId} {R:Rec} {g:FuncId} {args:List AV} {h h2:aq} {x y:AV}
end
end Go.AE
end
section
namespace Go.NT
def eP:List Nat->Nat
 | []=>0
 |x::l=>x+eP l
def na:List Int->Int
 | []=>1
 |x::l=>x * na l
def abU{l m}(h:l.Perm m):eP l=eP m:=by
 induction h with
 |nil=>rfl|cons x _ ih=>simp only[eP,ih]|swap x y l=>simp only[eP];omega|trans _ _ h1 h2=>exact h1.trans h2
def aoC{l m}(h:l.Perm m):na l=na m:=by
 induction h with
 |nil=>rfl|cons x _ ih=>simp only[na,ih]|swap x y l=>simp only[na];rw[DQ]|trans _ _ h1 h2=>exact h1.trans h2
def abT(l m):eP (l++m)=eP l+eP m:=by
 induction l with
 |nil=>simp[eP]|cons x l ih=>simp only[kL,eP,ih];omega
def fI(h:Nat):List Nat:=List.range' 1 h
def wg{k h}:k∈fI h↔1<=k/\k<=h:=by
 unfold fI;rw[List.mem_range'];constructor
 ·rintro⟨i,hi,rfl⟩;omega
 ·rintro⟨h1,h2⟩;exact⟨k - 1,by omega,by omega⟩
def aaC(h):fI (h+1)=fI h++[h+1]:=by unfold fI;rw[List.range'_1_concat,ads 1 h]
def RT(h):(fI h).length=h:=by simp[fI]
def aqO(h):(fI h).Nodup:=List.nodup_range' 1
def anZ:∀{l m:List Nat},l.Nodup->(∀x∈l,x∈m)->m.length<=l.length->l.Perm m:=by
 intro l
 induction l with
 |nil=>
  intro m _ _ hlen;have:m=[]:=by cases m with|nil=>rfl|cons _ _=>simp at hlen
  subst this;exact .nil
 |cons x l ih=>
  intro m hl hs hlen;have hx:=hs x fW;have hp:=List.perm_cons_erase hx;rw[Gq] at hl;refine List.Perm.trans (.cons x (ih hl.2 (λy hy=>?_) ?_)) hp.symm
  ·have bG:y≠x:=(by rintro rfl;exact hl.1 hy);exact(List.mem_erase_of_ne bG).2 (hs y (fE _ hy))
  ·rw[List.length_erase_of_mem hx];simp at hlen;omega
def am0{f:Nat->Nat}:∀{l:List Nat},l.Nodup->(∀x∈l,∀y∈l,f x=f y->x=y)->(l.map f).Nodup:=by
 intro l
 induction l with
 |nil=>intro _ _;exact List.nodup_nil|cons x l ih=>intro h hf;rw[Gq] at h;rw[eC,Gq];refine⟨λhm=>?_,ih h.2 λa ha b hb=>hf a (fE _ ha) b (fE _ hb)⟩;obtain⟨y,hy,he⟩:=jP.1 hm;have:=hf y (fE _ hy) x fW he;subst this;exact h.1 hy
def fl(a n k:Nat):Nat:=if n<2 * (a * k%n) then 1 else 0
def ab(a n k:Nat):Nat:=if n<2 * (a * k%n) then n - a * k%n else a * k%n
def mu(a n:Nat):Nat:=eP ((fI (n/2)).map (fl a n))
section
variable {a b n h:Nat}
def aaw(hc:oL a n){k:Nat}(h0:0<k)(h1:k<n):a * k%n≠0:=λq=>by have:n∣k:=(Nz hc).dvd_of_dvd_mul_left (Gx q);have:=DY h0 this;omega
def Ui(hn:n=2 * h+1)(hc:oL a n){k:Nat}(hk:1<=k/\k<=h):1<=ab a n k/\ab a n k<=h:=by have h1:=aaw hc (k:=k) ag ag;have h2:=nj (a * k) (ag:0<n);unfold ab;split<;>omega
def ad6(hn:n=2 * h+1)(hc:oL a n){k l:Nat}(hk:1<=k/\k<=h)(hl:1<=l/\l<=h)(he:ab a n k=ab a n l):k=l:=by
 have AQ:=nj (a * k) (ag:0<n);have oX:=nj (a * l) (ag:0<n);have key:∀{x y:Nat},x<=y->y<n->a * x%n=a * y%n->x=y:=by
  intro x y YH hy q;have hd:n∣a * y - a * x:=Gx (Nat.sub_mod_eq_zero_of_mod_eq q.symm);rw[<-Nat.mul_sub] at hd;have:=(Nz hc).dvd_of_dvd_mul_left hd;rcases Gy (y - x) with q|q
  ·omega
  ·have:=DY q this;omega
 have key2:a * k%n+a * l%n≠n:=λq=>by
  have hd:n∣a * (k+l):=by rw[TJ];apply Gx;rw[JL,q,Nat.mod_self]
  have:=(Nz hc).dvd_of_dvd_mul_left hd;have:=DY ag this;omega
 have same:a * k%n=a * l%n->k=l:=λq=>by
  rcases Nat.le_total k l with p|p
  ·exact key p ag q
  ·exact(key p ag q.symm).symm
 unfold ab at he;split at he<;>split at he
 ·exact same ag
 ·exact absurd ag key2
 ·exact absurd ag key2
 ·exact same he
def Rt(hn:n=2 * h+1)(hc:oL a n):((fI h).map (ab a n)).Perm (fI h):=by refine anZ (am0 (aqO h) λx hx y hy he=>ad6 hn hc (wg.1 hx) (wg.1 hy) he) (λx hx=>?_) bE;obtain⟨y,hy,rfl⟩:=jP.1 hx;exact wg.2 (Ui hn hc (wg.1 hy))
def abX{f g q}:∀{l:List Nat},(∀k∈l,f k%2=(g k+q k)%2)->eP (l.map f)%2=(eP (l.map g)+eP (l.map q))%2:=by
 intro l
 induction l with
 |nil=>intro _;rfl|cons x l ih=>intro hf;have h1:=hf x fW;have h2:=ih λk hk=>hf k (fE _ hk);simp only[eC,eP];omega
def ai1(hn:n=2 * h+1)(ha:oL a n)(hb:oL b n){k:Nat}(hk:1<=k/\k<=h):fl (a * b) n k%2=(fl b n k+fl a n (ab b n k))%2:=by
 have hbr:=Ui hn hb hk;have hx0:=aaw ha (k:=ab b n k) ag ag;have dN:=nj (a * ab b n k) (ag:0<n);have cP:=nj (b * k) (ag:0<n);have e1:a * b * k%n=a * (b * k%n)%n:=by rw[ND,adA]
 unfold fl;rw[e1];by_cases hr:n<2 * (b * k%n)
 ·have Ew:ab b n k=n - b * k%n:=by unfold ab;rw[aG hr]
  rw[aG hr];have zl:=nj (a * (b * k%n)) (ag:0<n);have hs:(a * (b * k%n)%n+a * ab b n k%n)%n=0:=by rw[<-JL,<-TJ,Ew,(ag:b * k%n+(n - b * k%n)=n),Nat.mul_mod_left]
  have A1:a * (b * k%n)%n+a * ab b n k%n=n:=by
   have hd:=Gx hs;obtain⟨c,hc⟩:=hd;rcases c with _|_|c
   ·omega
   ·omega
   ·exfalso;have:n * 2<=n * (c+1+1):=adz n ag;omega
  split<;>split<;>omega
 ·have Ew:ab b n k=b * k%n:=by unfold ab;rw[aI hr]
  rw[aI hr,Ew];simp
def amN(hn:n=2 * h+1)(ha:oL a n)(hb:oL b n):mu (a * b) n%2=(mu a n+mu b n)%2:=by
 have hh:n/2=h:=by omega
 unfold mu;rw[hh,abX (g:=fl b n) (q:=λk=>fl a n (ab b n k)) λk hk=>ai1 hn ha hb (wg.1 hk)];have e:(fI h).map (λk=>fl a n (ab b n k))=((fI h).map (ab b n)).map (fl a n):=by rw[Bx];rfl
 rw[e,abU ((Rt hn hb).map (fl a n))];omega
def abV(c):∀m:Nat,eP ((fI m).map λk=>if c<k then 1 else 0)=m - c:=by
 intro m
 induction m with
 |zero=>simp[fI,eP]|succ m ih=>rw[aaC,mw,abT,ih];simp only[eC,vE,eP];split<;>omega
def auz(c):∀m:Nat,eP ((fI m).map λk=>if k<=c then 1 else 0)=min c m:=by
 intro m
 induction m with
 |zero=>simp[fI,eP]|succ m ih=>rw[aaC,mw,abT,ih];simp only[eC,vE,eP];split<;>omega
def MF{f g}:∀{l:List Nat},(∀k∈l,f k=g k)->eP (l.map f)=eP (l.map g):=by
 intro l
 induction l with
 |nil=>intro _;rfl|cons x l ih=>intro hf;simp only[eC,eP];rw[hf x fW,ih λk hk=>hf k (fE _ hk)]
def amP(hn:n=2 * h+1):mu 2 n=h - h/2:=by
 have hh:n/2=h:=by omega
 unfold mu;rw[hh,<-abV (h/2) h];refine MF λk hk=>?_;have:=wg.1 hk;unfold fl;rw[oo ag];split<;>split<;>omega
def amO(hn:n=2 * h+1):mu 1 n=0:=by
 have hh:n/2=h:=by omega
 unfold mu;rw[hh];have:(fI h).map (fl 1 n)=(fI h).map λk=>if h<k then 1 else 0:=by apply JH;intro k hk;have:=wg.1 hk;unfold fl;rw[D0,oo ag];split<;>split<;>omega
 rw[this,abV];omega
def amM:mu (a%n) n=mu a n:=by unfold mu;refine MF λk _=>?_;unfold fl;rw[TH]
def Zv(hn:n=2 * h+1)(hc:oL a n)(ha:a%2=1):mu a n%2=eP ((fI h).map λk=>a * k/n)%2:=by
 have hh:n/2=h:=by omega
 have step:∀k∈fI h,fl a n k%2=((a * k/n)+(ab a n k+k))%2:=by
  intro k _;have hd:=TG (a * k) n;have hr:=nj (a * k) (ag:0<n);have p1:a * k%2=k%2:=by rw[tM,ha];simp
  have p2:n * (a * k/n)%2=(a * k/n)%2:=by rw[tM,(ag:n%2=1)];simp
  generalize n * (a * k/n)=u at *
  generalize a * k/n=v at *
  unfold fl ab;generalize a * k%n=r at *
  split<;>omega
 unfold mu;rw[hh,abX step];have e:eP ((fI h).map λk=>ab a n k+k)=eP ((fI h).map (ab a n))+eP ((fI h).map λk=>k):=by
  generalize fI h=l
  induction l with
  |nil=>rfl|cons x l ih=>simp only[eC,eP];rw[ih];omega
 rw[e,abU (Rt hn hc),List.map_id'];omega
end
def ajf(f:Nat->Nat->Nat):∀(l m:List Nat),eP (l.map λk=>eP (m.map λj=>f k j))=eP (m.map λj=>eP (l.map λk=>f k j)):=by
 intro l m
 induction l with
 |nil=>
  simp only[vE,eP]
  induction m with
  |nil=>rfl|cons x m ih=>simp only[eC,eP];rw[<-ih]
 |cons x l ih=>
  simp only[eC,eP];rw[ih];clear ih
  induction m with
  |nil=>rfl|cons y m ih=>simp only[eC,eP];rw[<-ih];omega
def Wg{m n g h k}(hn:n=2 * h+1)(hm:m=2 * g+1)(hk:k<=h):m * k/n=eP ((fI g).map λl=>if n * l<=m * k then 1 else 0):=by
 have eO:m * k/n<=g:=by
  have:m * k/n<g+1:=by rw[Nat.div_lt_iff_lt_mul ag];have h1:m * k<=m * h:=adz m hk;have h2:(g+1) * n=m * h+(g+1+h):=(by subst hn hm;simp only[gJ,TJ,oN,D0];have:g * (2 * h)=2 * g * h:=(by rw[NF 2 g,ND]);omega);omega
  omega
 have:(fI g).map (λl=>if n * l<=m * k then 1 else 0)=(fI g).map λl=>if l<=m * k/n then 1 else 0:=by
  apply JH;intro l _;have:(n * l<=m * k)↔l<=m * k/n:=by rw[Nat.le_div_iff_mul_le ag,NF]
  simp only[this]
 rw[this,auz];omega
def alK{m n g h}(hn:n=2 * h+1)(hm:m=2 * g+1)(hc:oL m n):
 eP ((fI h).map λk=>m * k/n)+eP ((fI g).map λl=>n * l/m)=h * g:=by
 have e1:eP ((fI h).map λk=>m * k/n)=eP ((fI h).map λk=>eP ((fI g).map λl=>if n * l<=m * k then 1 else 0)):=
  MF λk hk=>Wg hn hm (wg.1 hk).2
 have e2:eP ((fI g).map λl=>n * l/m)=eP ((fI g).map λl=>eP ((fI h).map λk=>if m * k<=n * l then 1 else 0)):=
  MF λl hl=>Wg hm hn (wg.1 hl).2
 rw[e1,e2,ajf (λl k=>if m * k<=n * l then 1 else 0)];have one:∀k∈fI h,∀l∈fI g,(if n * l<=m * k then 1 else 0)+(if m * k<=n * l then 1 else 0)=1:=by
  intro k hk l hl;have hk:=wg.1 hk;have bG:m * k≠n * l:=λq=>by have hd:n∣m * k:=⟨l,q⟩;have:=(Nz hc).dvd_of_dvd_mul_left hd;have:=DY ag this;omega
  split<;>split<;>omega
 have inner:∀(k:Nat) (ls:List Nat),k∈fI h->(∀l∈ls,l∈fI g)->eP (ls.map λl=>if n * l<=m * k then 1 else 0)+eP (ls.map λl=>if m * k<=n * l then 1 else 0)=ls.length:=by
  intro k ls hk
  induction ls with
  |nil=>intro _;rfl|cons x ls ih=>intro hs;have h1:=one k hk x (hs x fW);have h2:=ih λl hl=>hs l (fE _ hl);simp only[eC,eP,iP];omega
 have outer:∀(ks:List Nat),(∀k∈ks,k∈fI h)->eP (ks.map λk=>eP ((fI g).map λl=>if n * l<=m * k then 1 else 0))+eP (ks.map λk=>eP ((fI g).map λl=>if m * k<=n * l then 1 else 0))=ks.length * g:=by
  intro ks
  induction ks with
  |nil=>intro _;simp[eP]|cons x ks ih=>intro hs;have h1:=inner x (fI g) (hs x fW) (λ_ h=>h);rw[RT] at h1;have h2:=ih λl hl=>hs l (fE _ hl);simp only[eC,eP,iP,gJ,D0];omega
 have:=outer (fI h) (λ_ h=>h);rw[RT] at this;exact this
def apc{m n g h}(hn:n=2 * h+1)(hm:m=2 * g+1)(hc:oL m n):(mu m n+mu n m)%2=h * g%2:=by have e1:=Zv hn hc ag;have e2:=Zv hm hc.symm ag;have:=alK hn hm hc;rw[JL,e1,e2,<-JL,this]
end Go.NT
end
section
namespace Go.NT
def Rh:∀c:Nat,(1:Int)^c=1:=by
 intro c
 induction c with
 |zero=>rfl|succ c ih=>rw[yu,ih];rfl
def zq(p:Nat):Prop:=2<=p/\∀d,d∣p->d=1∨d=p
def zq.coprime{p k}(hp:zq p)(h0:0<k)(h1:k<p):Nat.Coprime k p:=by
 have hd:Nat.gcd k p∣p:=Nat.gcd_dvd_right k p;rcases hp.2 _ hd with q|q
 ·exact q
 ·have:=DY h0 (Nat.gcd_dvd_left k p);omega
def aoE(a):∀l:List Nat,na (l.map λ(k:Nat)=>a * (k:Int))=a^l.length * na (l.map λ(k:Nat)=>(k:Int)):=by
 intro l
 induction l with
 |nil=>simp[na]|cons x l ih=>simp only[eC,na,ih,iP,yu];rw[yq,yq,DQ (x:Int),<-yq a,zW a,yq]
def aoF(f)(g):∀l:List Nat,na (l.map λk=>(-1)^f k * g k)=(-1)^eP (l.map f) * na (l.map g):=by
 intro l
 induction l with
 |nil=>simp[na,eP]|cons x l ih=>simp only[eC,na,eP,ih,Tr];rw[yq,yq,DQ (g x)]
def aoD{p}{f g}:∀{l:List Nat},(∀k∈l,p∣f k - g k)->p∣na (l.map f) - na (l.map g):=by
 intro l
 induction l with
 |nil=>intro _;simp[na]|cons x l ih=>
  intro h;have h1:=h x fW;have h2:=ih λk hk=>h k (fE _ hk);simp only[eC,na];generalize na (l.map f)=F at *
  generalize na (l.map g)=G at *
  have e:f x * F - g x * G=(f x - g x) * F+g x * (F - G):=by rw[Nf,zX];omega
  rw[e];exact yp (Int.dvd_mul_of_dvd_left h1) (Gb h2)
def cancel{p}(hp:zq p):∀(l:List Nat) (x:Int),(∀k∈l,0<k/\k<p)->(p:Int)∣x * na (l.map λ(k:Nat)=>(k:Int))->(p:Int)∣x:=by
 intro l
 induction l with
 |nil=>intro x _ h;simpa [na] using h|cons k l ih=>
  intro x hk h;obtain⟨h0,h1⟩:=hk k fW;refine ih x (λj hj=>hk j (fE _ hj)) ?_;simp only[eC,na] at h;rw[DQ] at h;generalize x * na (l.map λ(k:Nat)=>(k:Int))=y at *
  have hn:=acK.2 h;rw[Int.natAbs_mul,Tn,Tn] at hn;have:=(hp.coprime h0 h1).symm.dvd_of_dvd_mul_left hn;exact acK.1 (by rw[Tn];exact this)
def Wr{p h a}(hp:zq p)(hn:p=2 * h+1)(hc:Nat.Coprime a p):(p:Int)∣(a:Int)^h - (-1)^mu a p:=by
 have hh:p/2=h:=by omega
 have step:∀k∈fI h,(p:Int)∣(a:Int) * (k:Int) - (-1)^fl a p k * (ab a p k:Int):=by
  intro k _;have hd:=TG (a * k) p;have hr:=nj (a * k) (ag:0<p);have ie:(a:Int) * (k:Int)=(p:Int) * ((a * k/p:Nat):Int)+((a * k%p:Nat):Int):=by rw[<-yr,<-yr,<-acL,hd]
  unfold fl ab;by_cases q:p<2 * (a * k%p)
  ·rw[aG q,aG q,ie];have e:((p - a * k%p:Nat):Int)=(p:Int) - ((a * k%p:Nat):Int):=(by omega);rw[e];refine⟨((a * k/p:Nat):Int)+1,?_⟩;rw[Nb];simp only[JA,Int.pow_one];omega
  ·rw[aI q,aI q,ie];refine⟨((a * k/p:Nat):Int),?_⟩;simp only[Nd,Gd];omega
 have h1:=aoD step;rw[aoE,aoF,RT] at h1;have e1:(fI h).map (λk=>(ab a p k:Int))=((fI h).map (ab a p)).map λ(k:Nat)=>(k:Int):=by rw[Bx];rfl
 rw[e1,aoC ((Rt hn hc).map λ(k:Nat)=>(k:Int)),<-Nf] at h1;have:=cancel hp (fI h) _ (λk hk=>by have:=wg.1 hk;omega) h1;unfold mu;rw[hh];exact this
def aiF{p h a}(hp:zq p)(hn:p=2 * h+1)(h0:0<a)(h1:a<p):(a^h%p=1)↔mu a p%2=0:=by
 have hg:=Wr hp hn (hp.coprime h0 h1);have oy:=hp.1;have Qd:((a^h:Nat):Int)=(a:Int)^h:=by simp
 rw[<-Qd] at hg;constructor
 ·intro q;rcases BF (mu a p) with r|r
  ·exact r
  ·exfalso;have:((-1:Int))^mu a p= -1:=(by obtain⟨c,hc⟩:∃c,mu a p=2 * c+1:=⟨mu a p/2,by omega⟩;rw[hc,yu,Ge];simp[Rh]);rw[this] at hg;have hd:p∣a^h+1:=(by have e:((a^h:Nat):Int) - -1=((a^h+1:Nat):Int):=(by omega);rw[e] at hg;exact To.1 hg);have:=Nat.mod_eq_zero_of_dvd hd;rw[JL,q] at this;have h3:1%p=1:=oo ag;rw[h3] at this;have:p∣2:=Gx this;have:=DY ag this;omega
 ·intro r;have:((-1:Int))^mu a p=1:=by obtain⟨c,hc⟩:∃c,mu a p=2 * c:=⟨mu a p/2,by omega⟩;rw[hc,Ge];simp[Rh]
  rw[this] at hg;have jb:0<a^h:=NI h0;have hd:p∣a^h - 1:=by have e:((a^h:Nat):Int) - 1=((a^h - 1:Nat):Int):=(by omega);rw[e] at hg;exact To.1 hg
  obtain⟨c,hc⟩:=hd;have:a^h=p * c+1:=by omega
  rw[this,adx,oo ag]
def at5{x n}(ho:n%2=1)(hc:oL (2 * x) n):mu (2 * x) n%2=(mu x n+(if n%8=3∨n%8=5 then 1 else 0))%2:=by
 have hn:n=2 * (n/2)+1:=by omega
 have h2:oL 2 n:=Nat.Coprime.coprime_mul_right hc;have hx:oL x n:=adr hc;rw[amN hn h2 hx,amP hn];split<;>omega
def at7{x n}(ho:n%2=1)(hx:x%2=1)(hc:oL x n):mu x n%2=(mu (n%x) x+(if x%4=3/\n%4=3 then 1 else 0))%2:=by
 have hn:n=2 * (n/2)+1:=by omega
 have hm:x=2 * (x/2)+1:=by omega
 have h:=apc hn hm hc;rw[amM];have e:(n/2) * (x/2)%2=(if x%4=3/\n%4=3 then 1 else 0):=by rw[tM];rcases BF (n/2) with p|p<;>rcases BF (x/2) with q|q<;>rw[p,q]<;>split<;>omega
 rw[e] at h;split at h<;>split<;>omega
def ahD{x n}(hc:oL x n):oL (n%x) x:=by
 unfold oL at *
 rw[<-Nat.gcd_rec,hc]
def Fm(p:Nat):Nat->Nat->Bool
 |0,lo=>Nat.blt 0 (p%lo)
 |k+1,lo=>Fm p k lo&&Fm p k (lo+2^k)
def amZ{p}:∀{k lo:Nat},Fm p k lo=ah->∀d,lo<=d->d<lo+2^k->p%d≠0:=by
 intro k
 induction k with
 |zero=>
  intro lo h d h1 h2;have:d=lo:=by simp at h2;omega
  subst this;unfold Fm at h;have:1<=p%d:=by simpa [Nat.blt] using h
  omega
 |succ k ih=>
  intro lo h d h1 h2;unfold Fm at h;rw[bC] at h;rw[BG] at h2;rcases dW d (lo+2^k) with q|q
  ·exact ih h.1 d h1 q
  ·exact ih h.2 d q ag
def YS{p k}(h2:2<=p)(h:Fm p k 2=true)(hk:p<(2^k+2) * (2^k+2)):zq p:=by
 refine⟨h2,λd hd=>?_⟩;obtain⟨e,he⟩:=hd;have bB:d≠0:=by rintro rfl;simp at he;omega
 have aF:e≠0:=by rintro rfl;simp at he;omega
 by_cases fj:d=1
 ·exact .inl fj
 by_cases oU:e=1
 ·right;rw[he,oU,oN]
 exfalso;have key:∀{x y:Nat},p=x * y->2<=x->x<2+2^k->False:=by intro x y YH hx aA;exact amZ h x hx aA (by rw[YH,Nat.mul_mod_right])
 rcases dW d (2+2^k) with q|q
 ·exact key he ag q
 ·rcases dW e (2+2^k) with r|r
  ·exact key (by rw[he,NF]) ag r
  ·have:=qG q r;rw[<-he] at this;rw[ads (2^k) 2] at hk;omega
def P:Nat:=2147483579
def Q:Nat:=1073741789
def TR:zq P:=YS (k:=16) aV (by decide+kernel) aV
def adL:zq Q:=YS (k:=15) aV (by decide+kernel) aV
end Go.NT
end
section
namespace Go.NT
def Eo:Nat->Nat->Nat->Nat->Nat->Nat
 |0,_,_,_,c=>c
 |k+1,m,a,n,c=>if n=0 then c else Eo k m (a * a%m) (n/2) (if n%2=1 then c * a%m else c)
def Kn{m}(hm:0<m):∀{k a n c:Nat},n<2^k->c<m->Eo k m a n c=c * a^n%m:=by
 intro k
 induction k with
 |zero=>
  intro a n c hn hc;have:n=0:=by simp at hn;exact hn
  subst this;simp[Eo,oo hc]
 |succ k ih=>
  intro a n c hn hc;unfold Eo;by_cases h0:n=0
  ·subst h0;simp[oo hc]
  ·rw[aI h0];have uj:n/2<2^k:=(by rw[BG] at hn;omega);have Yr:∀e,(a * a%m)^e%m=a^(2 * e)%m:=λe=>(by rw[<-GC,GD,TK]);split
   ·rename_i ho;rw[ih uj (nj _ hm),tM,Yr,Nat.mod_mod,<-tM,ND,<-adH,show(2 * (n/2)).succ=n by omega]
   ·rename_i ho;rw[ih uj hc,tM,Yr,<-tM,(ag:2 * (n/2)=n)]
def tG(a n:Nat):Nat:=Eo 31 P a n 1
def Rv{a n}(hn:n<2^31):tG a n=a^n%P:=by unfold tG;rw[Kn aV hn aV,D0]
def elem(x:Nat):Bool:=decide (1<=x)&&decide (x<P)&&Nat.beq (tG x Q) 1
def elem_iff{x}:elem x=ah↔1<=x/\x<P/\x^Q%P=1:=by unfold elem;rw[Rv aV];simp only[bC,decide_eq_true_eq];exact⟨λh=>⟨h.1.1,h.1.2,jW h.2⟩,λh=>⟨⟨h.1,h.2.1⟩,by rw[h.2.2];rfl⟩⟩
def aii{x}(h0:1<=x)(h1:x<P):elem x=decide (mu x P%2=0):=by have:=aiF TR (h:=Q) (a:=x) aV ag h1;rw[F1,elem_iff,decide_eq_true_eq,<-this];exact⟨λh=>h.2.2,λh=>⟨h0,h1,h⟩⟩
def At:elem 1=ah:=by rw[elem_iff];exact⟨aV,by decide,by rw[adD];rfl⟩
def G7{x y}(hx:elem x=ah)(hy:elem y=ah):elem (x * y%P)=ah:=by
 rw[elem_iff] at *
 obtain⟨x1,x2,x3⟩:=hx;obtain⟨y1,y2,y3⟩:=hy;have hp:(x * y%P)^Q%P=1:=by rw[<-GC,Nat.mul_pow,tM,x3,y3];rfl
 refine⟨?_,nj _ aV,hp⟩;rcases Gy (x * y%P) with q|q
 ·rw[q] at hp;have:(0:Nat)^Q=0:=Nat.zero_pow aV;rw[this] at hp;cases hp
 ·exact q
def aij{x}(hx:elem x=ah)(n):elem (x^n%P)=ah:=by
 induction n with
 |zero=>exact At|succ n ih=>
  have:=G7 ih hx
  rwa [TH,<-BG] at this
def aox{x}(hx:elem x=ah)(n):x^(n%Q)%P=x^n%P:=by obtain⟨-,-,h⟩:=elem_iff.1 hx;have e:n=Q * (n/Q)+n%Q:=(TG n Q).symm;rw[show x^n=x^(Q * (n/Q)+n%Q) by rw[<-e],adF,GD,tM,GC (x^Q),h,adD];simp
end Go.NT
end
section
namespace Go.NT
def Qi:Int:=1073741789
def fmod(n:Int):Int:=n%Qi
def cd(a b:Int):Int:=(fmod a+fmod b)%Qi
def cR(a b:Int):Int:=fmod a * fmod b%Qi
def eK(n:Int):Int:=((Eo 31 Q (fmod n).toNat (Q - 2) 1:Nat):Int)
def okF(x:Int):Prop:=0<=x/\x<Qi
def NN:(0:Int)<Qi:=by decide
def BK:Qi=(Q:Int):=rfl
def Er(n):okF (fmod n):=⟨Tk _ aV,Tj _ NN⟩
def Cf{x}(h:okF x):fmod x=x:=M8 h.1 h.2
def B8(a b):cd a b=(a+b)%Qi:=by unfold cd fmod;rw[<-acF]
def tY(a b):cR a b=a * b%Qi:=by unfold cR fmod;rw[<-Bs]
def Km(a b):okF (cd a b):=⟨Tk _ aV,Tj _ NN⟩
def G8(a b):okF (cR a b):=⟨Tk _ aV,Tj _ NN⟩
def Bd:okF 0:=by unfold okF;decide
def V0{x}(h:okF x):cd x 0=x:=by rw[B8,Int.add_zero,<-fmod];exact Cf h
def ai7(n):cR n 0=0:=by rw[tY,Nc];rfl
def avZ(n):cR 0 n=0:=by rw[tY,JC];rfl
def jZ(n x y:Int):Int:=cd x (-(cR n y))
def Kr(n x y):jZ n x y=(x - n * y)%Qi:=by unfold jZ;rw[B8,tY,<-Int.sub_eq_add_neg,acQ,DP _ (DO _),<-acQ]
def ai4(n x y):okF (jZ n x y):=Km _ _
def OK{n x}(h:okF x):jZ n x 0=x:=by unfold jZ;rw[ai7,acN];exact V0 h
def ai6{x y}(h:okF x):jZ 0 x y=x:=by unfold jZ;rw[avZ,acN];exact V0 h
def ai5(n y):jZ (-n) 0 y=cR y n:=by rw[Kr,tY,acM,Int.sub_neg,Gf,zW]
def aiK{p h a}(hp:zq p)(hn:p=2 * h+1)(h0:0<a)(h1:a<p):a^(p - 1)%p=1:=by
 have hg:=Wr hp hn (hp.coprime h0 h1);have oy:=hp.1;have h2:(p:Int)∣(a:Int)^(2 * h) - 1:=by
  obtain⟨c,hc⟩:=hg;have e:((-1:Int)^mu a p) * ((-1:Int)^mu a p)=1:=by rw[<-Tr,(ag:mu a p+mu a p=2 * mu a p),Ge];simp[Rh]
  have e2:(a:Int)^(2 * h)=(a:Int)^h * (a:Int)^h:=by rw[<-Tr,(ag:2 * h=h+h)]
  refine⟨c * ((a:Int)^h+(-1)^mu a p),?_⟩;rw[<-yq,<-hc,Nf,Nb,Nb,e2,zW ((-1)^mu a p) ((a:Int)^h),e];omega
 rw[(ag:p - 1=2 * h)];have jb:0<a^(2 * h):=NI h0;have Qd:((a^(2 * h):Nat):Int)=(a:Int)^(2 * h):=by simp
 rw[<-Qd] at h2;have hd:p∣a^(2 * h) - 1:=by
  have e:((a^(2 * h):Nat):Int) - 1=((a^(2 * h) - 1:Nat):Int):=by omega
  rw[e] at h2;exact To.1 h2
 obtain⟨c,hc⟩:=hd;have:a^(2 * h)=p * c+1:=by omega
 rw[this,adx,oo ag]
def OA(n):okF (eK n):=by unfold eK okF;rw[Kn aV aV aV];exact⟨ag,by rw[BK];exact acO.2 (nj _ aV)⟩
def OM{x}(h:okF x)(h0:x≠0):cR x (eK x)=1:=by
 obtain⟨n,rfl⟩:∃n:Nat,x=n:=⟨x.toNat,by have:=h.1;omega⟩;have hn:n<Q:=by have:=h.2;rw[BK] at this;exact acO.1 this
 have hf:=aiK (h:=536870894) adL aV (ag:0<n) hn;unfold eK;rw[Cf h,dV,Kn aV aV aV,D0,tY,BK,<-yr,<-Tp,adA,NF,<-BG,
  (aV:(Q - 2).succ=Q - 1),hf]
 rfl
def ai(l:List Int)(i:Nat):Int:=l.getD i 0
def je(n:Int)(a b:List Int):List Int:=Gu (jZ n) a b
def vN(c:Nat)(a own:List Int):List Int:=if ai a c=0 then a else a.take c++je (ai a c) (a.drop c) (own.drop c)
def iF(c:Nat)(a:List Int)(n:Int):List Int:=a.take c++(a.drop c).map (cR · n)
def scaleB(a:List Int)(n:Int):List Int:=je (-n) (a9 a.length 0) a
def oS(t:List (List Int))(r c:Nat):Option Nat:=(bM t.length).find? λk=>decide (r<=k)&& !(decide (ai (t.getD k []) c=0))
def yh(st:List (List Int) × List Nat)(c:Nat):List (List Int) × List Nat:=
 match oS st.1 st.2.length c with
 |none=>st
 |some k=>
  let own:=iF c (st.1.getD k []) (eK (ai (st.1.getD k []) c))
  let t1:=(st.1.set k (st.1.getD st.2.length [])).set st.2.length own
  (t1.mapIdx λi a=>if i=st.2.length then own else vN c a own,st.2++[c])
def oc(st:List (List Int) × List Nat)(c:Nat):List (List Int) × List Nat:=
 match oS st.1 st.2.length c with
 |none=>st
 |some k=>
  let own:=scaleB (st.1.getD k []) (eK (ai (st.1.getD k []) c))
  let t1:=st.1.set k (st.1.getD st.2.length [])
  ((t1.map λa=>je (ai a c) a own).set st.2.length own,st.2++[c])
def Fz(t:List (List Int))(many:Nat):List (List Int) × List Nat:=(bM many).foldl yh (t,[])
def jg(t:List (List Int))(many:Nat):List (List Int) × List Nat:=(bM many).foldl oc (t,[])
structure wV(w c:Nat)(st:List (List Int) × List Nat):Prop where
 len:∀a∈st.1,a.length=w
 ok:∀a∈st.1,∀x∈a,okF x
 zero:∀i a,st.2.length<=i->st.1[i]?=aa a->∀j,j<c->ai a j=0
def fm{l}{i}(h):ai l i=l[i]:=by unfold ai;rw[ez,aR h];rfl
def qI{l}(h:∀x∈l,okF x)(i):okF (ai l i):=by
 unfold ai;rw[ez];rcases dW i l.length with q|q
 ·rw[aR q];exact h _ (iW q)
 ·rw[uI q];exact Bd
def xX{a b}(hl:a.length=b.length)(h:∀i,i<a.length->ai a i=ai b i):a=b:=by apply JE hl;intro i h1 h2;rw[<-fm h1,<-fm h2];exact h i h1
def xc{n}{a b}(hl:a.length=b.length){i}(hi:i<a.length):ai (je n a b) i=jZ n (ai a i) (ai b i):=by
 unfold je;have h1:i<(Gu (jZ n) a b).length:=by rw[ada];omega
 rw[fm h1,ac8,fm hi,fm ag]
def we{n}{a b}(hl:a.length=b.length):(je n a b).length=a.length:=by unfold je;rw[ada];omega
def Eb{a x}{c}(hc:c<=a.length)(i):ai (a.take c++x) i=if i<c then ai a i else ai x (i - c):=by
 unfold ai;simp only[ez];split
 ·rename_i h;rw[sH (by rw[eS];omega),oJ,aG h]
 ·rename_i h;rw[Ab (by rw[eS];omega),eS,DZ hc]
def JV(a)(c i):ai (a.drop c) i=ai a (c+i):=by unfold ai;simp only[ez,pD]
def ag8{c}{a own}(hl:a.length=own.length)(hc:c<a.length)(ha:∀x∈a,okF x)(hz:∀j,j<c->ai own j=0):vN c a own=je (ai a c) a own:=by
 unfold vN;split
 ·rename_i h;rw[h];refine(xX (we hl) λi hi=>?_).symm;rw[we hl] at hi;rw[xc hl hi,ai6 (qI ha i)]
 ·have hd:(a.drop c).length=(own.drop c).length:=by simp[hl]
  refine xX ?_ λi hi=>?_
  ·rw[dw,we hd,we hl,eS,hJ];omega
  ·have pR:i<a.length:=(by rw[dw,we hd,eS,hJ] at hi;omega);rw[Eb ag,xc hl pR];split
   ·rename_i q;rw[hz i q,OK (qI ha i)]
   ·rename_i q;rw[xc hd (by rw[hJ];omega),JV,JV,(ag:c+(i - c)=i)]
def Mr{c}{a}{n}(hc:c<=a.length)(hz:∀j,j<c->ai a j=0):iF c a n=scaleB a n:=by
 unfold iF scaleB;have hr:(a9 a.length (0:Int)).length=a.length:=by simp
 refine xX ?_ λi hi=>?_
 ·rw[we hr,dw,bu,eS,hJ,hr];omega
 ·have pR:i<a.length:=by rw[dw,bu,eS,hJ] at hi;omega
  have h0:ai (a9 a.length (0:Int)) i=0:=by rw[fm (by simpa using pR)];simp
  rw[Eb hc,xc hr (by rw[hr];exact pR),h0,ai5];split
  ·rename_i q;rw[hz i q,tY,JC];rfl
  ·rename_i q;have hm:i - c<((a.drop c).map (cR · n)).length:=(by rw[bu,hJ];omega);rw[fm hm,p9,TA,<-fm (ag:c+(i - c)<a.length),(ag:c+(i - c)=i)]
end Go.NT
end
section
namespace Go.NT
def Cb{t}{r c k}(h:oS t r c=aa k):k<t.length/\r<=k/\ai (t.getD k []) c≠0:=by unfold oS at h;have h1:=List.find?_some h;have h2:=List.mem_of_find?_eq_some h;rw[fQ] at h2;simp only[bC,decide_eq_true_eq,zR,decide_eq_false_iff_not] at h1;exact⟨h2,h1⟩
def V4{t}{r c}(h:oS t r c=au){k}(hk:k<t.length)(hr:r<=k):ai (t.getD k []) c=0:=by unfold oS at h;rw[List.find?_eq_none] at h;have:=h k (fQ.2 hk);simp only[bC,decide_eq_true_eq,zR,decide_eq_false_iff_not,not_and,Jz] at this;exact this hr
def lO{t:List (List Int)}{k}(hk):t.getD k []=t[k]:=by rw[ez,aR hk];rfl
section
variable {w c:Nat} {st:List (List Int) × List Nat}
structure Own(w c:Nat)(own:List Int):Prop where
 len:own.length=w
 ok:∀x∈own,okF x
 zero:∀j,j<c->ai own j=0
 one:ai own c=1
def Lx{a:List Int}(hl:a.length=w)(hc:c<w)(ha:∀x∈a,okF x)(hz:∀j,j<c->ai a j=0)(h0:ai a c≠0):Own w c (iF c a (eK (ai a c))):=by
 refine⟨?_,?_,?_,?_⟩
 ·unfold iF;rw[dw,bu,eS,hJ];omega
 ·intro x hx;unfold iF at hx;rcases List.mem_append.1 hx with q|q
  ·exact ha x (pE q)
  ·obtain⟨y,-,rfl⟩:=jP.1 q;exact G8 _ _
 ·intro j hj;unfold iF;rw[Eb ag,aG hj];exact hz j hj
 ·unfold iF;rw[Eb ag,aI ag];have hm:c - c<((a.drop c).map (cR · (eK (ai a c)))).length:=by rw[bu,hJ];omega
  rw[fm hm,p9,TA];have e:a[c+(c - c)]' ag=ai a c:=by rw[fm ag];congr 1;omega
  rw[e];exact OM (qI ha c) h0
def abI(R:wV w c st)(hc:c<w):yh st c=oc st c:=by
 unfold yh oc;cases hf:oS st.1 st.2.length c with
 |none=>rfl|some k=>
  obtain⟨k1,k2,k3⟩:=Cb hf;rw[lO k1] at k3;have hk:=R.len _ (iW k1);have AT:=R.ok _ (iW k1);have vX:=R.zero k _ k2 (aR k1);simp only[lO k1];have O:=Lx hk hc AT vX k3;rw[<-Mr ag vX];generalize iF c st.1[k] (eK (ai st.1[k] c))=own at *
  congr 1;apply JE
  ·simp
  ·intro i h1 h2;rw[List.getElem_mapIdx];by_cases hi:i=st.2.length
   ·rw[aG hi];subst hi;rw[Nl]
   ·rw[aI hi,Nk (λq=>hi q.symm),Nk (λq=>hi q.symm),p9];have aA:i<st.1.length:=(by simpa using h1);have hm:(st.1.set k (st.1.getD st.2.length []))[i]'(by simpa using aA)∈st.1:=by
     rw[Gl];split
     ·rw[lO ag];exact iW _
     ·exact iW _
    exact ag8 ((R.len _ hm).trans O.len.symm) (by rw[R.len _ hm];exact hc) (R.ok _ hm) O.zero
def Mz(R:wV w c st)(hc:c<w):wV w (c+1) (oc st c):=by
 unfold oc;cases hf:oS st.1 st.2.length c with
 |none=>
  refine⟨R.len,R.ok,λi a hi ha j hj=>?_⟩;rcases dW j c with q|q
  ·exact R.zero i a hi ha j q
  ·have:j=c:=(by omega);subst this;have aA:=(aS.1 ha).1;have:=V4 hf aA hi;rw[lO aA] at this;rw[<-(aS.1 ha).2];exact this
 |some k=>
  obtain⟨k1,k2,k3⟩:=Cb hf;rw[lO k1] at k3;have hk:=R.len _ (iW k1);have AT:=R.ok _ (iW k1);have vX:=R.zero k _ k2 (aR k1);simp only[lO k1];have O:=Lx hk hc AT vX k3;rw[<-Mr ag vX];generalize iF c st.1[k] (eK (ai st.1[k] c))=own at *
  have cP:st.2.length<st.1.length:=by omega
  have qn:∀a∈st.1.set k (st.1.getD st.2.length []),a∈st.1:=λa ha=>by
   rcases wS ha with q|q
   ·exact q
   ·rw[q,lO cP];exact iW _
  refine⟨λa ha=>?_,λa ha=>?_,λi a hi ha j hj=>?_⟩
  ·rcases wS ha with q|q
   ·obtain⟨b,hb,rfl⟩:=jP.1 q;have:=R.len _ (qn b hb);rw[we (this.trans O.len.symm)];exact this
   ·rw[q];exact O.len
  ·rcases wS ha with q|q
   ·obtain⟨b,hb,rfl⟩:=jP.1 q;intro x hx;unfold je at hx;obtain⟨i,h1,rfl⟩:=By.1 hx;rw[ac8];exact ai4 _ _ _
   ·rw[q];exact O.ok
  ·simp only[dw,Nn] at hi;have bG:st.2.length≠i:=(by omega);rw[JF bG,ej] at ha;have aA:i<st.1.length:=by
    rcases dW i st.1.length with q|q
    ·exact q
    ·rw[uI (by simpa using q)] at ha;cases ha
   rw[aR (by simpa using aA),ff,dP] at ha;have hb:∃b,(st.1.set k (st.1.getD st.2.length []))[i]'(by simpa using aA)=b/\b.length=w/\(∀x∈b,okF x)/\∀j,j<c->ai b j=0:=by
    refine⟨_,rfl,R.len _ (qn _ (iW _)),R.ok _ (qn _ (iW _)),λj hj=>?_⟩;rw[Gl];split
    ·rw[lO cP];exact R.zero st.2.length _ (aJ _) (aR cP) j hj
    ·exact R.zero i _ ag (aR aA) j hj
   obtain⟨b,e,b1,b2,b3⟩:=hb;rw[e] at ha;subst ha;rw[xc (b1.trans O.len.symm) ag];rcases dW j c with q|q
   ·rw[b3 j q,O.zero j q,OK Bd]
   ·have:j=c:=(by omega);subst this;rw[O.one,Kr,JA,Ts];rfl
end
def apg{t}{w many}(hl:∀a∈t,a.length=w)(ho:∀a∈t,∀x∈a,okF x)(hm:many<=w):Fz t many=jg t many:=by
 unfold Fz jg;have key:∀n,n<=w->(bM n).foldl yh (t,[])=(bM n).foldl oc (t,[])/\wV w n ((bM n).foldl oc (t,[])):=by
  intro n
  induction n with
  |zero=>intro _;exact⟨rfl,hl,ho,λ_ _ _ _ j hj=>by omega⟩|succ n ih=>intro hn;obtain⟨h1,h2⟩:=ih ag;rw[om,oj,oj,h1];simp only[yw,Gj];exact⟨abI h2 ag,Mz h2 ag⟩
 exact(key many hm).1
end Go.NT
end
section
namespace Go.NT
def cK:List Int->Int
 | []=>0
 |x::l=>x+cK l
def aus(l m):cK (l++m)=cK l+cK m:=by
 induction l with
 |nil=>simp[cK]|cons x l ih=>simp only[kL,cK,ih];omega
def dot(y row:List Int):Int:=cK ((bM y.length).map λi=>ai y i * ai row i)
def res(y row:List Int):Int:=dot y row - ai row y.length
def Sat(y row:List Int):Prop:=Qi∣res y row
def auA{f g q}{n}:∀{l:List Nat},(∀i∈l,Qi∣f i - (g i - n * q i))->Qi∣cK (l.map f) - (cK (l.map g) - n * cK (l.map q)):=by
 intro l
 induction l with
 |nil=>intro _;simp[cK]|cons x l ih=>
  intro h;have h1:=h x fW;have h2:=ih λi hi=>h i (fE _ hi);simp only[eC,cK,Nb];have e:f x+cK (l.map f) - (g x+cK (l.map g) - (n * q x+n * cK (l.map q)))=(f x - (g x - n * q x))+(cK (l.map f) - (cK (l.map g) - n * cK (l.map q))):=by omega
  rw[e];exact yp h1 h2
def Wf(n x y):Qi∣jZ n x y - (x - n * y):=by rw[Kr];have:=acH (x - n * y) Qi;refine⟨-((x - n * y)/Qi),?_⟩;rw[Int.mul_neg];omega
def aay{n}{y a b}(hl:a.length=b.length)(hy:y.length<a.length):Qi∣res y (je n a b) - (res y a - n * res y b):=by
 have h1:Qi∣dot y (je n a b) - (dot y a - n * dot y b):=by
  unfold dot;refine auA λi hi=>?_;have hi:=fQ.1 hi;rw[xc hl ag];obtain⟨c,hc⟩:=Wf n (ai a i) (ai b i);refine⟨ai y i * c,?_⟩;have:ai y i * jZ n (ai a i) (ai b i) - (ai y i * ai a i - n * (ai y i * ai b i))=ai y i * (jZ n (ai a i) (ai b i) - (ai a i - n * ai b i)):=by rw[zX,zX,DQ n]
  rw[this,hc,DQ]
 have h2:Qi∣ai (je n a b) y.length - (ai a y.length - n * ai b y.length):=by rw[xc hl hy];exact Wf _ _ _
 unfold res;have e:dot y (je n a b) - ai (je n a b) y.length - (dot y a - ai a y.length - n * (dot y b - ai b y.length))=(dot y (je n a b) - (dot y a - n * dot y b)) - (ai (je n a b) y.length - (ai a y.length - n * ai b y.length)):=by rw[zX];omega
 rw[e];exact Ti h1 h2
def asP{n}{y a b}(hl:a.length=b.length)(hy:y.length<a.length)(h1:Sat y (je n a b))(h2:Sat y b):Sat y a:=by
 unfold Sat at *
 have h3:=aay (n:=n) hl hy;have e:res y a=res y (je n a b) - (res y (je n a b) - (res y a - n * res y b))+n * res y b:=by omega
 rw[e];exact yp (Ti h1 h3) (Gb h2)
def apu(y)(n):res y (a9 n 0)=0:=by
 have hz:∀i,ai (a9 n (0:Int)) i=0:=λi=>by unfold ai;rw[ez,Ni];split<;>rfl
 unfold res dot;simp only[hz,Nc];generalize bM y.length=l
 induction l with
 |nil=>rfl|cons x l ih=>simp only[eC,cK];omega
def asQ{y a}{x}(hy:y.length<a.length)(hx:okF x)(h0:x≠0)(h:Sat y (scaleB a (eK x))):Sat y a:=by
 unfold Sat scaleB at *
 have h1:=aay (n:= -(eK x)) (y:=y) (a:=a9 a.length (0:Int)) (b:=a) bE (by simpa using hy);rw[apu] at h1;have h2:Qi∣eK x * res y a:=by
  have e:eK x * res y a=res y (je (-(eK x)) (a9 a.length 0) a) - (res y (je (-(eK x)) (a9 a.length 0) a) - (0 - -(eK x) * res y a)):=by rw[acM];omega
  rw[e];exact Ti h h1
 have h3:Qi∣x * eK x - 1:=by have:=OM hx h0;rw[tY] at this;have h4:=acH (x * eK x) Qi;rw[this] at h4;exact⟨x * eK x/Qi,by omega⟩
 obtain⟨c,hc⟩:=h2;obtain⟨d,hd⟩:=h3;refine⟨x * c - d * res y a,?_⟩;have e1:x * (eK x * res y a)=x * (Qi * c):=by rw[hc]
 have e2:(x * eK x - 1) * res y a=Qi * d * res y a:=by rw[hd]
 rw[<-yq] at e1;rw[Nf,Gd,e1] at e2;rw[zX,<-yq Qi d,DQ Qi x];omega
section
variable {w c:Nat} {st:List (List Int) × List Nat}
def aue{y:List Int}(R:wV w c st)(hc:c<w)(hy:y.length<w)(h:∀a∈(oc st c).1,Sat y a):∀a∈st.1,Sat y a:=by
 unfold oc at h;cases hf:oS st.1 st.2.length c with
 |none=>rw[hf] at h;exact h|some k=>
  rw[hf] at h;obtain⟨k1,k2,k3⟩:=Cb hf;rw[lO k1] at k3;simp only[lO k1] at h;have hk:=R.len _ (iW k1);have AT:=R.ok _ (iW k1);have vX:=R.zero k _ k2 (aR k1);have O:=Lx hk hc AT vX k3;have cP:st.2.length<st.1.length:=by omega
  have uZ:=Mr (n:=eK (ai st.1[k] c)) (ag:c<=st.1[k].length) vX;rw[lO cP] at h;have ho:Sat y (scaleB st.1[k] (eK (ai st.1[k] c))):=h _ (By.2 ⟨st.2.length,by simpa using cP,by rw[Nl]⟩);have nV:∀i (hi:i<st.1.length),i≠st.2.length->Sat y ((st.1.set k st.1[st.2.length])[i]'(by simpa using hi)):=λi hi bG=>by
   have hm:=h ((((st.1.set k st.1[st.2.length]).map λa=>je (ai a c) a (scaleB st.1[k] (eK (ai st.1[k] c)))).set st.2.length (scaleB st.1[k] (eK (ai st.1[k] c))))[i]'(by simpa using hi)) (iW _);rw[Nk (λq=>bG q.symm),p9] at hm;have nx:((st.1.set k st.1[st.2.length])[i]'(by simpa using hi)).length=w:=by
    rw[Gl];split
    ·exact R.len _ (iW _)
    ·exact R.len _ (iW _)
   refine asP ?_ (by rw[nx];exact hy) hm ho;rw[nx,<-uZ,O.len]
  intro a ha;obtain⟨i,hi,rfl⟩:=By.1 ha;by_cases e1:i=k
  ·subst e1;exact asQ ag (qI AT c) k3 ho
  ·by_cases e2:i=st.2.length
   ·subst e2;have:=nV k k1 (λq=>e1 q.symm);rw[Nl] at this;exact this
   ·have:=nV i hi e2;rw[Nk (λq=>e1 q.symm)] at this;exact this
end
end Go.NT
end
section
namespace Go.NT
structure D2(c:Nat)(st:List (List Int) × List Nat):Prop where
 lt:∀k p:Nat,st.2[k]?=aa p->p<c
 inc:∀j k p q:Nat,j<k->st.2[j]?=aa p->st.2[k]?=aa q->p<q
 val:∀k p:Nat,st.2[k]?=aa p->∀(i:Nat) (a:List Int),st.1[i]?=aa a->ai a p=if i=k then 1 else 0
 len:st.2.length<=st.1.length
section
variable {w c:Nat} {st:List (List Int) × List Nat}
def aua(R:wV w c st)(V:D2 c st)(hc:c<w):D2 (c+1) (oc st c):=by
 unfold oc;cases hf:oS st.1 st.2.length c with
 |none=>exact⟨λk p h=>by have:=V.lt k p h;omega,V.inc,V.val,V.len⟩
 |some k=>
  obtain⟨k1,k2,k3⟩:=Cb hf;rw[lO k1] at k3;have hk:=R.len _ (iW k1);have AT:=R.ok _ (iW k1);have vX:=R.zero k _ k2 (aR k1);simp only[lO k1];have O:=Lx hk hc AT vX k3;have cP:st.2.length<st.1.length:=by omega
  rw[<-Mr ag vX,lO cP];generalize iF c st.1[k] (eK (ai st.1[k] c))=own at *
  refine⟨λj p h=>?_,λj l p q pS hp hq=>?_,λj p hp i a ha=>?_,?_⟩
  ·rcases Ch h with h|⟨-,rfl⟩
   ·have:=V.lt j p h;omega
   ·omega
  ·rcases Ch hq with hq|⟨rfl,rfl⟩
   ·rcases Ch hp with hp|⟨rfl,-⟩
    ·exact V.inc j l p q pS hp hq
    ·have:=(aS.1 hq).1;omega
   ·rcases Ch hp with hp|⟨rfl,-⟩
    ·exact V.lt j p hp
    ·omega
  ·-- the row at i
   have cS:i<st.1.length:=(by have:=(aS.1 ha).1;simpa using this);by_cases hi:i=st.2.length
   ·subst hi;rw[aR (by simpa using cP),Nl,dP] at ha;subst ha;rcases Ch hp with hp|⟨rfl,rfl⟩
    ·have h1:=V.lt j p hp;have h2:=(aS.1 hp).1;rw[O.zero p h1,aI ag]
    ·rw[O.one,aG rfl]
   ·rw[JF (λq=>hi q.symm),ej,aR (by simpa using cS),ff,dP] at ha;have hb:∃b,(st.1.set k st.1[st.2.length])[i]'(by simpa using cS)=b/\b.length=w/\(∀x∈b,okF x)/\∀j p,st.2[j]?=aa p->ai b p=if i=j then 1 else 0:=by
     refine⟨_,rfl,?_,?_,λj p hp=>?_⟩
     ·rw[Gl];split<;>exact R.len _ (iW _)
     ·rw[Gl];split<;>exact R.ok _ (iW _)
     ·rw[Gl];have pS:=(aS.1 hp).1;split
      ·rename_i e;rw[V.val j p hp st.2.length _ (aR cP),aI ag,aI ag]
      ·exact V.val j p hp i _ (aR cS)
    obtain⟨b,e,b1,b2,b3⟩:=hb;rw[e] at ha;subst ha;have hpw:p<w:=by
     rcases Ch hp with h|⟨-,rfl⟩
     ·have:=V.lt j p h;omega
     ·exact hc
    rw[xc (b1.trans O.len.symm) ag];rcases Ch hp with hp|⟨rfl,rfl⟩
    ·rw[O.zero p (V.lt j p hp),OK (qI b2 p)];exact b3 j p hp
    ·rw[O.one,Kr,JA,Ts,aI hi];rfl
  ·simp only[dw,Nn,mr,bu];omega
where
 Ch {l:List Nat} {x i y:Nat} (h:(l++[x])[i]?=aa y):l[i]?=aa y∨(i=l.length/\y=x):=by
  rcases Nat.lt_trichotomy i l.length with aA|mD|HA
  ·rw[sH aA] at h;exact .inl h
  ·subst mD;simp at h;exact .inr ⟨rfl,h.symm⟩
  ·rw[uI (by simp;omega)] at h;cases h
end
def IC{t}{w many}(hl:∀a∈t,a.length=w)(ho:∀a∈t,∀x∈a,okF x)(hm:many<=w):wV w many (jg t many)/\D2 many (jg t many):=by
 unfold jg
 induction many with
 |zero=>exact⟨⟨hl,ho,λ_ _ _ _ j hj=>by omega⟩,⟨λk p h=>by simp at h,λj k p q _ h=>by simp at h,λk p h=>by simp at h,cA _⟩⟩|succ n ih=>obtain⟨h1,h2⟩:=ih ag;rw[om,oj];simp only[yw,Gj];exact⟨Mz h1 ag,aua h1 h2 ag⟩
def aph{t}{w many}{y}(hl:∀a∈t,a.length=w)(ho:∀a∈t,∀x∈a,okF x)(hm:many<=w)(hy:y.length<w)(h:∀a∈(jg t many).1,Sat y a):∀a∈t,Sat y a:=by
 induction many with
 |zero=>exact h|succ n ih=>
  refine ih ag ?_;have h1:=(IC hl ho (ag:n<=w)).1;have e:jg t (n+1)=oc (jg t n) n:=by unfold jg;rw[om,oj];rfl
  rw[e] at h;exact aue h1 ag hy h
def p7(st:List (List Int) × List Nat)(n:Nat):List Int:=st.2.zipIdx.foldl (λy p=>y.set p.1 (ai (st.1.getD p.2 []) n)) (a9 n 0)
def JW{l}{i j}{x}(hi:i<l.length):ai (l.set i x) j=if j=i then x else ai l j:=by
 unfold ai;simp only[ez,mL];by_cases h:i=j
 ·subst h;simp[hi]
 ·rw[aI h,aI (λq=>h q.symm)]
def G9(f:Nat × Nat->Int):∀(l:List (Nat × Nat)) (y:List Int),(l.foldl (λy p=>y.set p.1 (f p)) y).length=y.length:=by
 intro l
 induction l with
 |nil=>intro y;rfl|cons p l ih=>intro y;rw[yw,ih];simp
def Kt(f:Nat × Nat->Int){i}:∀(l:List (Nat × Nat)) (y:List Int),(∀p∈l,p.1≠i)->ai (l.foldl (λy p=>y.set p.1 (f p)) y) i=ai y i:=by
 intro l
 induction l with
 |nil=>intro y _;rfl|cons p l ih=>intro y h;rw[yw,ih _ λq hq=>h q (fE _ hq)];have:=h p fW;unfold ai;simp only[ez];rw[JF this]
def Mu(st)(n):(p7 st n).length=n:=by unfold p7;rw[G9 (λp=>ai (st.1.getD p.2 []) n)];simp
def att{st}{n i}(h:i∉st.2):ai (p7 st n) i=0:=by
 unfold p7;rw[Kt (λp=>ai (st.1.getD p.2 []) n) _ _ λp hp q=>?_]
 ·unfold ai;rw[ez,Ni];split<;>rfl
 ·have:=List.fst_mem_of_mem_zipIdx hp;rw[q] at this;exact h this
def atv{c}{st}{n k p}(V:D2 c st)(hn:c<=n)(h:st.2[k]?=aa p):ai (p7 st n) p=ai (st.1.getD k []) n:=by
 unfold p7;obtain⟨hk,hp⟩:=aS.1 h;have hz:st.2.zipIdx=(st.2.zipIdx.take k)++(p,k)::(st.2.zipIdx.drop (k+1)):=by
  have AR:k<st.2.zipIdx.length:=by simpa using hk
  have:=(yz k st.2.zipIdx).symm;rw[Bu AR] at this;rw[ac7,hp] at this;simpa using this
 rw[hz,oj,yw,Kt (λp=>ai (st.1.getD p.2 []) n) _ _ λq hq e=>?_]
 ·rw[JW,aG rfl];rw[G9 (λp=>ai (st.1.getD p.2 []) n)];have:=V.lt k p h;simp;omega
 ·obtain⟨i,hi,rfl⟩:=By.1 hq;rw[TA,ac7] at e;simp only at e;have cS:k+1+i<st.2.length:=by simp at hi;omega
  have:=V.inc k (k+1+i) p _ ag h (aR cS);omega
def abW{f}{p}:∀n,p<n->(∀i,i<n->i≠p->f i=0)->cK ((List.range n).map f)=f p:=by
 intro n
 induction n with
 |zero=>intro h;omega|succ n ih=>
  intro hp h;rw[om,mw,aus];simp only[eC,vE,cK];rcases dW p n with q|q
  ·rw[ih q λi hi=>h i ag,h n ag ag];omega
  ·have:p=n:=(by omega);subst this;have hz:cK ((bM p).map f)=0:=by
    have:∀l:List Nat,(∀i∈l,f i=0)->cK (l.map f)=0:=by
     intro l
     induction l with
     |nil=>intro _;rfl|cons x l ih2=>intro hl;simp only[eC,cK];rw[hl x fW,ih2 λi hi=>hl i (fE _ hi)];rfl
    exact this _ λi hi=>h i (by have:=fQ.1 hi;omega) (by have:=fQ.1 hi;omega)
   rw[hz];omega
def atu{t}{n}(hl:∀a∈t,a.length=n+1)(ho:∀a∈t,∀x∈a,okF x)(PI:∀i a,(jg t n).2.length<=i->(jg t n).1[i]?=aa a->ai a n=0):
 ∀a∈t,Sat (p7 (jg t n) n) a:=by
 obtain⟨R,V⟩:=IC hl ho (ag:n<=n+1);refine aph hl ho (ag:n<=n+1) (by rw[Mu];omega) λa ha=>?_;obtain⟨k,hk,rfl⟩:=By.1 ha;have CA:=aR hk;unfold Sat res dot;rw[Mu];rcases dW k (jg t n).2.length with q|q
 ·have hp:=aR q;have aA:=V.lt k _ hp;rw[abW (p:=(jg t n).2[k]) n aA,atv V (aJ _) hp,V.val k _ hp k _ CA,aG rfl,lO hk,JA,Ts]
  ·exact acG _
  ·intro i hi bG;by_cases hm:i∈(jg t n).2
   ·obtain⟨j,hj,rfl⟩:=By.1 hm;rw[V.val j _ (aR hj) k _ CA,aI (λe=>bG (by subst e;rfl)),Nc]
   ·rw[att hm,JC]
 ·rw[PI k _ q CA];have hz:∀l:List Nat,(∀i∈l,i<n)->cK (l.map λi=>ai (p7 (jg t n) n) i * ai (jg t n).1[k] i)=0:=by
   intro l
   induction l with
   |nil=>intro _;rfl|cons x l ih=>intro h;simp only[eC,cK];rw[R.zero k _ q CA x (h x fW),Nc,ih λi hi=>h i (fE _ hi)];rfl
  rw[hz _ λi hi=>fQ.1 hi];exact acG _
end Go.NT
end
section
namespace Go.NT
abbrev eT:=BitVec 32
def dO(x:eT)(n:Nat):eT:=(x>>>n)|||(x<<<(32 - n))
def Fc:List Nat:=[
 0x428a2f98,0x71374491,0xb5c0fbcf,0xe9b5dba5,0x3956c25b,0x59f111f1,0x923f82a4,0xab1c5ed5,
 0xd807aa98,0x12835b01,0x243185be,0x550c7dc3,0x72be5d74,0x80deb1fe,0x9bdc06a7,0xc19bf174,
 0xe49b69c1,0xefbe4786,0x0fc19dc6,0x240ca1cc,0x2de92c6f,0x4a7484aa,0x5cb0a9dc,0x76f988da,
 0x983e5152,0xa831c66d,0xb00327c8,0xbf597fc7,0xc6e00bf3,0xd5a79147,0x06ca6351,0x14292967,
 0x27b70a85,0x2e1b2138,0x4d2c6dfc,0x53380d13,0x650a7354,0x766a0abb,0x81c2c92e,0x92722c85,
 0xa2bfe8a1,0xa81a664b,0xc24b8b70,0xc76c51a3,0xd192e819,0xd6990624,0xf40e3585,0x106aa070,
 0x19a4c116,0x1e376c08,0x2748774c,0x34b0bcb5,0x391c0cb3,0x4ed8aa4a,0x5b9cca4f,0x682e6ff3,
 0x748f82ee,0x78a5636f,0x84c87814,0x8cc70208,0x90befffa,0xa4506ceb,0xbef9a3f7,0xc67178f2]
def zv(t:Nat):eT:=BitVec.ofNat 32 (Fc.getD t 0)
def start:List eT:=[0x6a09e667#32,0xbb67ae85#32,0x3c6ef372#32,0xa54ff53a#32,0x510e527f#32,0x9b05688c#32,0x1f83d9ab#32,0x5be0cd19#32]
def dy(b:List UInt8)(i:Nat):UInt8:=b.getD i 0
def dg(w:List eT)(i:Nat):eT:=w.getD i 0#32
def qC(b:List UInt8)(i:Nat):eT:=BitVec.ofNat 32 (((dy b i).toNat * 256+(dy b (i+1)).toNat) * 256 * 256+(dy b (i+2)).toNat * 256+(dy b (i+3)).toNat)
def Fl(w:List eT)(t:Nat):eT:=
 dg w (t - 16)+(dO (dg w (t - 15)) 7^^^dO (dg w (t - 15)) 18^^^(dg w (t - 15))>>>3)+dg w (t - 7)+(dO (dg w (t - 2)) 17^^^dO (dg w (t - 2)) 19^^^(dg w (t - 2))>>>10)
def iG(b:List UInt8):Nat->List eT
 |0=>[]
 |n+1=>iG b n++[if n<16 then qC b (4 * n) else Fl (iG b n) n]
def IH(w:List eT)(v:List eT)(t:Nat):List eT:=
 let e:=dg v 4
 let a:=dg v 0
 let p:=dg v 7+(dO e 6^^^dO e 11^^^dO e 25)+((e&&&dg v 5)^^^(~~~e&&&dg v 6))+zv t+dg w t
 let q:=(dO a 2^^^dO a 13^^^dO a 22)+((a&&&dg v 1)^^^(a&&&dg v 2)^^^(dg v 1&&&dg v 2))
 [p+q,a,dg v 1,dg v 2,dg v 3+p,e,dg v 5,dg v 6]
def xe(s:List eT)(b:List UInt8):List eT:=
 let w:=iG b 64
 let v:=(bM 64).foldl (IH w) s
 Gu (·+·) s v
def po(n:Nat):Nat:=(119 - n%64)%64
def o8(n:Nat):List UInt8:=(bM 8).map λi=>UInt8.ofNat (n * 8/2^(8 * (7 - i)))
def ri(b:List UInt8):List UInt8:=b++0x80::a9 (po b.length) 0++o8 b.length
def gO:Nat->List eT->List UInt8->List eT
 |0,s,_=>s
 |n+1,s,b=>gO n (xe s (b.take 64)) (b.drop 64)
def jM(s:List eT):List UInt8:=s.flatMap λx=>[UInt8.ofNat (x.toNat/16777216),UInt8.ofNat (x.toNat/65536),UInt8.ofNat (x.toNat/256),UInt8.ofNat x.toNat]
def fe(b:List UInt8):List UInt8:=jM (gO ((ri b).length/64) start (ri b))
def gx(bp b:List UInt8):List UInt8:=fe (fe bp++b)
def agV(e f g:eT):g^^^(e&&&(f^^^g))=(e&&&f)^^^(~~~e&&&g):=by apply BitVec.eq_of_getLsbD_eq;intro i hi;simp only[BitVec.getLsbD_xor,BitVec.getLsbD_and,BitVec.getLsbD_not,hi,decide_true,ry];cases e.getLsbD i<;>cases f.getLsbD i<;>cases g.getLsbD i<;>rfl
def amy(a b c:eT):(a&&&b)|||(c&&&(a|||b))=(a&&&b)^^^(a&&&c)^^^(b&&&c):=by apply BitVec.eq_of_getLsbD_eq;intro i hi;simp only[BitVec.getLsbD_xor,BitVec.getLsbD_and,BitVec.getLsbD_or];cases a.getLsbD i<;>cases b.getLsbD i<;>cases c.getLsbD i<;>rfl
end Go.NT
end
section
namespace Go.NT
inductive Vl where
 |int (n:Int)
 |text (s:List UInt8)
 |list (l:List Vl)
def fO:Nat->Nat->List UInt8
 |0,u=>[UInt8.ofNat u]
 |k+1,u=>if u<128 then [UInt8.ofNat u] else UInt8.ofNat (u%128+128)::fO k (u/128)
def lY(n:Int):Nat:=if 0<=n then 2 * n.toNat else 2 * (-(n+1)).toNat+1
mutual
def dK:Vl->List UInt8
 | .int n=>1::fO 9 (lY n)
 | .text s=>2::(fO 9 s.length++s)
 | .list l=>3::(fO 9 l.length++iX l)
def iX:List Vl->List UInt8
 | []=>[]
 |v::l=>dK v++iX l
end
mutual
def gE:Vl->Nat
 | .list l=>ia l+1
 |_=>0
def ia:List Vl->Nat
 | []=>0
 |v::l=>max (gE v) (ia l)
end
def VR(l m):iX (l++m)=iX l++iX m:=by
 induction l with
 |nil=>simp[iX]|cons v l ih=>simp only[kL,iX,ih,tL]
def ZH{k u}(h:128<=u):fO (k+1) u=UInt8.ofNat (u%128+128)::fO k (u/128):=by rw[fO,aI ag]
def ZG{k u}(h:u<128):fO k u=[UInt8.ofNat u]:=by
 cases k with|zero=>rfl|succ k=>rw[fO,aG h]
end Go.NT
end
section
namespace Go.NT
def bX(n:Int):Bool:=decide (0<=n)&&decide (n<Qi)
def cW(ae:List (List Int))(owners:List Int):Int:=
 if decide (64<ae.length)||ae.any (λr=>decide (64<r.length)) then 2
 else if ae.length≠owners.length then 230
 else if (bM ae.length).all λi=> !(ae.getD i []).isEmpty&&decide ((ae.getD i []).length=(ae.getD 0 []).length)&&(decide (0<=ai owners i)&&decide (ai owners i<=63))&&(ae.getD i []).all bX then 0
 else 230
def bJ(ae:List (List Int)):Nat:=if ae.length=0 then 1 else (ae.getD 0 []).length
def fU(n:Nat):List Int:=1::a9 (n - 1) 0
def fJ:Int->List Int->Bool
 |_,[]=>ah
 |cZ,n::l=>decide (cZ<n)&&decide (n<=63)&&fJ n l
def eI(owners ar:List Int):List Nat:=(bM owners.length).filter λi=>ar.contains (ai owners i)
def fV(ae:List (List Int))(target:List Int):List (List Int):=(bM target.length).map λk=>ae.map (λr=>ai r k)++[ai target k]
def qk(ae:List (List Int))(target:List Int):Option (List Int):=
 let st:=jg (fV ae target) ae.length
 if (st.1.drop st.2.length).all (λa=>decide (ai a ae.length=0)) then aa (p7 st ae.length) else au
def su(n:Nat)(at_:List Nat)(l:List Int):List Int:=at_.zipIdx.foldl (λy p=>y.set p.1 (ai l p.2)) (a9 n 0)
def fL(ae:List (List Int))(owners ar:List Int):List Int × Bool × Int:=
 if cW ae owners≠0 then ([],az,cW ae owners)
 else if !fJ (-1) ar then ([],az,1)
 else match qk ((eI owners ar).map λi=>ae.getD i []) (fU (bJ ae)) with
  |none=>([],az,0)
  |some l=>(su ae.length (eI owners ar) l,ah,0)
structure Pr where
 aB:Int
 no:Int
 d:Int
 e:Int
def bI(x:Int):Bool:=decide (1<=x)&&elem x.toNat
def Pr.val(p:Pr):Vl:=.list [.int p.aB,.int p.no,.int p.d,.int p.e]
def uz(l:List Pr):Vl:=.list (l.map Pr.val)
def mU(b:List UInt8):Nat:=((b.take 8).foldl (λn c=>n * 256+c.toNat) 0%9223372036854775808)%Q
def ua(bp:List UInt8)(v:Vl):Nat:=mU (gx bp (dK v))
def Dl:List UInt8:=[98,105,110,100]
def yc:List UInt8:=[115,105,103,110]
def eU(c0:Int)(text:List UInt8)(l:List Pr)(aB:Int):Nat:=ua Dl (.list [.int c0,.text text,uz l,.int aB])
def kj(c0:Int)(text:List UInt8)(l:List Pr)(p:Pr):Nat:=p.d.toNat * tG p.e.toNat (eU c0 text l p.aB)%P
def gM(c0:Int)(text:List UInt8)(l:List Pr):Nat:=l.foldl (λx p=>x * kj c0 text l p%P) 1
def rn(point key:Int)(text:List UInt8):Nat:=ua yc (.list [.int point,.int key,.text text])
def gd:Int->List Pr->Bool
 |_,[]=>ah
 |cZ,x::l=>decide (cZ<x.aB)&&decide (x.aB<64)&&decide (0<=x.no)&&decide (x.no<4096)&&bI x.d&&bI x.e&&gd x.aB l
def cC(ae:List (List Int))(owners:List Int)(epoch:Int)(aj:List Int)(text:List UInt8)(l:List Pr):Int:=
 if cW ae owners≠0 then cW ae owners
 else if !(decide (0<=epoch)&&decide (epoch<=64)&&decide (aj.length=bJ ae)&&aj.all bI) then 380
 else if 65536<text.length then 2
 else if 64<l.length then 420
 else if !gd (-1) l then 420
 else match fL ae owners (l.map Pr.aB) with
  |(_,ok,e)=>if e≠0∨ok=az∨l.length=0 then 420 else 0
end Go.NT
end
section
namespace Go.NT
def bF(x:Nat)(n:Int):Nat:=tG x (fmod n).toNat
def OL(n):(fmod n).toNat<Q:=by have:=Er n;obtain⟨h1,h2⟩:=this;rw[BK] at h2;omega
def zD(x)(n):bF x n=x^(fmod n).toNat%P:=Rv (qa (OL n) aV)
def aad{x}(hx:elem x=ah)(n:Nat):bF x (n:Int)=x^n%P:=by
 have e:(fmod (n:Int)).toNat=n%Q:=by unfold fmod;rw[BK,<-Tp,dV]
 rw[zD,e,aox hx]
def aor(x)(n):bF x (fmod n)=bF x n:=by unfold bF;rw[Cf (Er n)]
def Bg{x}(hx:elem x=ah)(n):elem (bF x n)=ah:=by rw[zD];exact aij hx _
def Ix{x}{a b}(h:a%Qi=b%Qi):bF x a=bF x b:=by unfold bF fmod;rw[h]
def Cg(n):((fmod n).toNat:Int)=fmod n:=by have:=(Er n).1;omega
def Fw{x}(hx:elem x=ah)(a b):bF x (a+b)=bF x a * bF x b%P:=by
 have h:(a+b)%Qi=(((fmod a).toNat+(fmod b).toNat:Nat):Int)%Qi:=by rw[acL,Cg,Cg,acF];rfl
 rw[Ix h,aad hx,adF,tM,<-zD,<-zD]
def Iy{x}(hx:elem x=ah)(a b):bF x (a * b)=bF (bF x a) b:=by
 have h:(a * b)%Qi=(((fmod a).toNat * (fmod b).toNat:Nat):Int)%Qi:=by rw[yr,Cg,Cg,Bs];rfl
 rw[Ix h,aad hx,GD,zD (bF x a) b,zD x a,<-GC]
def aae(x):bF x 0=1:=by rw[zD];rfl
def aou{x}(hx:elem x=ah):bF x 1=x:=by rw[zD];show x^1%P=x;rw[Nat.pow_one,oo (elem_iff.1 hx).2.1]
def aot{x}(hx:elem x=ah)(a):bF x a * bF x (-a)%P=1:=by rw[<-Fw hx,Int.add_right_neg,aae]
end Go.NT
end
section
namespace Go.Proofs.YtnfciiiohoafaaaGreatDoor
open Go.AE Go.RowKit
def SH:List AV:=NT.start.map aT
def Is:List AV:=NT.Fc.map λ(n:Nat)=>AV.v (.int .u32 (n:Int))
def Gt:Nat->Option (List AV):=λg=>if g=0 then aa SH else if g=1 then aa Is else if g=1022017∨g=1022035∨g=1023037∨g=1023048∨g=1023063∨g=1023125∨g=1094104 then aa [] else au
def prims:FuncId->Option (List AV->aq->Option (AV × aq)):=λ_=>au
noncomputable abbrev W:=whole ao Gt prims
structure al(p:Prop):Prop where
 out:p
def im(n:Int):AV:=.v (.int .i64 n)
def xN(n:Int):List AV:=[im n]
def ints(l:List Int):List (List AV):=l.map xN
def dD(l):(ints l).length=l.length:=by simp[ints]
def YP(l)(i:Nat):(ints l)[i]?=(l[i]?).map xN:=by simp[ints]
def i64(n:Int):Prop:= -9223372036854775808<=n/\n<=9223372036854775807
def eD:gI ao 3=aa az:=by kernel_rfl
def fP:dt ao 3=aa 1:=by kernel_rfl
def Y8{h}{l}{i}{x}(hx:l[i]?=aa x):aH ao Gt h 3 (.elem 1 (ints l) i 0)=aa (im x):=by
 have hr:(ints l)[i]?=aa (xN x):=by rw[YP,hx];rfl
 rw[r8 eD hr];rfl
def aeM{h}{d}{ts}{ty:Nat}{s x}(bG:1000 * ty+d≠22017/\1000 * ty+d≠22035/\1000 * ty+d≠23037/\1000 * ty+d≠23048/\1000 * ty+d≠23063/\1000 * ty+d≠23125/\1000 * ty+d≠94104):sS ao Gt (aa d) h .append ts ty [s,x]=gN ao h ts s x:=by refine aeO ?_;unfold Jm Gt;rw[aI ag,aI ag,aI (by simp only[JM];omega)];rfl
def aeN{h}{d}{ts}{ty:Nat}{s x}(hy:1000 * ty+d=22017∨1000 * ty+d=22035∨1000 * ty+d=23037∨1000 * ty+d=23048∨1000 * ty+d=23063∨1000 * ty+d=23125∨1000 * ty+d=94104):sS ao Gt (aa d) h .append ts ty [s,x]=sC ao h ts s x:=by refine aeP ?_;unfold Jm Gt;rw[aI ag,aI ag,aG (by simp only[JM];omega)];rfl
def aM{α:Type}[BEq α][ReflBEq α](a:α):(a==a)=ah:=beq_self_eq_true a
def av{p:Prop}(h:p:=by kernel_rfl):p:=h
set_option linter.defProp false in
def gW:=aw goS (aw goT (aw goH (aw goU (aw @aeM (aw @aeN (aw @IE.eq_1 (aw @wE.eq_1 (aw @wE.eq_2 (aw @wE.eq_3 (aw @dS.eq_1 (aw @dS.eq_2 (aw @dS.eq_3 (aw @dS.eq_4 (aw @dS.eq_5 (aw @dS.eq_6 (aw @dS.eq_7 (aw @dS.eq_8 (aw @dS.eq_9 (aw @dS.eq_10 (aw @dS.eq_11 (aw @dS.eq_12 (aw @dS.eq_13 (aw @dS.eq_14 (aw @dS.eq_15 (aw @dS.eq_16 (aw @dS.eq_17 (aw @dS.eq_18 (aw @dS.eq_19 (aw @dS.eq_20 (aw @dS.eq_21 (aw @dS.eq_22 @dS.eq_23)))))))))))))))))))))))))))))))
def gS{p:Prop}(h:p:=by simp only[gW,reduceIte,Nat.reduceEqDiff,aM]):p:=h
def gR{p:Prop}(h:p:=by simp only[gW,reduceIte,Nat.reduceEqDiff,aM]<;>rfl):p:=h
def gA{p:Prop}(h:p:=by simp only[gW,reduceIte,Nat.reduceEqDiff,aM]<;>assumption):p:=h
def yS{p q:Prop}(x:q)(f:al q->p:=by intro h;(repeat' (first|simp(maxSteps:=9999999) (disch:=first|exact dZ|fail) only[gW,reduceIte,Nat.reduceEqDiff,aM, *,-h]|refine dX ?_ ?_<;>(intro _;try omega)));exact h.out;fail_if_success refine ?_):p:=f ⟨x⟩
def br{a0:Prop}{p q:Prop}(y0:a0)(x:q)(f:a0->al q->p:=by intro y0 h;(repeat' (first|simp(maxSteps:=9999999) (disch:=first|exact dZ|fail) only[gW,reduceIte,Nat.reduceEqDiff,aM, *,-h]|refine dX ?_ ?_<;>(intro _;try omega)));exact h.out;fail_if_success refine ?_):p:=f y0 ⟨x⟩
def lP{a0:Prop}{p:Prop}(y0:a0)(f:a0->p:=by intro y0;(repeat' (first|simp(maxSteps:=9999999) (disch:=first|exact dZ|fail) only[gW,reduceIte,Nat.reduceEqDiff,aM, *]|refine dX ?_ ?_<;>(intro _;try omega)));fail_if_success refine ?_):p:=f y0
def bK{a0 a1:Prop}{p q:Prop}(y0:a0)(y1:a1)(x:q)(f:a0->a1->al q->p:=by intro y0 y1 h;(repeat' (first|simp(maxSteps:=9999999) (disch:=first|exact dZ|fail) only[gW,reduceIte,Nat.reduceEqDiff,aM, *,-h]|refine dX ?_ ?_<;>(intro _;try omega)));exact h.out;fail_if_success refine ?_):p:=f y0 y1 ⟨x⟩
def jl{a0 a1:Prop}{p:Prop}(y0:a0)(y1:a1)(f:a0->a1->p:=by intro y0 y1;(repeat' (first|simp(maxSteps:=9999999) (disch:=first|exact dZ|fail) only[gW,reduceIte,Nat.reduceEqDiff,aM, *]|refine dX ?_ ?_<;>(intro _;try omega)));fail_if_success refine ?_):p:=f y0 y1
def cQ{a0 a1 a2:Prop}{p q:Prop}(y0:a0)(y1:a1)(y2:a2)(x:q)(f:a0->a1->a2->al q->p:=by intro y0 y1 y2 h;(repeat' (first|simp(maxSteps:=9999999) (disch:=first|exact dZ|fail) only[gW,reduceIte,Nat.reduceEqDiff,aM, *,-h]|refine dX ?_ ?_<;>(intro _;try omega)));exact h.out;fail_if_success refine ?_):p:=f y0 y1 y2 ⟨x⟩
def rN{a0 a1 a2:Prop}{p:Prop}(y0:a0)(y1:a1)(y2:a2)(f:a0->a1->a2->p:=by intro y0 y1 y2;(repeat' (first|simp(maxSteps:=9999999) (disch:=first|exact dZ|fail) only[gW,reduceIte,Nat.reduceEqDiff,aM, *]|refine dX ?_ ?_<;>(intro _;try omega)));fail_if_success refine ?_):p:=f y0 y1 y2
def bA{a0 a1 a2 a3:Prop}{p q:Prop}(y0:a0)(y1:a1)(y2:a2)(y3:a3)(x:q)(f:a0->a1->a2->a3->al q->p:=by intro y0 y1 y2 y3 h;(repeat' (first|simp(maxSteps:=9999999) (disch:=first|exact dZ|fail) only[gW,reduceIte,Nat.reduceEqDiff,aM, *,-h]|refine dX ?_ ?_<;>(intro _;try omega)));exact h.out;fail_if_success refine ?_):p:=f y0 y1 y2 y3 ⟨x⟩
def mT{a0 a1 a2 a3:Prop}{p:Prop}(y0:a0)(y1:a1)(y2:a2)(y3:a3)(f:a0->a1->a2->a3->p:=by intro y0 y1 y2 y3;(repeat' (first|simp(maxSteps:=9999999) (disch:=first|exact dZ|fail) only[gW,reduceIte,Nat.reduceEqDiff,aM, *]|refine dX ?_ ?_<;>(intro _;try omega)));fail_if_success refine ?_):p:=f y0 y1 y2 y3
def oT{a0:Prop}{p q:Prop}(y0:a0)(x:q)(f:a0->al q->p:=by intro y0 h;(repeat' (first|simp(maxSteps:=9999999) (disch:=first|exact dZ|fail) only[gW,reduceIte,Nat.reduceEqDiff,aM, *,-h]|(refine dX ?_ ?_<;>(intro _;try omega))|refine vx av ?_));exact h.out;fail_if_success refine ?_):p:=f y0 ⟨x⟩
def jm{a0:Prop}{p:Prop}(y0:a0)(f:a0->p:=by intro y0;(repeat' (first|simp(maxSteps:=9999999) (disch:=first|exact dZ|fail) only[gW,reduceIte,Nat.reduceEqDiff,aM, *]|(refine dX ?_ ?_<;>(intro _;try omega))|refine vx av ?_));fail_if_success refine ?_):p:=f y0
def OR{a0 a1:Prop}{p q:Prop}(y0:a0)(y1:a1)(x:q)(f:a0->a1->al q->p:=by intro y0 y1 h;(repeat' (first|simp(maxSteps:=9999999) (disch:=first|exact dZ|fail) only[gW,reduceIte,Nat.reduceEqDiff,aM, *,-h]|(refine dX ?_ ?_<;>(intro _;try omega))|refine vx av ?_));exact h.out;fail_if_success refine ?_):p:=f y0 y1 ⟨x⟩
def Ww{a0 a1:Prop}{p:Prop}(y0:a0)(y1:a1)(f:a0->a1->p:=by intro y0 y1;(repeat' (first|simp(maxSteps:=9999999) (disch:=first|exact dZ|fail) only[gW,reduceIte,Nat.reduceEqDiff,aM, *]|(refine dX ?_ ?_<;>(intro _;try omega))|refine vx av ?_));fail_if_success refine ?_):p:=f y0 y1
def OS{a0 a1 a2:Prop}{p q:Prop}(y0:a0)(y1:a1)(y2:a2)(x:q)(f:a0->a1->a2->al q->p:=by intro y0 y1 y2 h;(repeat' (first|simp(maxSteps:=9999999) (disch:=first|exact dZ|fail) only[gW,reduceIte,Nat.reduceEqDiff,aM, *,-h]|(refine dX ?_ ?_<;>(intro _;try omega))|refine vx av ?_));exact h.out;fail_if_success refine ?_):p:=f y0 y1 y2 ⟨x⟩
def xr{a0 a1 a2:Prop}{p:Prop}(y0:a0)(y1:a1)(y2:a2)(f:a0->a1->a2->p:=by intro y0 y1 y2;(repeat' (first|simp(maxSteps:=9999999) (disch:=first|exact dZ|fail) only[gW,reduceIte,Nat.reduceEqDiff,aM, *]|(refine dX ?_ ?_<;>(intro _;try omega))|refine vx av ?_));fail_if_success refine ?_):p:=f y0 y1 y2
def Kz{a0 a1 a2 a3:Prop}{p:Prop}(y0:a0)(y1:a1)(y2:a2)(y3:a3)(f:a0->a1->a2->a3->p:=by intro y0 y1 y2 y3;(repeat' (first|simp(maxSteps:=9999999) (disch:=first|exact dZ|fail) only[gW,reduceIte,Nat.reduceEqDiff,aM, *]|(refine dX ?_ ?_<;>(intro _;try omega))|refine vx av ?_));fail_if_success refine ?_):p:=f y0 y1 y2 y3
end Go.Proofs.YtnfciiiohoafaaaGreatDoor
end
section
namespace Go.Proofs.YtnfciiiohoafaaaGreatDoor
open Go.AE Go.NT
def FV(n):(n.tmod 1073741789<0->fmod n=n.tmod 1073741789+1073741789)/\(¬n.tmod 1073741789<0->fmod n=n.tmod 1073741789)/\ -1073741789<n.tmod 1073741789/\n.tmod 1073741789<1073741789:=by
 unfold fmod Qi;rcases Int.le_total 0 n with h|h
 ·rw[JB h];omega
 ·obtain⟨m,rfl⟩:∃m,n= -m:=⟨-n,by omega⟩;rw[Int.neg_tmod,JB ag];omega
def aa6:Tryz.f82.results.toList=[.tmp 2]:=av
def So:Tryz.f81.results.toList=[.tmp 2]:=av
def arT:Tryz.f28.results.toList=[.tmp 4]:=av
def arU:Tryz.f29.results.toList=[.tmp 4]:=av
def Lo(n:Int)(h:aq):W.call 82 [im n] h=aa (.ret (im (fmod n)),h):=by
 obtain⟨m1,m2,m3,m4⟩:=FV n;unfold im;refine cJ rfl Tryz.func82 rfl ?_;by_cases c:n.tmod 1073741789<0
 ·have e:=m1 c;clear m1 m2;exact jm @aa6
 ·have e:=m2 c;clear m1 m2;exact jm @aa6
def Ce(n):0<=fmod n/\fmod n<1073741789:=Er n
def FW{a:Int}(h:0<=a):a.tmod 1073741789=a%1073741789:=JB h
def Q6(a b:Int)(h:aq):W.call 29 [im a,im b] h=aa (.ret (im (cR a b)),h):=by
 have ca:=Lo a;have cb:=Lo b;obtain⟨a1,a2⟩:=Ce a;obtain⟨b1,b2⟩:=Ce b;have p0:0<=fmod a * fmod b:=Tm a1 b1;have p1:fmod a * fmod b<=1073741789 * 1073741789:=Tl ag ag b1 ag;have e:cR a b=(fmod a * fmod b).tmod 1073741789:=by rw[FW p0];rfl
 rw[e];unfold im at *
 refine cJ rfl Tryz.func29 rfl ?_;exact jm @arU
def vy(l:List Int):Int:=l.foldl cd 0
def abQ(l)(x):vy (l++[x])=cd (vy l) x:=by unfold vy;rw[oj];rfl
def abP(l):okF (vy l):=by
 rcases List.eq_nil_or_concat l with rfl|⟨l',x,rfl⟩
 ·exact Bd
 ·rw[List.concat_eq_append,abQ];exact Km _ _
def ft{α:Type}{l:List α}{i}{x}(h:l[i]?=aa x):l.take (i+1)=l.take i++[x]:=by obtain⟨hi,rfl⟩:=aS.1 h;rw[adq hi]
def auy(l:List Int)(k:Tok)(hl:l.length<=9223372036854775807)(h:aq):W.call 81 [.list k 1 (ints l)] h=aa (.ret (im (vy l)),h):=by
 have u23:=dQ;have a3:=eD;have s3:=fP;refine cJ rfl Tryz.func81 rfl ?_;refine OR @So @dD ?_;refine cz (λm e h'=>∃i:Nat,i<=l.length/\m=l.length - i/\e.get 6=.list k 1 (ints l)/\e.get 7=.v (.int .i64 (l.length:Nat))/\e.get 8=.v (.int .i64 i)/\e.get 3=.v (.int .i64 (vy (l.take i)))/\e.defers=[]/\h'=h) ?_ l.length _ _ ?_;rotate_left 1
 ·refine⟨0,cA _,rfl,?_,?_,?_,?_,?_,rfl⟩<;>(first|assumption|(simp only[gW,reduceIte,aO,aM,dD]<;>rfl))
 rintro m e h' ⟨i,hi,rfl,g6,g7,g8,g3,hd,rfl⟩;by_cases aA:i<l.length
 ·obtain⟨x,hx⟩:∃x,l[i]?=aa x:=⟨_,aR aA⟩;have hr:(ints l)[i]?=aa (xN x):=by rw[YP,hx];rfl
  have akJ:(i:Int)<((ints l).length:Int):=by rw[dD];omega
  have cx:=Lo x;obtain⟨x1,x2⟩:=Ce x;obtain⟨s1,s2⟩:=abP (l.take i);have s2:vy (l.take i)<1073741789:=s2;have e1:vy (l.take (i+1))=(vy (l.take i)+fmod x).tmod 1073741789:=by rw[ft hx,abQ,FW ag];show(fmod (vy (l.take i))+fmod x)%Qi=_;rw[Cf (abP _)];rfl
  unfold im at cx;generalize vy (l.take i)=s at *
  have PK:=Y8 (h:=h') hx;unfold im at PK;refine OS @So @dD @bh ?_;exact⟨l.length - (i+1),by omega,i+1,by omega,rfl,by trivial,by trivial,by simp,by rw[e1],by trivial,by trivial⟩
 ·have:i=l.length:=by omega
  subst this;rw[fC] at g3
  repeat' (first|simp(maxSteps:=999999)(disch:=first|exact dZ|fail)only[gW,reduceIte,aO,aM,So,dD,im, *]|(refine dX ?_ ?_<;>(intro _;try omega))|refine vx av ?_)
def aen(a b:Int)(h:aq):W.call 28 [im a,im b] h=aa (.ret (im (cd a b)),h):=by
 have c:=auy [a,b] .tight bE h;have e:vy [a,b]=cd a b:=by show cd (cd 0 a) b=cd a b;rw[B8,B8,B8,Gf,Int.emod_add_emod]
 rw[e] at c;have bl:gf ao 23 2 [(0,im a),(1,im b)]=aa (.list .tight 1 (ints [a,b])):=av;unfold im at *
 refine cJ rfl Tryz.func28 rfl ?_;exact jm @arT
def Rx(a):∀k:Nat,(a%Qi)^k%Qi=a^k%Qi:=by
 intro k
 induction k with
 |zero=>simp|succ k ih=>rw[yu,yu,Bs,ih,DP _ (DO _),<-Bs]
def amV(n)(k):(((fmod n).toNat^k%Q:Nat):Int)=n^k%Qi:=by rw[Tp,Int.natCast_pow,Cg,<-BK];exact Rx n k
def rD(r:Int)(l:Nat)(s x:Int):Prop:=okF x/\(x * s^l)%Qi=r
def rD.Da{r s x}{l}(h:rD r l s x)(ho:l%2=1):rD r (l/2) (cR s s) (cR x s):=by
 refine⟨G8 _ _,?_⟩;rw[<-h.2,tY,tY,Bs,Rx,DP _ (DO _),<-Bs,yq];congr 2;have e:l=2 * (l/2)+1:=by omega
 rw[show s^l=s^(2 * (l/2)+1) by rw[<-e],yu,Ge,zW,show s * s=s^2 by rw[yu,yu,Nd,Gd]]
def rD.even{r s x}{l}(h:rD r l s x)(ho:l%2=0):rD r (l/2) (cR s s) x:=by
 refine⟨h.1,?_⟩;rw[<-h.2,tY,Bs,Rx,<-Bs];congr 2;have e:l=2 * (l/2):=by omega
 rw[show s^l=s^(2 * (l/2)) by rw[<-e],Ge,show s * s=s^2 by rw[yu,yu,Nd,Gd]]
def rD.done{r s x}(h:rD r 0 s x):x=r:=by rw[<-h.2,Nd,JA];exact(M8 h.1.1 h.1.2).symm
def rD.start(n):rD (eK n) 1073741787 n 1:=by
 refine⟨by unfold okF;decide,?_⟩;have e:(eK n)=(((fmod n).toNat^(Q - 2)%Q:Nat):Int):=by unfold eK;rw[Kn aV aV aV,D0]
 rw[e,amV,Gd];rfl
def IY:Tryz.f201.results.toList=[.tmp 2,.tmp 3]:=av
def alw(n:Int)(h:aq):W.call 201 [im n] h=aa (.ret (.tuple [im (if fmod n=0 then 0 else eK n),im (if fmod n=0 then 90 else 0)]),h):=by
 have cn:=Lo n;by_cases hz:fmod n=0
 ·rw[aG hz,aG hz];unfold im at *
  refine cJ rfl adU rfl ?_;exact jm @IY
 ·rw[aI hz,aI hz];have P0:=al.mk (rD.start n);unfold im at *
  refine cJ rfl adU rfl ?_;refine oT @IY ?_;refine cz (λm e h'=>∃(s x:Int),m<=1073741787/\rD (eK n) m s x/\e.get 4=.v (.int .i64 (m:Nat))/\e.get 5=.v (.int .i64 s)/\e.get 2=.v (.int .i64 x)/\e.defers=[]/\h'=h) ?_ 1073741787 _ _ ?_;rotate_left 1
  ·exact⟨n,1,aJ _,P0.out,by exact gR,by exact gR,by exact gR,by exact gR,rfl⟩
  rintro l e h' ⟨s,x,hl,hI,g4,g5,g2,hd,rfl⟩;have kI:=al.mk hI;have c1:=Q6 x s;have c2:=Q6 s s;unfold im at c1 c2;by_cases h0:l=0
  ·subst h0;have hx:=hI.done;clear hI;exact jm @IY
  ·have hdiv:((l:Nat):Int).tdiv 2=((l/2:Nat):Int):=(by rw[acR ag];omega);have AW:((l:Nat):Int).tmod 2=((l%2:Nat):Int):=(by rw[JB ag];omega);have gG:¬((l:Nat):Int)=0:=(by omega);clear hI;rcases BF l with ho|ho
   ·rw[ho] at AW;refine oT @IY ?_;exact⟨l/2,by omega,_,_,by omega,kI.out.even ho,by trivial,by trivial,by trivial,by trivial,by trivial⟩
   ·rw[ho] at AW;refine oT @IY ?_;exact⟨l/2,by omega,_,_,by omega,kI.out.Da ho,by trivial,by trivial,by trivial,by trivial,by trivial⟩
def Ms(b:Bool):Nat:=if b=ah then 0 else 1
def sK(x a n:Nat)(sq:Bool):Prop:=1<=a/\n%2=1/\oL a n/\a<=P/\n<=P/\mu x P%2=(mu a n+Ms sq)%2
def abh(b):(Ms (!b)+1)%2=Ms b%2:=by cases b<;>rfl
def sK.even{x a n}{sq}(h:sK x a n sq)(he:a%2=0):sK x (a/2) n (if n%8=3∨n%8=5 then !sq else sq):=by
 obtain⟨h1,h2,h3,h4,h5,h6⟩:=h;have e:a=2 * (a/2):=by omega
 have hc:oL (2 * (a/2)) n:=by rw[<-e];exact h3
 have hs:=at5 h2 hc;rw[<-e] at hs;refine⟨ag,h2,adr hc,by omega,h5,?_⟩;rw[h6];have:=abh sq;split at hs<;>rename_i q
 ·rw[aG q];omega
 ·rw[aI q];omega
def sK.Da{x a n}{sq}(h:sK x a n sq)(ho:a%2=1)(hg:1<a):sK x (n%a) a (if a%4=3/\n%4=3 then !sq else sq):=by
 obtain⟨h1,h2,h3,h4,h5,h6⟩:=h;have hs:=at7 h2 ho h3;have hl:=nj n (ag:0<a);have h0:n%a≠0:=λq=>by have hd:=Gx q;have:=Nat.dvd_gcd (Nat.dvd_refl a) hd;rw[h3] at this;have:=DY aV this;omega
 refine⟨ag,ho,ahD h3,by omega,h4,?_⟩;rw[h6];have:=abh sq;split at hs<;>rename_i q
 ·rw[aG q];omega
 ·rw[aI q];omega
def sK.done{x n}{sq}(h0:1<=x)(hx:x<P)(h:sK x 1 n sq):elem x=sq:=by
 obtain⟨-,h2,-,-,-,h6⟩:=h;rw[amO (h:=n/2) ag] at h6;rw[aii h0 hx];cases sq
 ·rw[cE];rw[h6];decide
 ·rw[bQ];rw[h6];rfl
def sK.start{x}(h0:1<=x)(hx:x<P):sK x x P ah:=⟨h0,by decide,TR.coprime h0 hx,nJ hx,aJ _,by rw[show Ms ah=0 from rfl,BC]⟩
def vu:Tryz.f46.results.toList=[.tmp 2]:=av
def Jl(a b):((a:Nat):Int).tdiv (b:Nat)=((a/b:Nat):Int):=by rw[acR ag];simp
def ph(a b):((a:Nat):Int).tmod (b:Nat)=((a%b:Nat):Int):=by rw[JB ag];simp
def Kh{x}(h:x<1∨2147483579<=x):bI x=az:=by
 unfold bI;rcases h with h|h
 ·rw[cE ag];rfl
 ·have:elem x.toNat=az:=by rw[Bool.eq_false_iff];intro q;have:=(elem_iff.1 q).2.1;have hP:P=2147483579:=rfl;omega
  rw[this,Bool.and_false]
def MN(x:Int)(h:aq):W.call 46 [im x] h=aa (.ret (.v (.bool (bI x))),h):=by
 by_cases hx:x<1
 ·rw[Kh (.inl hx)];unfold im;refine cJ rfl Uf rfl ?_;exact jm @vu
 by_cases hy:2147483579<=x
 ·rw[Kh (.inr hy)];unfold im;refine cJ rfl Uf rfl ?_;exact jm @vu
 obtain⟨n0,rfl⟩:∃n:Nat,x=n:=⟨x.toNat,by omega⟩;have h1:1<=n0:=by omega
 have h2:n0<P:=by have:P=2147483579:=rfl;omega
 have xE:∀{m:Nat} {sq:Bool},sK n0 1 m sq->bI (n0:Int)=sq:=λhh=>by unfold bI;rw[bQ ag,dV,hh.done h1 h2];rfl
 have k0:=al.mk (sK.start h1 h2);have kf:=al.mk @xE;clear xE;unfold im;generalize bI (n0:Int)=res at *
 have hnP:(n0:Int)<2147483579:=by omega
 clear h2;refine cJ rfl Uf rfl ?_;refine oT @vu ?_;refine cz (λm e h'=>∃(n:Nat) (sq:Bool),sK n0 m n sq/\e.get 0=.v (.int .i64 (m:Nat))/\e.get 3=.v (.int .i64 (n:Nat))/\e.get 4=.v (.bool sq)/\e.defers=[]/\h'=h) ?_ n0 _ _ ?_;rotate_left 1
 ·exact⟨2147483579,ah,k0.out,by exact gR,by exact gR,by exact gR,by exact gR,rfl⟩
 rintro a e h' ⟨n,sq,hI,g0,g3,g4,hd,rfl⟩;have kI:=al.mk hI;have xw:=hI.1;have ha4:a<=2147483579:=hI.2.2.2.1;by_cases EM:a=1
 ·subst EM;have hr:=kf.out hI;clear hI;exact jm @vu
 have HA:(1:Int)<(a:Int):=by omega
 clear hI;refine oT @vu ?_;refine cz (λm e Wx=>∃(sq:Bool),m<=a/\sK n0 m n sq/\e.get 0=.v (.int .i64 (m:Nat))/\e.get 3=.v (.int .i64 (n:Nat))/\e.get 4=.v (.bool sq)/\e.defers=[]/\Wx=h') ?_ a _ _ ?_;rotate_left 1
 ·exact⟨sq,aJ _,kI.out,by first|assumption|(exact gA),by first|assumption|(exact gA),by first|assumption|(exact gA),by first|assumption|(exact gA),rfl⟩
 clear g0 g3 g4 hd kI sq;rintro b e Wx ⟨sq,AH,hI,g0,g3,g4,hd,rfl⟩;have kI:=al.mk hI;have lu:=hI.1;have uj:=hI.2.1;have awv:n<=2147483579:=hI.2.2.2.2.1;clear hI;have m2:((b:Nat):Int).tmod 2=((b%2:Nat):Int):=ph b 2;have d2:((b:Nat):Int).tdiv 2=((b/2:Nat):Int):=Jl b 2;have m8:((n:Nat):Int).tmod 8=((n%8:Nat):Int):=ph n 8;have mb4:((b:Nat):Int).tmod 4=((b%4:Nat):Int):=ph b 4;have mn4:((n:Nat):Int).tmod 4=((n%4:Nat):Int):=ph n 4;have mnb:=ph n b;rcases BF b with hb|hb
 ·have hE:=kI.out.even hb;rw[hb,tK] at m2;by_cases c3:n%8=3
  ·rw[aG (.inl c3)] at hE;have m8:((n:Nat):Int).tmod 8=3:=(by rw[m8,c3];rfl);have kE:=al.mk hE;clear hE;refine oT @vu ?_;exact⟨b/2,by omega,_,by omega,kE.out,(by first|exact aU|exact rfl),(by first|exact aU|exact rfl),(by first|exact aU|exact rfl),(by first|exact aU|exact rfl),(by first|exact aU|exact rfl)⟩
  ·by_cases c5:n%8=5
   ·rw[aG (.inr c5)] at hE;have m8:((n:Nat):Int).tmod 8=5:=(by rw[m8,c5];rfl);have kE:=al.mk hE;clear hE;refine oT @vu ?_;exact⟨b/2,by omega,_,by omega,kE.out,(by first|exact aU|exact rfl),(by first|exact aU|exact rfl),(by first|exact aU|exact rfl),(by first|exact aU|exact rfl),(by first|exact aU|exact rfl)⟩
   ·rw[aI ag] at hE;have kE:=al.mk hE;have c3':¬(((n%8:Nat):Int)=3):=(by omega);have c5':¬(((n%8:Nat):Int)=5):=(by omega);clear hE;refine oT @vu ?_;exact⟨b/2,by omega,_,by omega,kE.out,(by first|exact aU|exact rfl),(by first|exact aU|exact rfl),(by first|exact aU|exact rfl),(by first|exact aU|exact rfl),(by first|exact aU|exact rfl)⟩
 ·rw[hb,Tq] at m2;by_cases aj6:b=1
  ·subst aj6;have hr:=kf.out kI.out;exact jm @vu
  ·have hO:=kI.out.Da hb ag;have bG:¬((b:Nat):Int)=1:=(by omega);have hnz:¬((b:Nat):Int)=0:=(by omega);have aA:=nj n (ag:0<b);by_cases c4:b%4=3
   ·by_cases c5:n%4=3
    ·rw[aG ⟨c4,c5⟩] at hO;have mb4:((b:Nat):Int).tmod 4=3:=(by rw[mb4,c4];rfl);have mn4:((n:Nat):Int).tmod 4=3:=(by rw[mn4,c5];rfl);have kO:=al.mk hO;clear hO;refine oT @vu ?_;exact⟨n%b,by omega,b,_,kO.out,(by first|exact aU|exact rfl),(by first|exact aU|exact rfl),(by first|exact aU|exact rfl),(by first|exact aU|exact rfl),(by first|exact aU|exact rfl)⟩
    ·rw[aI ag] at hO;have mb4:((b:Nat):Int).tmod 4=3:=(by rw[mb4,c4];rfl);have c5':¬(((n%4:Nat):Int)=3):=(by omega);have kO:=al.mk hO;clear hO;refine oT @vu ?_;exact⟨n%b,by omega,b,_,kO.out,(by first|exact aU|exact rfl),(by first|exact aU|exact rfl),(by first|exact aU|exact rfl),(by first|exact aU|exact rfl),(by first|exact aU|exact rfl)⟩
   ·rw[aI ag] at hO;have c4':¬(((b%4:Nat):Int)=3):=(by omega);have kO:=al.mk hO;clear hO;refine oT @vu ?_;exact⟨n%b,by omega,b,_,kO.out,(by first|exact aU|exact rfl),(by first|exact aU|exact rfl),(by first|exact aU|exact rfl),(by first|exact aU|exact rfl),(by first|exact aU|exact rfl)⟩
def aaM:Tryz.f138.results.toList=[.tmp 2]:=av
def arY:Tryz.f65.results.toList=[.tmp 4]:=av
def arZ:Tryz.f66.results.toList=[.tmp 4]:=av
def Md:Tryz.f215.results.toList=[.tmp 4]:=av
def aaW:Tryz.f194.results.toList=[.tmp 2,.tmp 3]:=av
def aaS:Tryz.f171.results.toList=[.tmp 2]:=av
def L0:Tryz.f150.results.toList=[.tmp 4]:=av
def Sr:Tryz.f94.results.toList=[.tmp 2]:=av
def aaK:Tryz.f132.results.toList=[.tmp 4,.tmp 5]:=av
def R1:Tryz.f140.results.toList=[.tmp 4,.tmp 5]:=av
def IF(n:Int)(h:aq):W.call 138 [im n] h=aa (.ret (im (fmod n)),h):=by
 obtain⟨m1,m2,m3,m4⟩:=FV n;unfold im;refine cJ rfl Tryz.func138 rfl ?_;by_cases c:n.tmod 1073741789<0
 ·have e:=m1 c;clear m1 m2;exact jm @aaM
 ·have e:=m2 c;clear m1 m2;exact jm @aaM
def aiI(n:Int)(h:aq):W.call 171 [im n] h=aa (.ret (im (fmod n)),h):=by
 obtain⟨m1,m2,m3,m4⟩:=FV n;unfold im;refine cJ rfl Tryz.func171 rfl ?_;by_cases c:n.tmod 1073741789<0
 ·have e:=m1 c;clear m1 m2;exact jm @aaS
 ·have e:=m2 c;clear m1 m2;exact jm @aaS
def RS(a b:Int)(h:aq):W.call 66 [im a,im b] h=aa (.ret (im (cR a b)),h):=by
 have ca:=IF a;have cb:=IF b;obtain⟨a1,a2⟩:=Ce a;obtain⟨b1,b2⟩:=Ce b;have p0:0<=fmod a * fmod b:=Tm a1 b1;have p1:fmod a * fmod b<=1073741789 * 1073741789:=Tl ag ag b1 ag;have e:cR a b=(fmod a * fmod b).tmod 1073741789:=by rw[FW p0];rfl
 rw[e];unfold im at *
 refine cJ rfl Tryz.func66 rfl ?_;exact jm @arZ
def ao4(a b:Int)(h:aq):W.call 65 [im a,im b] h=aa (.ret (im (cd a b)),h):=by
 have ca:=IF a;have cb:=IF b;obtain⟨a1,a2⟩:=Ce a;obtain⟨b1,b2⟩:=Ce b;have e:cd a b=(fmod a+fmod b).tmod 1073741789:=by rw[FW ag];rfl
 rw[e];unfold im at *
 refine cJ rfl Tryz.func65 rfl ?_;exact jm @arY
def arj(r a:Int)(n:Nat)(hn:n<=1073741787)(hI:rD r n a 1)(h:aq):W.call 215 [im a,im (n:Nat)] h=aa (.ret (im r),h):=by
 have P0:=al.mk hI;clear hI;unfold im at *
 refine cJ rfl Tryz.func215 rfl ?_;refine oT @Md ?_;refine cz (λm e h'=>∃(s x:Int),m<=1073741787/\rD r m s x/\e.get 1=.v (.int .i64 (m:Nat))/\e.get 0=.v (.int .i64 s)/\e.get 5=.v (.int .i64 x)/\e.defers=[]/\h'=h) ?_ n _ _ ?_;rotate_left 1
 ·exact⟨a,1,hn,P0.out,by exact gR,by exact gR,by exact gR,by exact gR,rfl⟩
 rintro l e h' ⟨s,x,hl,hI,g1,g0,g5,hd,rfl⟩;have kI:=al.mk hI;have c1:=RS x s;have c2:=RS s s;unfold im at c1 c2;by_cases h0:l=0
 ·subst h0;have hx:=hI.done;clear hI;exact jm @Md
 ·have hdiv:((l:Nat):Int).tdiv 2=((l/2:Nat):Int):=Jl l 2;have AW:((l:Nat):Int).tmod 2=((l%2:Nat):Int):=ph l 2;have gG:(0:Int)<((l:Nat):Int):=by omega
  clear hI;rcases BF l with ho|ho
  ·rw[ho,tK] at AW;refine oT @Md ?_;exact⟨l/2,by omega,_,_,by omega,kI.out.even ho,(by first|exact aU|exact rfl),(by first|exact aU|exact rfl),(by first|exact aU|exact rfl),(by first|exact aU|exact rfl),(by first|exact aU|exact rfl)⟩
  ·rw[ho,Tq] at AW;refine oT @Md ?_;exact⟨l/2,by omega,_,_,by omega,kI.out.Da ho,(by first|exact aU|exact rfl),(by first|exact aU|exact rfl),(by first|exact aU|exact rfl),(by first|exact aU|exact rfl),(by first|exact aU|exact rfl)⟩
def ap8(n:Int)(h:aq):W.call 194 [im n] h=aa (.ret (.tuple [im (if fmod n=0 then 0 else eK n),im (if fmod n=0 then 90 else 0)]),h):=by
 have cn:=IF n;have cp:=arj (eK n) n 1073741787 (aJ _) (rD.start n);by_cases hz:fmod n=0
 ·rw[aG hz,aG hz];clear cp;unfold im at *
  refine cJ rfl adT rfl ?_;exact jm @aaW
 ·rw[aI hz,aI hz];have cp:∀h,W.call 215 [.v (.int .i64 n),.v (.int .i64 1073741787)] h=aa (.ret (.v (.int .i64 (eK n))),h):=cp;unfold im at *
  refine cJ rfl adT rfl ?_;exact jm @aaW
def ot(r n a c:Nat):Prop:=c<P/\a<P/\c * a^n%P=r
def ot.Da{r n a c}(h:ot r n a c)(ho:n%2=1):ot r (n/2) (a * a%P) (c * a%P):=by refine⟨nj _ aV,nj _ aV,?_⟩;rw[<-h.2.2,TH,tM,<-GC,<-tM,ND,<-TK,<-GD,<-adH,show(2 * (n/2)).succ=n by omega]
def ot.even{r n a c}(h:ot r n a c)(ho:n%2=0):ot r (n/2) (a * a%P) c:=by refine⟨h.1,nj _ aV,?_⟩;rw[<-h.2.2,tM,<-GC,<-tM,<-TK,<-GD,(ag:2 * (n/2)=n)]
def ot.done{r a c}(h:ot r 0 a c):c=r:=by rw[<-h.2.2,Nat.pow_zero,oN,oo h.1]
def ot.start{a n}(ha:a<P)(hn:n<2^31):ot (tG a n) n a 1:=⟨aV,ha,by rw[Rv hn,D0]⟩
def ot.bound{r n a c}(h:ot r n a c):c * a<=4611685722074649241/\a * a<=4611685722074649241:=by obtain⟨h1,h2,-⟩:=h;have h1:c<=2147483579:=nJ h1;have h2:a<=2147483579:=nJ h2;exact⟨qG h1 h2,qG h2 h2⟩
def aaH(r a n:Nat)(hn:n<=2147483647)(hI:ot r n a 1)(h:aq):W.call 150 [im (a:Nat),im (n:Nat)] h=aa (.ret (im (r:Nat)),h):=by
 have P0:=al.mk hI;clear hI;unfold im at *
 refine cJ rfl Tryz.func150 rfl ?_;refine oT @L0 ?_;refine cz (λm e h'=>∃(s x:Nat),m<=2147483647/\ot r m s x/\e.get 1=.v (.int .i64 (m:Nat))/\e.get 0=.v (.int .i64 (s:Nat))/\e.get 5=.v (.int .i64 (x:Nat))/\e.defers=[]/\h'=h) ?_ n _ _ ?_;rotate_left 1
 ·exact⟨a,1,hn,P0.out,by exact gR,by exact gR,by exact gR,by exact gR,rfl⟩
 rintro l e h' ⟨s,x,hl,hI,g1,g0,g5,hd,rfl⟩;have kI:=al.mk hI;obtain⟨b1,b2⟩:=hI.bound;by_cases h0:l=0
 ·subst h0;have hx:=hI.done;clear hI;exact jm @L0
 ·have hdiv:((l:Nat):Int).tdiv 2=((l/2:Nat):Int):=Jl l 2;have AW:((l:Nat):Int).tmod 2=((l%2:Nat):Int):=ph l 2;have gG:(0:Int)<((l:Nat):Int):=by omega
  have e1:((x:Nat):Int) * (s:Nat)=((x * s:Nat):Int):=(yr _ _).symm;have e2:((s:Nat):Int) * (s:Nat)=((s * s:Nat):Int):=(yr _ _).symm;have e3:((x * s:Nat):Int).tmod 2147483579=((x * s%P:Nat):Int):=ph (x * s) 2147483579;have e4:((s * s:Nat):Int).tmod 2147483579=((s * s%P:Nat):Int):=ph (s * s) 2147483579;clear hI;rcases BF l with ho|ho
  ·rw[ho,tK] at AW;refine oT @L0 ?_;exact⟨l/2,by omega,_,_,by omega,kI.out.even ho,(by first|exact aU|exact rfl),(by first|exact aU|exact rfl),(by first|exact aU|exact rfl),(by first|exact aU|exact rfl),(by first|exact aU|exact rfl)⟩
  ·rw[ho,Tq] at AW;refine oT @L0 ?_;exact⟨l/2,by omega,_,_,by omega,kI.out.Da ho,(by first|exact aU|exact rfl),(by first|exact aU|exact rfl),(by first|exact aU|exact rfl),(by first|exact aU|exact rfl),(by first|exact aU|exact rfl)⟩
def eR(a n:Int):Int:=if bI a=ah then ((bF a.toNat n:Nat):Int) else 0
def mS(a:Int):Int:=if bI a=ah then 0 else 100
def jk(a b:Int):Int:=if bI a=ah/\bI b=ah then ((a.toNat * b.toNat%P:Nat):Int) else 0
def nP(a b:Int):Int:=if bI a=ah/\bI b=ah then 0 else 100
def BZ{a}(h:bI a=ah):∃n:Nat,a=n/\elem n=ah/\1<=n/\n<P:=by unfold bI at h;rw[bC,decide_eq_true_eq] at h;have:=elem_iff.1 h.2;exact⟨a.toNat,by omega,h.2,this.1,this.2.1⟩
def Mp(x:Int)(h:aq):W.call 94 [im x] h=aa (.ret (.v (.bool (bI x))),h):=by
 by_cases hx:x<1
 ·rw[Kh (.inl hx)];unfold im;refine cJ rfl Uh rfl ?_;exact jm @Sr
 by_cases hy:2147483579<=x
 ·rw[Kh (.inr hy)];unfold im;refine cJ rfl Uh rfl ?_;exact jm @Sr
 obtain⟨n0,rfl⟩:∃n:Nat,x=n:=⟨x.toNat,by omega⟩;have h2:n0<P:=by have:P=2147483579:=rfl;omega
 have cp:∀h,W.call 150 [.v (.int .i64 (n0:Nat)),.v (.int .i64 1073741789)] h=aa (.ret (.v (.int .i64 (tG n0 Q:Nat))),h):=aaH (tG n0 Q) n0 1073741789 aV (ot.start h2 aV);have e:bI (n0:Int)=decide (((tG n0 Q:Nat):Int)=1):=by
  unfold bI elem;rw[bQ ag,dV,bQ ag,bQ h2,ry,ry,ry,F1,decide_eq_true_eq];constructor
  ·intro q;rw[jW q];rfl
  ·intro q;have:tG n0 Q=1:=(by omega);rw[this];rfl
 rw[e];generalize tG n0 Q=r at *
 have YF:(1:Int)<=(n0:Int):=by omega
 have hy1:(n0:Int)<2147483579:=by omega
 clear e h2 hx hy;unfold im;refine cJ rfl Uh rfl ?_;exact jm @Sr
def Sk:Tryz.f69.results.toList=[.tmp 4,.tmp 5]:=av
def Sp:Tryz.f84.results.toList=[.tmp 2]:=av
def mul_tmod{a b}(ha:a<P)(hb:b<P):((a:Nat):Int) * (b:Nat)<=4611685722074649241/\(0:Int)<=((a:Nat):Int) * (b:Nat)/\(((a:Nat):Int) * (b:Nat)).tmod 2147483579=((a * b%P:Nat):Int):=by have h1:a<=2147483579:=nJ ha;have h2:b<=2147483579:=nJ hb;have:=qG h1 h2;have e:((a:Nat):Int) * (b:Nat)=((a * b:Nat):Int):=(yr _ _).symm;rw[e];exact⟨ag,by omega,ph (a * b) 2147483579⟩
def ajw(a b:Int)(h:aq):W.call 69 [im a,im b] h=aa (.ret (.tuple [im (jk a b),im (nP a b)]),h):=by
 have ca:=MN a;have cb:=MN b;unfold jk nP;by_cases ha:bI a=ah
 ·by_cases hb:bI b=ah
  ·rw[aG ⟨ha,hb⟩,aG ⟨ha,hb⟩];rw[ha] at ca;rw[hb] at cb;obtain⟨x,rfl,-,-,x2⟩:=BZ ha;obtain⟨y,rfl,-,-,y2⟩:=BZ hb;obtain⟨m1,m2,-⟩:=mul_tmod x2 y2;simp only[dV];have e1:((x:Nat):Int) * (y:Nat)=((x * y:Nat):Int):=(yr _ _).symm;have e3:((x * y:Nat):Int).tmod 2147483579=((x * y%P:Nat):Int):=ph (x * y) 2147483579;rw[e1] at m1 m2;have m4:x * y%P<2147483579:=nj _ aV;clear ha hb;unfold im at *
   refine cJ rfl Ug rfl ?_;exact jm @Sk
  ·have iB:bI b=az:=(by simpa using hb);rw[aI (λq=>hb q.2),aI (λq=>hb q.2)];rw[ha] at ca;rw[iB] at cb;unfold im at *
   refine cJ rfl Ug rfl ?_;exact jm @Sk
 ·have nu:bI a=az:=by simpa using ha
  rw[aI (λq=>ha q.1),aI (λq=>ha q.1)];rw[nu] at ca;unfold im at *
  refine cJ rfl Ug rfl ?_;exact jm @Sk
def vi(l:List Int):Int:=l.foldl (λa x=>(a * (x.tmod 1073741789+1073741789)).tmod 1073741789) 1
def alW(l)(x):vi (l++[x])=(vi l * (x.tmod 1073741789+1073741789)).tmod 1073741789:=by unfold vi;rw[oj];rfl
def alV(n):vi [n]=fmod n:=by
 obtain⟨m1,m2,m3,m4⟩:=FV n;show(1 * (n.tmod 1073741789+1073741789)).tmod 1073741789=fmod n;rw[Gd,FW ag];by_cases c:n.tmod 1073741789<0
 ·rw[m1 c];omega
 ·rw[m2 c];omega
def Ze{a x:Int}(h:0<=a/\a<1073741789):0<=a * (x.tmod 1073741789+1073741789)/\a * (x.tmod 1073741789+1073741789)<=2305843013508661242/\0<=(a * (x.tmod 1073741789+1073741789)).tmod 1073741789/\(a * (x.tmod 1073741789+1073741789)).tmod 1073741789<1073741789:=by obtain⟨-,-,m3,m4⟩:=FV x;have p0:0<=a * (x.tmod 1073741789+1073741789):=Tm h.1 ag;have p1:a * (x.tmod 1073741789+1073741789)<=1073741789 * 2147483578:=Tl ag ag ag ag;rw[FW p0];omega
def alU(l):0<=vi l/\vi l<1073741789:=by
 unfold vi;have key:∀(l:List Int) (a:Int),0<=a/\a<1073741789->0<=l.foldl (λa x=>(a * (x.tmod 1073741789+1073741789)).tmod 1073741789) a/\l.foldl (λa x=>(a * (x.tmod 1073741789+1073741789)).tmod 1073741789) a<1073741789:=by
  intro l
  induction l with
  |nil=>intro a h;exact h|cons x l ih=>intro a h;exact ih _ (Ze h).2.2
 exact key l 1 ⟨aV,by decide⟩
def alX(l:List Int)(k:Tok)(hl:l.length<=9223372036854775807)(h:aq):W.call 84 [.list k 1 (ints l)] h=aa (.ret (im (vi l)),h):=by
 have u23:=dQ;have a3:=eD;have s3:=fP;refine cJ rfl Tryz.func84 rfl ?_;refine OR @Sp @dD ?_;refine cz (λm e h'=>∃i:Nat,i<=l.length/\m=l.length - i/\e.get 6=.list k 1 (ints l)/\e.get 7=.v (.int .i64 (l.length:Nat))/\e.get 8=.v (.int .i64 i)/\e.get 3=.v (.int .i64 (vi (l.take i)))/\e.defers=[]/\h'=h) ?_ l.length _ _ ?_;rotate_left 1
 ·refine⟨0,cA _,rfl,?_,?_,?_,?_,?_,rfl⟩<;>(first|assumption|(simp only[gW,reduceIte,aO,aM,dD]<;>rfl))
 rintro m e h' ⟨i,hi,rfl,g6,g7,g8,g3,hd,rfl⟩;by_cases aA:i<l.length
 ·obtain⟨x,hx⟩:∃x,l[i]?=aa x:=⟨_,aR aA⟩;have akJ:(i:Int)<((ints l).length:Int):=by rw[dD];omega
  obtain⟨-,-,x1,x2⟩:=FV x;obtain⟨s1,s2,s3',s4⟩:=Ze (x:=x) (alU (l.take i));have e1:vi (l.take (i+1))=(vi (l.take i) * (x.tmod 1073741789+1073741789)).tmod 1073741789:=by rw[ft hx,alW]
  generalize vi (l.take i)=s at *
  have PK:=Y8 (h:=h') hx;unfold im at PK;refine OS @Sp @dD @bh ?_;exact⟨l.length - (i+1),by omega,i+1,by omega,rfl,by trivial,by trivial,by simp,by rw[e1],by trivial,by trivial⟩
 ·have:i=l.length:=by omega
  subst this;rw[fC] at g3
  repeat' (first|simp(maxSteps:=999999)(disch:=first|exact dZ|fail)only[gW,reduceIte,aO,aM,Sp,dD,im, *]|(refine dX ?_ ?_<;>(intro _;try omega))|refine vx av ?_)
def aam{h:aq}{z cs}{b}(hb:b=h.boxes.length):(h.push z).put b cs=h.push cs:=by subst hb;exact pc h z cs
def aoR{h:aq}{z cs}{b}(hb:b≠h.boxes.length):(h.push z).put b cs=(h.put b cs).push z:=by
 unfold aq.push aq.put;simp only;congr 1;rcases dW b h.boxes.length with aA|eg
 ·rw[List.set_append_left _ _ aA]
 ·rw[Nt _ _ eg,adm (by simp;omega),adm eg]
def ar3:Tryz.f83.results.toList=[.tmp 4]:=av
def R2:Tryz.f147.results.toList=[]:=av
def Se:Tryz.f30.results.toList=[.cell 4 3,.tmp 5]:=av
def MR:(gZ ao 3).bind AV.bP=aa [im 0]:=av
def aeH{t}{x y}{n}(hn:n<=9223372036854775807):cY ao .and t x y (.v (.int .i64 (n:Nat))) (.v (.int .i64 1))=aa (.v (.int .i64 ((n%2:Nat):Int))):=by
 rw[tR];congr 3;have e1:BitVec.ofInt IntKind.i64.bits (n:Int)=BitVec.ofNat 64 n:=by apply BitVec.eq_of_toNat_eq;show(BitVec.ofInt 64 (n:Int)).toNat=(BitVec.ofNat 64 n).toNat;rw[BitVec.toNat_ofInt,BitVec.toNat_ofNat];omega
 have e2:(BitVec.ofNat 64 n&&&1#64).toNat=n%2:=by rw[BitVec.toNat_and,BitVec.toNat_ofNat,show(1#64:BitVec 64).toNat=1 from rfl,Nat.and_one_is_mod];omega
 have e3:(BitVec.ofInt IntKind.i64.bits (n:Int)&&&BitVec.ofInt IntKind.i64.bits 1).toNat=n%2:=by rw[e1];exact e2
 rw[e3,fN ag ag]
def ata{t}{x y}{n}:cY ao .shr t x y (.v (.int .i64 (n:Nat))) (.v (.int .u64 1))=aa (.v (.int .i64 ((n/2:Nat):Int))):=by rw[BP aV];congr 3;show((n:Nat):Int).fdiv (2^1)=_;rw[Gc _ aV];simp
def nb{h:aq}{b}{cs}(hb:h.boxes[b]?=aa cs):h.put b cs=h:=by
 unfold aq.put;have:h.boxes.set b cs=h.boxes:=by
  apply rB;intro k;rw[mL];split
  ·rename_i e;subst e;rw[aG (aS.1 hb).1,hb]
  ·rfl
 rw[this]
def mi{H}{b}{x}(hb:H.boxes[b]?=aa [x]):aH ao Gt H 3 (.ptr (.box b) 0)=aa x:=by rw[mJ eD hb];rfl
def Bl{H}{b}{x}{n}(hb:H.boxes[b]?=aa [x]):b7 ao H 3 (.ptr (.box b) 0) (.v (.int .i64 n))=aa (H.put b [.v (.int .i64 n)]):=fA (off:=0) (cs:=[x]) (xs:=[im n]) rfl fP hb rfl (aJ 1)
def TS(l bc:Nat)(rec:iI):Prop:=∀(s c:Nat) (b:Bool) (H:aq),s<P->c<P->H.loops[l]?=aa rec->H.boxes[bc]?=aa [im (c:Nat)]->W.round l [im (s:Nat),.v (.bool b)] H=aa (.ret (.v (.bool ah)),H.put bc [im ((if b=ah then c * s%P else c:Nat):Int)])
def Aj{P}{R}{e}{h}{t l:Nat}{args}{ts}(hy:e.get t=.yield l):mA P R e h {callee:=.value (.tmp t),args,argTypes:=ts}=R.round l (args.toList.map e.eval) h:=by rw[U6,hy]
def atC(l bn ba bc:Nat)(rec:iI)(hR:TS l bc rec)(h1:bn≠ba)(h2:bn≠bc)(h3:ba≠bc)(r n a c:Nat)(hn:n<=2147483647)(hI:ot r n a c)(h:aq)
 (Cl:h.boxes[bn]?=aa [im (n:Nat)]) (AH:h.boxes[ba]?=aa [im (a:Nat)]) (Ex:h.boxes[bc]?=aa [im (c:Nat)]) (hl:h.loops[l]?=aa rec):
 ∃h',W.call 147 [.yield l,.ptr (.box bn) 0,.ptr (.box ba) 0] h=aa (.ret (.tuple []),h')/\h'.boxes[bc]?=aa [im (r:Nat)]/\h'.loops=h.loops/\∀h0:aq,Ext h0 h->h0.boxes.length<=bn->h0.boxes.length<=ba->h0.boxes.length<=bc->Ext h0 h':=by
 have kR:=al.mk hR;have kI:=al.mk hI;clear hR hI;refine hY rfl Tryz.func147 rfl ?_;refine br @R2 ?_;refine cz (λm e h'=>∃(a c:Nat),m<=2147483647/\ot r m a c/\e.get 0=.yield l/\e.get 1=.ptr (.box bn) 0/\e.get 2=.ptr (.box ba) 0/\e.defers=[]/\h'.boxes[bn]?=aa [im (m:Nat)]/\h'.boxes[ba]?=aa [im (a:Nat)]/\h'.boxes[bc]?=aa [im (c:Nat)]/\h'.loops=h.loops/\∀h0:aq,Ext h0 h->h0.boxes.length<=bn->h0.boxes.length<=ba->h0.boxes.length<=bc->Ext h0 h') ?_ n _ _ ?_;rotate_left 1
 ·exact⟨a,c,hn,kI.out,by exact gR,by exact gR,by exact gR,by exact gR,Cl,AH,Ex,rfl,λ_ x _ _ _=>x⟩
 clear Cl AH Ex kI n a c hn;rintro m e H ⟨a,c,hm,hI,g0,g1,g2,hd,Cl,AH,Ex,PS,hX⟩;have kI:=al.mk hI;have kX:=al.mk hX;have ln:=mi Cl;have la:=mi AH;clear hX;by_cases h0:m=0
 ·subst h0;have hx:=hI.done;subst hx;unfold im at ln la;clear hI;refine br @R2 ?_;exact⟨_,rfl,Ex,PS,kX.out⟩
 have jb:(0:Int)<((m:Nat):Int):=by omega
 have q1:∀(t:TypeId) (x y:Operand),cY ao .and t x y (.v (.int .i64 (m:Nat))) (.v (.int .i64 1))=aa (.v (.int .i64 ((m%2:Nat):Int))):=λt x y=>aeH ag;obtain⟨m1,m2,m3⟩:=mul_tmod hI.2.1 hI.2.1;have vT:H.loops[l]?=aa rec:=by rw[PS];exact hl
 have rd:=kR.out a c (decide ((m%2:Nat)=1)) H hI.2.1 hI.1 vT Ex;have Hj:ot r (m/2) (a * a%P) (if decide (m%2=1)=ah then c * a%P else c):=by
  rcases BF m with ho|ho
  ·rw[ho];exact hI.even ho
  ·rw[ho];exact hI.Da ho
 have kI2:=al.mk Hj;have Cq:decide (((m%2:Nat):Int)=1)=decide (m%2=1):=by rw[decide_eq_decide];omega
 have akE:=(aS.1 Cl).1;have akC:=(aS.1 AH).1;have akD:=(aS.1 Ex).1;clear hI Hj hl;generalize (if decide (m%2=1)=ah then c * a%P else c)=c2 at *
 generalize decide (m%2=1)=bt at *
 unfold im at *
 have la2:∀x,aH ao Gt (H.put bc x) 3 (.ptr (.box ba) 0)=aa (.v (.int .i64 (a:Nat))):=λx=>mi (by rw[cX h3];exact AH);have sa2:∀x n,b7 ao (H.put bc x) 3 (.ptr (.box ba) 0) (.v (.int .i64 n))=aa ((H.put bc x).put ba [.v (.int .i64 n)]):=λx n=>Bl (by rw[cX h3];exact AH);have ln2:∀x y,aH ao Gt ((H.put bc x).put ba y) 3 (.ptr (.box bn) 0)=aa (.v (.int .i64 (m:Nat))):=λx y=>mi (by rw[cX h1,cX h2];exact Cl);have sn2:∀x y n,b7 ao ((H.put bc x).put ba y) 3 (.ptr (.box bn) 0) (.v (.int .i64 n))=aa (((H.put bc x).put ba y).put bn [.v (.int .i64 n)]):=λx y n=>Bl (by rw[cX h1,cX h2];exact Cl);refine cQ @R2 @Aj @ata ?_;refine⟨m/2,by omega,a * a%P,c2,by omega,kI2.out,aU,aU,aU,aU,?_,?_,?_,PS,λh0 x p1 p2 p3=>(((kX.out h0 x p1 p2 p3).fK p3 _).fK p2 _).fK p1 _⟩
 ·exact eu (by rw[mj,mj];exact akE)
 ·rw[cX (Ne.symm h1)];exact eu (by rw[mj];exact akC)
 ·rw[cX (Ne.symm h2),cX (Ne.symm h3)];exact eu akD
def IG{e:Env}{l p q t:Nat}{r:iI}{x y}(hp:r.params=#[p,q])(ht:r.tmps=e.tmps):(nH l r [x,y]).get t=if q=t then y else if p=t then x else e.get t:=by unfold nH;rw[hp,ht];have h1:=Fk (e.tmps.set p x) q t y;have h2:=Fk e.tmps p t x;show((e.tmps.set p x).set q y).get t=_;rw[h1,h2];rfl
def atD(a n:Int)(h:aq):W.call 83 [im a,im n] h=aa (.ret (.func (.func 147) [] [.ptr (.box (h.boxes.length+1)) 0,.ptr (.box h.boxes.length) 0]),(h.push [im a]).push [im n]):=by have bx:∀n:Int,(AV.v (.int .i64 n)).bP=aa [.v (.int .i64 n)]:=λ_=>rfl;unfold im;refine cJ rfl Tryz.func83 rfl ?_;exact rN @ar3 @bg @cH
def ajA(a n:Int)(h:aq):∃h',W.call 30 [im a,im n] h=aa (.ret (.tuple [im (eR a n),im (mS a)]),h')/\Ext h h':=by
 have ca:=MN a;have z3:=MR;have a3:=eD;unfold eR mS;by_cases ha:bI a=ah;rotate_left 1
 ·have nu:bI a=az:=by simpa using ha
  rw[aI ha,aI ha];rw[nu] at ca;unfold im at *
  refine hY rfl adY rfl ?_;refine bA @Se @Bl @mi (aw @aam @cH) ?_;exact⟨_,rfl,.push _ _⟩
 rw[aG ha,aG ha];rw[ha] at ca;obtain⟨x,rfl,-,x1,x2⟩:=BZ ha;clear ha;have cl:=alX [n] .tight bE;rw[alV] at cl;obtain⟨m,hm⟩:∃m:Nat,fmod n=m:=⟨(fmod n).toNat,(Cg n).symm⟩;have HJ:m<Q:=by have:=OL n;rw[hm,dV] at this;exact this
 have he:bF (x:Int).toNat n=tG x m:=by unfold bF;rw[hm,dV,dV]
 rw[he];rw[hm] at cl;have bl:gf ao 23 1 [(0,im n)]=aa (.list .tight 1 (ints [n])):=av;have bx:∀n:Int,(im n).bP=aa [im n]:=λ_=>rfl;have csq:=λH=>atD (x:Nat) (m:Nat) H;have EV:=ot.start (n:=m) x2 (qa HJ aV);generalize tG x m=r at *
 clear he hm;have kS:=al.mk (aw EV (aw x2 (aw HJ x1)));clear EV x2 HJ x1;unfold im at *
 refine hY rfl adY rfl ?_;refine bA @Se @Bl @mi (aw @aam @cH) ?_;refine bH.gen λe he hd hp lD=>?_;have g4:e.get 4=.ptr (.box h.boxes.length) 0:=by rw[he];exact gS
 have g15:e.get 15=.func (.func 147) [] [.ptr (.box (h.boxes.length+1+1)) 0,.ptr (.box (h.boxes.length+1)) 0]:=by rw[he];exact gS
 have hdf:e.defers=[]:=by rw[hd];exact gS
 clear he hd hp lD;refine Dk (by rw[Aw];exact g15) λrec w1 w2 w3 w4 w5 w6=>?_;have hL:(((h.push [AV.v (.int .i64 1)]).push [AV.v (.int .i64 (x:Nat))]).push [AV.v (.int .i64 (m:Nat))]).loops.length=h.loops.length:=rfl;rw[hL];have PR:TS h.loops.length h.boxes.length rec:=by
  intro s c b H hs hc hl hb;obtain⟨m1,m2,-⟩:=mul_tmod hc hs;have e1:((c:Nat):Int) * (s:Nat)=((c * s:Nat):Int):=(yr _ _).symm;have e3:((c * s:Nat):Int).tmod 2147483579=((c * s%P:Nat):Int):=ph (c * s) 2147483579;rw[e1] at m1 m2;have r1:∀t,(nH h.loops.length rec [im (s:Nat),.v (.bool b)]).get t=if 17=t then .v (.bool b) else if 16=t then im (s:Nat) else e.get t:=λt=>IG w2 w1
  have fT:(H.busy h.loops.length rec).boxes[h.boxes.length]?=aa [im (c:Nat)]:=hb;have l1:=mi fT;have jT:=hb;have s1:=λn=>Bl (n:=n) fT;refine LM hl (by rw[w2];rfl) ?_;rw[w3];unfold im at *
  refine bH.gen λe2 jC ie oy ER=>?_;have q16:e2.get 16=.v (.int .i64 (s:Nat)):=by rw[jC,r1];rfl
  have q17:e2.get 17=.v (.bool b):=by rw[jC,r1];rfl
  have q4:e2.get 4=.ptr (.box h.boxes.length) 0:=by rw[jC,r1];exact g4
  clear jC r1 g4 g15 cl csq ca bl;have dG:h.loops.length<H.loops.length:=(aS.1 hl).1;have jn:H.loops.set h.loops.length rec=H.loops:=by
   apply rB;intro k;rw[mL];split
   ·rename_i e;subst e;exact hl.symm
   ·rfl
  have A0:{rec with state:=LoopState.ready,pending:=au}=rec:=by cases rec;cases w5;cases w6;rfl
  cases b with
  |true=>
   refine yS ?_;refine⟨aU,rec,rfl,w5,?_⟩;refine bK @l1 @s1 ?_;refine⟨{rec with state:=.busy},?_,rfl,?_⟩
   ·show(H.loops.set h.loops.length _)[h.loops.length]?=_;simp[dG]
   ·show(H.put h.boxes.length _)=_;simp only[aq.put,aq.busy,DW,A0,jn]
  |false=>
   refine yS ?_;refine⟨aU,rec,rfl,w5,{rec with state:=.busy},?_,rfl,?_⟩
   ·show(H.loops.set h.loops.length _)[h.loops.length]?=_;simp[dG]
   ·have hq:H.put h.boxes.length [AV.v (Value.int IntKind.i64 (c:Nat))]=H:=nb jT;refine(show H.put h.boxes.length _=H from hq).trans ?_;simp only[aq.busy,DW,A0,jn]
 have yX:∀{z:iI},((((h.push [AV.v (.int .i64 1)]).push [AV.v (.int .i64 (x:Nat))]).push [AV.v (.int .i64 (m:Nat))]).loop z).boxes[h.boxes.length]?=aa [im ((1:Nat):Int)]:=λ{z}=>aY (aY (aZ _ _));have lu:∀{z:iI},((((h.push [AV.v (.int .i64 1)]).push [AV.v (.int .i64 (x:Nat))]).push [AV.v (.int .i64 (m:Nat))]).loop z).boxes[h.boxes.length+1]?=aa [im (x:Nat)]:=λ{z}=>aY (nt (by rw[cH]));have fT:∀{z:iI},((((h.push [AV.v (.int .i64 1)]).push [AV.v (.int .i64 (x:Nat))]).push [AV.v (.int .i64 (m:Nat))]).loop z).boxes[h.boxes.length+1+1]?=aa [im (m:Nat)]:=λ{z}=>nt (by rw[cH,cH]);have gY:=@C8 (((h.push [AV.v (.int .i64 1)]).push [AV.v (.int .i64 (x:Nat))]).push [AV.v (.int .i64 (m:Nat))]) rec;have HJ:=kS.out.2.2.1;obtain⟨h',c1,c2,c3,c4⟩:=atC h.loops.length (h.boxes.length+1+1) (h.boxes.length+1) h.boxes.length rec PR ag ag ag r m x 1 (by unfold Q at HJ;omega) kS.out.1 _ fT lu yX gY;refine⟨_,h',c1,rec,by rw[c3];exact gY,by rw[w5];decide,.inl ⟨w6,?_⟩⟩;have hX:Ext h h':=c4 h ((((Ext.push h _).trans (Ext.push _ _)).trans (Ext.push _ _)).trans ((Fr.A6 (bn:=h.boxes.length+3) (l0:=h.loops.length) (n0:=h.tn) _ _).ext (by simp only[cH];omega) (aJ _) (aJ _))) ag ag (aJ _);have aA:h.boxes.length<h'.boxes.length:=(aS.1 c2).1;generalize hH:h'.eW h.loops.length {rec with state:=.exhausted}=H;have hb:H.boxes[h.boxes.length]?=aa [im (r:Nat)]:=by rw[<-hH];exact c2
 have hX2:Ext h H:=by rw[<-hH];exact((Fr.Db (bn:=h.boxes.length) (l0:=h.loops.length) (n0:=h.tn) hX (aJ _)).trans (.eW (aJ _) _)).ext (aJ _) (aJ _) (aJ _)
 clear c1 c2 c3 c4 hH gY yX lu fT PR w1 w2 w3 w4 w5 w6 hX aA;have l1:=mi hb;unfold im at *
 have s1:=λn=>Bl (n:=n) hb;have l2:∀y,aH ao Gt (H.put h.boxes.length [.v (.int .i64 y)]) 3 (.ptr (.box h.boxes.length) 0)=aa (.v (.int .i64 y)):=λy=>mi (eu (aS.1 hb).1);refine br @Se ?_;exact⟨_,rfl,hX2.fK (aJ _) _⟩
abbrev a8(b:List UInt8):List (List AV):=b.map lh
def aaZ:Tryz.f220.results.toList=[.tmp 2]:=av
def ya:Tryz.f221.results.toList=[.tmp 4]:=av
def aa0:Tryz.f222.results.toList=[.tmp 8]:=av
def JS:gI ao 5=aa az:=av
def tI:dt ao 5=aa 1:=av
def VH(n)(h):nL ao h 5 42 (.v (.int .u8 n))=aa (.v (.int .u32 (IntKind.u32.wrap n)),h):=av
def uQ(n)(h):nL ao h 3 179 (.v (.int .i64 n))=aa (.v (.int .u64 (IntKind.u64.wrap n)),h):=av
def jA(b:List UInt8):Nat->Nat
 |0=>0
 |i+1=>jA b i * 256+(dy b i).toNat
def vz(b:UInt8):b.toNat<256:=b.toNat_lt
def Ul(b):∀i,jA b i<256^i
 |0=>Nat.zero_lt_one
 |i+1=>by have:=Ul b i;have:=vz (dy b i);unfold jA;rw[BG];omega
def aea(b):BitVec.ofNat 32 (jA b 4)=qC b 0:=by unfold qC;refine congrArg (BitVec.ofNat 32) ?_;show(((0 * 256+(dy b 0).toNat) * 256+(dy b 1).toNat) * 256+(dy b 2).toNat) * 256+(dy b 3).toNat=((dy b 0).toNat * 256+(dy b 1).toNat) * 256 * 256+(dy b 2).toNat * 256+(dy b 3).toNat;omega
def or8{t}{x y}{n m}(hn:n<16777216)(hm:m<256):cY ao .or t x y (aT (BitVec.ofNat 32 n<<<8)) (.v (.int .u32 (IntKind.u32.wrap (m:Nat))))=aa (aT (BitVec.ofNat 32 (n * 256+m))):=by
 have e1:AV.v (.int .u32 (IntKind.u32.wrap (m:Nat)))=aT (BitVec.ofNat 32 m):=by unfold aT;rw[wrap32,BitVec.toNat_ofNat];congr 2
 rw[e1,pY];congr 2;apply BitVec.eq_of_toNat_eq;rw[BitVec.toNat_or,BitVec.toNat_shiftLeft,BitVec.toNat_ofNat,BitVec.toNat_ofNat,BitVec.toNat_ofNat];have:n%2^32=n:=oo ag;rw[this];have h1:n<<<8=n * 256:=by rw[BH]
 have h2:n<<<8%2^32=n<<<8:=oo ag;rw[h2,oo (ag:m<2^32),<-Nat.shiftLeft_add_eq_or_of_lt (ag:m<2^8),h1];exact(oo ag).symm
def as5{t}{x y}{u}:cY ao .shl t x y (aT u) (.v (.int .u64 8))=aa (aT (u<<<8)):=ss (n:=8) aV
def avC(b:List UInt8)(x:AV)(h:aq)(s:dT 1 h x (a8 b))(hb:4<=b.length):W.call 220 [x] h=aa (.ret (aT (qC b 0)),h):=by
 have u28:=jz;have a5:=JS;have s5:=tI;obtain⟨y,y1,y2⟩:=s.slice (t:=28) (lo:=au) (hi:=aa (.v (.int .i64 4))) (l:=0) (m:=4) aV u28 tI (.inr ⟨.i64,rfl,by simpa using hb⟩) (.inl ⟨rfl,rfl⟩) aV;have y3:=y2.len u28;rw[show((Nu 4 (a8 b)).drop 0).length=4 by simp;omega] at y3;have kY:=al.mk y2;clear s y2;refine cJ rfl Tryz.func220 rfl ?_;refine oT @aaZ ?_;refine cz (λm e h'=>∃i:Nat,i<=4/\m=4 - i/\e.get 6=y/\e.get 7=.v (.int .i64 (4:Nat))/\e.get 8=.v (.int .i64 i)/\e.get 2=aT (BitVec.ofNat 32 (jA b i))/\e.defers=[]/\h'=h) ?_ 4 _ _ ?_;rotate_left 1
 ·refine⟨0,cA _,rfl,?_,?_,?_,?_,?_,rfl⟩<;>(first|assumption|(exact gR))
 rintro m e h' ⟨i,hi,rfl,g6,g7,g8,g2,hd,rfl⟩;by_cases hc:i=4
 ·subst hc;rw[aea] at g2;exact jm @aaZ
 ·have aA:i<4:=by omega
  have fT:i<b.length:=by omega
  obtain⟨p,p1,p2,-⟩:=kY.out.index (G:=Gt) (t:=28) (i:=i) (row:=lh (b[i])) aV u28 tI (by simp[aA,fT]);have p4:=p2 JS;have e1:(lh b[i]).head?=aa (.v (.int .u8 (((dy b i).toNat:Nat):Int))):=by unfold dy;rw[ez,aR fT];rfl
  rw[e1] at p4;have l1:=Ul b i;have l2:jA b i<16777216:=ni l1 (by have:256^i<=256^3:=Nat.pow_le_pow_right aV ag;exact this);have l3:=vz (dy b i);clear p2 e1 l1;refine OS @VH @or8 @as5 ?_;refine⟨4 - (i+1),by omega,i+1,by omega,rfl,aU,aU,?_,?_,aU,aU⟩
  ·rfl
  ·rfl
def xW(v:eT)(n)(hn:n<32):(v<<<(32 - n))|||(v>>>n)=NT.dO v n:=by unfold NT.dO;rw[BitVec.or_comm]
def aqV(v:eT)(h:aq):W.call 221 [aT v,.v (.int .i64 (-2))] h=aa (.ret (aT (NT.dO v 2)),h):=by
 have c1:∀(t:TypeId) (x y:Operand),cY ao .and t x y (.v (.int .u64 (IntKind.u64.wrap (-2)))) (.v (.int .u64 31))=aa (.v (.int .u64 30)):=λt x y=>by rw[tR];rfl
 have c2:∀(t:TypeId) (x y:Operand),cY ao .shl t x y (aT v) (.v (.int .u64 30))=aa (aT (v<<<30)):=λt x y=>ss (n:=30) aV;have c3:∀(t:TypeId) (x y:Operand),cY ao .shr t x y (aT v) (.v (.int .u64 (IntKind.u64.wrap (32 - 30))))=aa (aT (v>>>2)):=λt x y=>tH (n:=2) aV;have c4:=xW v 2 aV;refine cJ rfl yB rfl ?_;exact xr @ya @uQ @pY
def aqY(v:eT)(h:aq):W.call 221 [aT v,.v (.int .i64 (-6))] h=aa (.ret (aT (NT.dO v 6)),h):=by
 have c1:∀(t:TypeId) (x y:Operand),cY ao .and t x y (.v (.int .u64 (IntKind.u64.wrap (-6)))) (.v (.int .u64 31))=aa (.v (.int .u64 26)):=λt x y=>by rw[tR];rfl
 have c2:∀(t:TypeId) (x y:Operand),cY ao .shl t x y (aT v) (.v (.int .u64 26))=aa (aT (v<<<26)):=λt x y=>ss (n:=26) aV;have c3:∀(t:TypeId) (x y:Operand),cY ao .shr t x y (aT v) (.v (.int .u64 (IntKind.u64.wrap (32 - 26))))=aa (aT (v>>>6)):=λt x y=>tH (n:=6) aV;have c4:=xW v 6 aV;refine cJ rfl yB rfl ?_;exact xr @ya @uQ @pY
def aqZ(v:eT)(h:aq):W.call 221 [aT v,.v (.int .i64 (-7))] h=aa (.ret (aT (NT.dO v 7)),h):=by
 have c1:∀(t:TypeId) (x y:Operand),cY ao .and t x y (.v (.int .u64 (IntKind.u64.wrap (-7)))) (.v (.int .u64 31))=aa (.v (.int .u64 25)):=λt x y=>by rw[tR];rfl
 have c2:∀(t:TypeId) (x y:Operand),cY ao .shl t x y (aT v) (.v (.int .u64 25))=aa (aT (v<<<25)):=λt x y=>ss (n:=25) aV;have c3:∀(t:TypeId) (x y:Operand),cY ao .shr t x y (aT v) (.v (.int .u64 (IntKind.u64.wrap (32 - 25))))=aa (aT (v>>>7)):=λt x y=>tH (n:=7) aV;have c4:=xW v 7 aV;refine cJ rfl yB rfl ?_;exact xr @ya @uQ @pY
def aqQ(v:eT)(h:aq):W.call 221 [aT v,.v (.int .i64 (-11))] h=aa (.ret (aT (NT.dO v 11)),h):=by
 have c1:∀(t:TypeId) (x y:Operand),cY ao .and t x y (.v (.int .u64 (IntKind.u64.wrap (-11)))) (.v (.int .u64 31))=aa (.v (.int .u64 21)):=λt x y=>by rw[tR];rfl
 have c2:∀(t:TypeId) (x y:Operand),cY ao .shl t x y (aT v) (.v (.int .u64 21))=aa (aT (v<<<21)):=λt x y=>ss (n:=21) aV;have c3:∀(t:TypeId) (x y:Operand),cY ao .shr t x y (aT v) (.v (.int .u64 (IntKind.u64.wrap (32 - 21))))=aa (aT (v>>>11)):=λt x y=>tH (n:=11) aV;have c4:=xW v 11 aV;refine cJ rfl yB rfl ?_;exact xr @ya @uQ @pY
def aqR(v:eT)(h:aq):W.call 221 [aT v,.v (.int .i64 (-13))] h=aa (.ret (aT (NT.dO v 13)),h):=by
 have c1:∀(t:TypeId) (x y:Operand),cY ao .and t x y (.v (.int .u64 (IntKind.u64.wrap (-13)))) (.v (.int .u64 31))=aa (.v (.int .u64 19)):=λt x y=>by rw[tR];rfl
 have c2:∀(t:TypeId) (x y:Operand),cY ao .shl t x y (aT v) (.v (.int .u64 19))=aa (aT (v<<<19)):=λt x y=>ss (n:=19) aV;have c3:∀(t:TypeId) (x y:Operand),cY ao .shr t x y (aT v) (.v (.int .u64 (IntKind.u64.wrap (32 - 19))))=aa (aT (v>>>13)):=λt x y=>tH (n:=13) aV;have c4:=xW v 13 aV;refine cJ rfl yB rfl ?_;exact xr @ya @uQ @pY
def aqS(v:eT)(h:aq):W.call 221 [aT v,.v (.int .i64 (-17))] h=aa (.ret (aT (NT.dO v 17)),h):=by
 have c1:∀(t:TypeId) (x y:Operand),cY ao .and t x y (.v (.int .u64 (IntKind.u64.wrap (-17)))) (.v (.int .u64 31))=aa (.v (.int .u64 15)):=λt x y=>by rw[tR];rfl
 have c2:∀(t:TypeId) (x y:Operand),cY ao .shl t x y (aT v) (.v (.int .u64 15))=aa (aT (v<<<15)):=λt x y=>ss (n:=15) aV;have c3:∀(t:TypeId) (x y:Operand),cY ao .shr t x y (aT v) (.v (.int .u64 (IntKind.u64.wrap (32 - 15))))=aa (aT (v>>>17)):=λt x y=>tH (n:=17) aV;have c4:=xW v 17 aV;refine cJ rfl yB rfl ?_;exact xr @ya @uQ @pY
def aqT(v:eT)(h:aq):W.call 221 [aT v,.v (.int .i64 (-18))] h=aa (.ret (aT (NT.dO v 18)),h):=by
 have c1:∀(t:TypeId) (x y:Operand),cY ao .and t x y (.v (.int .u64 (IntKind.u64.wrap (-18)))) (.v (.int .u64 31))=aa (.v (.int .u64 14)):=λt x y=>by rw[tR];rfl
 have c2:∀(t:TypeId) (x y:Operand),cY ao .shl t x y (aT v) (.v (.int .u64 14))=aa (aT (v<<<14)):=λt x y=>ss (n:=14) aV;have c3:∀(t:TypeId) (x y:Operand),cY ao .shr t x y (aT v) (.v (.int .u64 (IntKind.u64.wrap (32 - 14))))=aa (aT (v>>>18)):=λt x y=>tH (n:=18) aV;have c4:=xW v 18 aV;refine cJ rfl yB rfl ?_;exact xr @ya @uQ @pY
def aqU(v:eT)(h:aq):W.call 221 [aT v,.v (.int .i64 (-19))] h=aa (.ret (aT (NT.dO v 19)),h):=by
 have c1:∀(t:TypeId) (x y:Operand),cY ao .and t x y (.v (.int .u64 (IntKind.u64.wrap (-19)))) (.v (.int .u64 31))=aa (.v (.int .u64 13)):=λt x y=>by rw[tR];rfl
 have c2:∀(t:TypeId) (x y:Operand),cY ao .shl t x y (aT v) (.v (.int .u64 13))=aa (aT (v<<<13)):=λt x y=>ss (n:=13) aV;have c3:∀(t:TypeId) (x y:Operand),cY ao .shr t x y (aT v) (.v (.int .u64 (IntKind.u64.wrap (32 - 13))))=aa (aT (v>>>19)):=λt x y=>tH (n:=19) aV;have c4:=xW v 19 aV;refine cJ rfl yB rfl ?_;exact xr @ya @uQ @pY
def aqW(v:eT)(h:aq):W.call 221 [aT v,.v (.int .i64 (-22))] h=aa (.ret (aT (NT.dO v 22)),h):=by
 have c1:∀(t:TypeId) (x y:Operand),cY ao .and t x y (.v (.int .u64 (IntKind.u64.wrap (-22)))) (.v (.int .u64 31))=aa (.v (.int .u64 10)):=λt x y=>by rw[tR];rfl
 have c2:∀(t:TypeId) (x y:Operand),cY ao .shl t x y (aT v) (.v (.int .u64 10))=aa (aT (v<<<10)):=λt x y=>ss (n:=10) aV;have c3:∀(t:TypeId) (x y:Operand),cY ao .shr t x y (aT v) (.v (.int .u64 (IntKind.u64.wrap (32 - 10))))=aa (aT (v>>>22)):=λt x y=>tH (n:=22) aV;have c4:=xW v 22 aV;refine cJ rfl yB rfl ?_;exact xr @ya @uQ @pY
def aqX(v:eT)(h:aq):W.call 221 [aT v,.v (.int .i64 (-25))] h=aa (.ret (aT (NT.dO v 25)),h):=by
 have c1:∀(t:TypeId) (x y:Operand),cY ao .and t x y (.v (.int .u64 (IntKind.u64.wrap (-25)))) (.v (.int .u64 31))=aa (.v (.int .u64 7)):=λt x y=>by rw[tR];rfl
 have c2:∀(t:TypeId) (x y:Operand),cY ao .shl t x y (aT v) (.v (.int .u64 7))=aa (aT (v<<<7)):=λt x y=>ss (n:=7) aV;have c3:∀(t:TypeId) (x y:Operand),cY ao .shr t x y (aT v) (.v (.int .u64 (IntKind.u64.wrap (32 - 7))))=aa (aT (v>>>25)):=λt x y=>tH (n:=25) aV;have c4:=xW v 25 aV;refine cJ rfl yB rfl ?_;exact xr @ya @uQ @pY
def aq1(v:eT)(h:aq):W.call 222 [aT v,.v (.int .i64 6),.v (.int .i64 11),.v (.int .i64 25)] h=aa (.ret (aT (NT.dO v 6^^^NT.dO v 11^^^NT.dO v 25)),h):=by
 have w1:IntKind.i64.wrap (0 - 6)= -6:=by decide
 have w2:IntKind.i64.wrap (0 - 11)= -11:=by decide
 have w3:IntKind.i64.wrap (0 - 25)= -25:=by decide
 have c1:=aqY v;have c2:=aqQ v;have c3:=aqX v;refine cJ rfl adX rfl ?_;exact Ww @aa0 @pj
def aq0(v:eT)(h:aq):W.call 222 [aT v,.v (.int .i64 2),.v (.int .i64 13),.v (.int .i64 22)] h=aa (.ret (aT (NT.dO v 2^^^NT.dO v 13^^^NT.dO v 22)),h):=by
 have w1:IntKind.i64.wrap (0 - 2)= -2:=by decide
 have w2:IntKind.i64.wrap (0 - 13)= -13:=by decide
 have w3:IntKind.i64.wrap (0 - 22)= -22:=by decide
 have c1:=aqV v;have c2:=aqR v;have c3:=aqW v;refine cJ rfl adX rfl ?_;exact Ww @aa0 @pj
def si:Tryz.f204.results.toList=[]:=av
def GJ:gI ao 42=aa az:=av
def yi:dt ao 42=aa 1:=av
def JQ:gI ao 230=aa ah:=av
def FT:dt ao 230=aa 8:=av
def MQ:(gZ ao 242).bind AV.bP=aa (a9 64 (aT 0#32)):=av
def acf:(gZ ao 230).bind AV.bP=aa (a9 8 (aT 0#32)):=av
abbrev bW(l:List eT):List AV:=l.map aT
def rX{b n}{k}(hn:n<64):dH ao 242 (.ptr (.box b) 0) (.v (.int k (n:Nat)))=aa (.ptr (.box b) n):=by have hu:=ad2;unfold dH;rw[hu];simp only[yi];rw[aG ⟨ag,by omega⟩];simp
def alC{g n}{k}(hn:n<64):dH ao 242 (.ptr (.eV g) 0) (.v (.int k (n:Nat)))=aa (.ptr (.eV g) n):=by have hu:=ad2;unfold dH;rw[hu];simp only[yi];rw[aG ⟨ag,by omega⟩];simp
def zu{b n}{k}(hn:n<8):dH ao 230 (.ptr (.box b) 0) (.v (.int k (n:Nat)))=aa (.ptr (.box b) n):=by have hu:=ad1;unfold dH;rw[hu];simp only[yi];rw[aG ⟨ag,by omega⟩];simp
def rY{H}{b n}{l}(hb:H.boxes[b]?=aa (bW l))(hn:n<l.length):aH ao Gt H 42 (.ptr (.box b) n)=aa (aT (dg l n)):=by rw[mJ GJ hb,JG,dg,ez,ej,aR hn];rfl
def Jc{H}{b n}{l}{x:eT}(hb:H.boxes[b]?=aa (bW l))(hn:n<l.length):b7 ao H 42 (.ptr (.box b) n) (aT x)=aa (H.put b (bW (l.set n x))):=by
 have h1:n+1<=(bW l).length:=by rw[bu];omega
 rw[fA (xs:=[aT x]) rfl yi hb rfl h1];congr 2;unfold eX bW;rw[BA,aG hn];simp
def alQ{H}{t}(ht:t<64):aH ao Gt H 42 (.ptr (.eV 1) t)=aa (aT (zv t)):=by
 have hl:t<Fc.length:=ht;unfold aH;rw[GJ];show((Is.drop t).head?)=_;rw[JG];unfold Is zv;rw[ej,ez,aR hl];show aa _=aa (aT (BitVec.ofNat 32 Fc[t]));unfold aT;rw[BitVec.toNat_ofNat];have:∀x∈Fc,x<2^32:=by decide
 rw[oo (this _ (iW hl))]
def FN(b):∀n,(iG b n).length=n
 |0=>rfl|n+1=>by rw[iG,dw,FN b n];rfl
def wl(b:List UInt8)(i:Nat):List eT:=iG b i++a9 (64 - i) 0#32
def vA{b}{i}(hi:i<=64):(wl b i).length=64:=by unfold wl;rw[dw,FN,mM];omega
def acb{b}{i k}(hk:k<i):dg (wl b i) k=dg (iG b i) k:=by unfold wl dg;rw[ez,sH (by rw[FN];exact hk),ez]
def MO{b}{i}{x}(hi:i<64)(hx:x=if i<16 then qC b (4 * i) else Fl (iG b i) i):(wl b i).set i x=wl b (i+1):=by subst hx;unfold wl;have h1:=FN b i;obtain⟨k,hk⟩:∃k,64 - i=k+1:=⟨63 - i,by omega⟩;rw[Nt _ _ ag,h1,uK,hk,Bz,TE,(ag:64 - (i+1)=k),iG,tL];rfl
def acd(b):bW (wl b 0)=a9 64 (aT 0#32):=by show List.map aT ([]++a9 64 0#32)=_;rw[lJ,yy]
def Tb(b):wl b 64=iG b 64:=by unfold wl;simp
def avA(b)(k):qC (b.drop k) 0=qC b k:=by unfold qC dy;simp only[ez,pD,BC,qb]
def aq2(w v)(t)(a b c d e f g i)(hv:v=[a,b,c,d,e,f,g,i]):IH w v t=
 [i+(NT.dO e 6^^^NT.dO e 11^^^NT.dO e 25)+(g^^^(e&&&(f^^^g)))+zv t+dg w t+((NT.dO a 2^^^NT.dO a 13^^^NT.dO a 22)+((a&&&b)|||(c&&&(a|||b)))),
  a,b,c,d+(i+(NT.dO e 6^^^NT.dO e 11^^^NT.dO e 25)+(g^^^(e&&&(f^^^g)))+zv t+dg w t),e,f,g]:=by
 subst hv;rw[agV,amy];rfl
def eight{l:List eT}(h:l.length=8):∃a b c d e f g i,l=[a,b,c,d,e,f,g,i]:=by
 match l,h with
 | [a,b,c,d,e,f,g,i],_=>exact⟨a,b,c,d,e,f,g,i,rfl⟩
def vF(s:List eT)(b:List UInt8)(t:Nat):List eT:=(bM t).foldl (IH (iG b 64)) s
def S8(s)(b)(t):vF s b (t+1)=IH (iG b 64) (vF s b t) t:=by unfold vF;rw[om,oj];rfl
def S7{s}(b)(hs:s.length=8):∀t,(vF s b t).length=8
 |0=>hs
 |t+1=>by rw[S8];rfl
def zM(s v:List eT)(i:Nat):List eT:=Gu (·+·) (s.take i) (v.take i)++s.drop i
def av4{s v}(hs:s.length=8)(hv:v.length=8){i}(hi:i<=8):(zM s v i).length=8:=by unfold zM;simp;omega
def av3{s v}(hs:s.length=8)(hv:v.length=8){i}(hi:i<8):dg (zM s v i) i=dg s i:=by unfold zM dg;rw[ez,Ab (by simp;omega),pD,ez];congr 2;simp;omega
def av5{s v}(hs:s.length=8)(hv:v.length=8){i}(hi:i<8):(zM s v i).set i (dg s i+dg v i)=zM s v (i+1):=by
 obtain⟨a,b,c,d,e,f,g,j,rfl⟩:=eight hs;obtain⟨a',b',c',d',e',f',g',j',rfl⟩:=eight hv;have:i=0∨i=1∨i=2∨i=3∨i=4∨i=5∨i=6∨i=7:=by omega
 rcases this with rfl|rfl|rfl|rfl|rfl|rfl|rfl|rfl<;>rfl
def av2{s b}(hs:s.length=8)(hv:b.length=8):zM s b 8=Gu (·+·) s b:=by unfold zM;rw[gm ag,gm ag,qF ag,jr]
end Go.Proofs.YtnfciiiohoafaaaGreatDoor
end
section
namespace Go.AE
section
variable {b n0:Nat} {h h':aq}
def fX.fK(m:fX b n0 h h'){c:Nat}(hc:h.boxes.length<=c)(cs:List AV):fX b n0 h (h'.put c cs):=by refine⟨λd ds hd hb=>?_,by rw[mj];exact m.len,m.loop,m.tn,m.dead,m.ok⟩;have aA:d<h.boxes.length:=(aS.1 hb).1;rw[cX ag];exact m.box d ds hd hb
def fX.push(m:fX b n0 h h')(cs:List AV):fX b n0 h (h'.push cs):=
 ⟨λd ds hd hb=>aY (m.box d ds hd hb),by rw[cH];exact Nat.le_succ_of_le m.len,m.loop,m.tn,m.dead,m.ok⟩
end
def fX.uE{b n0 n1}{h h'}(m:fX b n1 h h')(hn:n0<=n1):fX b n0 h h':=⟨m.box,m.len,m.loop,m.tn,λk hk hd=>m.dead k (ni hk hn) hd,m.ok⟩
def dm.mut{b n0 n1}{h h'}{k}(hk:dm n0 h k)(m:fX b n1 h h')(hn:h.tn<=n1):dm n0 h' k:=by
 rcases hk with q|q|⟨z,q,q2,q3⟩
 ·exact .inl q
 ·exact .inr (.inl q)
 ·refine .inr (.inr ⟨z,q,q2,?_⟩);unfold alive at q3 ⊢;simp only[bC,decide_eq_true_eq,zR,List.contains_eq_mem,decide_eq_false_iff_not] at q3 ⊢;exact⟨ni q3.1 m.tn,λhd=>q3.2 (m.dead z (ni q3.1 hn) hd)⟩
end Go.AE
end
section
namespace Go.Proofs.YtnfciiiohoafaaaGreatDoor
open Go.AE Go.NT
def yf{t}{x y}{u}:cY ao .shr t x y (aT u) (.v (.int .u64 3))=aa (aT (u>>>3)):=tH (n:=3) aV
def ye{t}{x y}{u}:cY ao .shr t x y (aT u) (.v (.int .u64 10))=aa (aT (u>>>10)):=tH (n:=10) aV
def J8{s}(hs:s.length=8):(AV.agg (bW s)).bP=aa (bW s):=by obtain⟨a,b,c,d,e,f,g,j,rfl⟩:=eight hs;rfl
def S9(n):bW (a9 n 0#32)=a9 n (aT 0#32):=by simp[bW]
def rM{R}{c}{e}{h}{I}{m}{Q0}(hq:∀Q,bH R c e h (C7 I m Q)):bH R c e h (C7 I m Q0):=hq Q0
def LF{h:aq}{b}{xs ys}:(h.put b xs).put b ys=h.put b ys:=by unfold aq.put;simp only[DW]
def Zb{H:aq}{b k}{cs}(hb:b<H.boxes.length):aH ao Gt (H.put b cs) 42 (.ptr (.box b) k)=(cs.drop k).head?:=mJ GJ (eu hb)
def stp{H:aq}{b k}{cs}{x:eT}(hb:b<H.boxes.length)(hk:k+1<=cs.length):b7 ao (H.put b cs) 42 (.ptr (.box b) k) (aT x)=aa (H.put b (cs.set k (aT x))):=by rw[fA (xs:=[aT x]) rfl yi (eu hb) rfl hk,LF];congr 2;unfold eX;rw[BA,aG (show k<cs.length from hk)];simp
def ati{b}:iN ao 230 (.ptr (.box b) 0) (aa (.v (.int .i64 1))) au au=aa (.arr b 1 7 7):=av
def atj{b}:iN ao 230 (.ptr (.box b) 0) au (aa (.v (.int .i64 7))) au=aa (.arr b 0 7 8):=av
def ahF{H}{b}{a0 a1 a2 a3 a4 a5 a6 a7}(hb:H.boxes[b]?=aa [a0,a1,a2,a3,a4,a5,a6,a7]):Ar ao H #[43,43] (.arr b 1 7 7) (.arr b 0 7 8)=aa (.v (.int .i64 7),H.put b [a0,a0,a1,a2,a3,a4,a5,a6]):=by
 have hn:mX H 1 (.arr b 0 7 8)=aa [[a0],[a1],[a2],[a3],[a4],[a5],[a6]]:=by show rowsOf H 1 (.arr b 0 7 8)=_;unfold rowsOf;simp only[hb];rfl
 have hi:∃i,ao.info? 42=aa i/\i.size=1:=by
  have vR:=yi;unfold dt at vR;cases hq:ao.info? 42 with
  |none=>rw[hq] at vR;cases vR
  |some i=>rw[hq] at vR;exact⟨i,rfl,by simpa using vR⟩
 obtain⟨i,h1,h2⟩:=hi;have hu:((#[43,43]:Array Nat)[0]?).bind ao.underlying=aa (.slice 42):=av;unfold Ar;rw[hu];simp only[h1,h2,hn,hb];rfl
def NR(s:List eT)(b:List UInt8)(sb:Nat)(x:AV)(h:aq)(hs:s.length=8)(hb:64<=b.length)(lF:h.boxes[sb]?=aa (bW s))
 (hx:∀H,fX sb h.tn h H->dT 1 H x (a8 b)):
 ∃h',W.call 204 [.ptr (.box sb) 0,x] h=aa (.ret (.tuple []),h')/\h'.boxes[sb]?=aa (bW (xe s b))/\fX sb h.tn h h':=by
 have kX:=al.mk hx;clear hx;have awH:=(aS.1 lF).1;have kz:=al.mk (acd b);have z242:=MQ;refine hY rfl Tryz.func204 rfl ?_
 repeat' (first|simp(maxSteps:=999999)(disch:=first|exact dZ|fail)only[gW,reduceIte,aO,aM,si,cH, *]|refine dX ?_ ?_<;>(intro _;try omega))
 refine cz (λm e H=>∃i:Nat,i<=16/\m=16 - i/\e.get 0=.ptr (.box sb) 0/\e.get 1=x/\e.get 4=.ptr (.box h.boxes.length) 0/\e.get 14=.v (.int .i64 i)/\e.defers=[]/\H.boxes[h.boxes.length]?=aa (bW (wl b i))/\H.boxes[sb]?=aa (bW s)/\fX sb h.tn h H) ?_ 16 _ _ ?_;rotate_left 1
 ·refine⟨0,cA _,rfl,?_,?_,?_,?_,?_,?_,aY lF,(fX.refl _ _ _).push _⟩
  iterate 5 (first|assumption|(exact gR))
  rw[kz.out];exact aZ _ _
 clear z242 kz;rintro m e H ⟨i,hi,rfl,g0,g1,g4,g14,hd,hw,mW,hM⟩;have kM:=al.mk hM;have vT:=hM.len;clear hM;by_cases hc:i=16;rotate_left 1
 ·refine rM λQ=>?_;have aA:i<16:=by omega
  have tA:=kX.out H kM.out;obtain⟨y,y1,y2⟩:=tA.slice (t:=28) (lo:=aa (.v (.int .i64 ((4 * i:Nat):Int)))) (hi:=au) (l:=4 * i) (m:=b.length) aV jz tI (.inl ⟨rfl,by rw[bu]⟩) (.inr ⟨.i64,rfl⟩) ag;have y3:dT 1 H y (a8 (b.drop (4 * i))):=by have e:(Nu b.length (a8 b)).drop (4 * i)=a8 (b.drop (4 * i)):=(by rw[gm (by rw[bu];exact aJ _),<-ade]);rw[<-e];exact y2
  have cw:=avC _ y H y3 (by rw[hJ];omega);rw[avA] at cw;have e4:IntKind.i64.wrap (4 * ((i:Nat):Int))=((4 * i:Nat):Int):=by rw[fN ag ag];omega
  have st:=λz=>Jc (x:=z) hw (n:=i) (by rw[vA ag];omega);have bT:=λz hz=>MO (b:=b) (i:=i) (x:=z) ag hz;have EU:=bT (qC b (4 * i)) (by rw[aG aA]);have kst:=al.mk EU;have ju:=(aS.1 hw).1;have ks:=al.mk mW;clear bT EU tA y2 y3 hw mW lF;have ix:=rX (b:=h.boxes.length) (n:=i) (k:=.i64) ag
  repeat' (first|simp(maxSteps:=999999)(disch:=first|exact dZ|fail)only[gW,reduceIte,aO,aM,si, *]|refine dX ?_ ?_<;>(intro _;try omega))
  refine⟨16 - (i+1),by omega,i+1,by omega,rfl,aU,aU,aU,rfl,aU,?_,?_,kM.out.fK (aJ _) _⟩
  ·rw[kst.out];exact eu ju
  ·rw[cX ag];exact ks.out
 subst hc;have kw:=al.mk hw;have ks:=al.mk mW;clear hw mW lF
 repeat' (first|simp(maxSteps:=999999)(disch:=first|exact dZ|fail)only[gW,reduceIte,aO,aM,si, *]|refine dX ?_ ?_<;>(intro _;try omega))
 refine cz (λm e H=>∃i:Nat,16<=i/\i<=64/\m=64 - i/\e.get 0=.ptr (.box sb) 0/\e.get 4=.ptr (.box h.boxes.length) 0/\e.get 6=.v (.int .i64 i)/\e.defers=[]/\H.boxes[h.boxes.length]?=aa (bW (wl b i))/\H.boxes[sb]?=aa (bW s)/\fX sb h.tn h H) ?_ 48 _ _ ?_;rotate_left 1
 ·refine⟨16,by decide,by decide,rfl,?_,?_,?_,?_,kw.out,ks.out,kM.out⟩<;>(first|assumption|(exact gR))
 clear kw ks kM g0 g1 g4 g14 hd vT hi;rintro m e H ⟨i,Py,hi,rfl,g0,g4,g6,hd,hw,mW,hM⟩;have kM:=al.mk hM;have vT:=hM.len;clear hM;by_cases hc:i=64;rotate_left 1
 ·refine rM λQ=>?_;have l0:=rY hw (n:=i - 16) (by rw[vA hi];omega);have l1:=rY hw (n:=i - 15) (by rw[vA hi];omega);have l2:=rY hw (n:=i - 7) (by rw[vA hi];omega);have l3:=rY hw (n:=i - 2) (by rw[vA hi];omega);rw[acb ag] at l0 l1 l2 l3;have i0:=rX (b:=h.boxes.length) (n:=i - 16) (k:=.i64) ag;have i1:=rX (b:=h.boxes.length) (n:=i - 15) (k:=.i64) ag;have i2:=rX (b:=h.boxes.length) (n:=i - 7) (k:=.i64) ag;have i3:=rX (b:=h.boxes.length) (n:=i - 2) (k:=.i64) ag;have i4:=rX (b:=h.boxes.length) (n:=i) (k:=.i64) ag;have e0:IntKind.i64.wrap (((i:Nat):Int) - 16)=((i - 16:Nat):Int):=by rw[fN ag ag];omega
  have e1:IntKind.i64.wrap (((i:Nat):Int) - 15)=((i - 15:Nat):Int):=by rw[fN ag ag];omega
  have e2:IntKind.i64.wrap (((i:Nat):Int) - 7)=((i - 7:Nat):Int):=by rw[fN ag ag];omega
  have e3:IntKind.i64.wrap (((i:Nat):Int) - 2)=((i - 2:Nat):Int):=by rw[fN ag ag];omega
  have st:=λz=>Jc (x:=z) hw (n:=i) (by rw[vA hi];omega);have EU:=MO (b:=b) (i:=i) (x:=Fl (iG b i) i) ag (by rw[aI ag]);unfold Fl at EU;have kst:=al.mk EU;have r7:=λH=>aqZ (dg (iG b i) (i - 15)) H;have r18:=λH=>aqT (dg (iG b i) (i - 15)) H;have r17:=λH=>aqS (dg (iG b i) (i - 2)) H;have r19:=λH=>aqU (dg (iG b i) (i - 2)) H;have kw:=al.mk hw;have ks:=al.mk mW;clear EU hw mW
  repeat' (first|simp(maxSteps:=999999)(disch:=first|exact dZ|fail)only[gW,reduceIte,aO,aM,si,pj,oP,yf,ye, *]|refine dX ?_ ?_<;>(intro _;try omega))
  refine vx av ?_
  repeat' (first|simp(maxSteps:=999999)(disch:=first|exact dZ|fail)only[gW,reduceIte,aO,aM,si,pj,oP,yf,ye, *]|refine dX ?_ ?_<;>(intro _;try omega))
  refine Su [6,8,20,22] [] av ?_ (λp hp=>nomatch hp) ?_
  ·intro k hk;simp only[iu,List.not_mem_nil,or_false] at hk;rcases hk with rfl|rfl|rfl|rfl
   ·refine Eg (x:=aT (NT.dO (dg (iG b i) (i - 15)) 7)) rfl rfl ?_ ?_
    ·simp only[hU,fR]
     repeat' (first|simp(maxSteps:=999999)(disch:=first|exact dZ|fail)only[gW,reduceIte,aO,aM, *]|refine dX ?_ ?_<;>(intro _;try omega))
     exact⟨by trivial,λ_=>by trivial⟩
    ·repeat' (first|simp(maxSteps:=999999)(disch:=first|exact dZ|fail)only[gW,reduceIte,aO,aM,pj,oP,yf,ye, *]|refine dX ?_ ?_<;>(intro _;try omega))
   ·refine Eg (x:=aT (NT.dO (dg (iG b i) (i - 15)) 18)) rfl rfl ?_ ?_
    ·simp only[hU,fR]
     repeat' (first|simp(maxSteps:=999999)(disch:=first|exact dZ|fail)only[gW,reduceIte,aO,aM, *]|refine dX ?_ ?_<;>(intro _;try omega))
     exact⟨by trivial,λ_=>by trivial⟩
    ·repeat' (first|simp(maxSteps:=999999)(disch:=first|exact dZ|fail)only[gW,reduceIte,aO,aM,pj,oP,yf,ye, *]|refine dX ?_ ?_<;>(intro _;try omega))
   ·refine Eg (x:=aT (NT.dO (dg (iG b i) (i - 2)) 17)) rfl rfl ?_ ?_
    ·simp only[hU,fR]
     repeat' (first|simp(maxSteps:=999999)(disch:=first|exact dZ|fail)only[gW,reduceIte,aO,aM,pj,oP,yf,ye, *]|refine dX ?_ ?_<;>(intro _;try omega))
     exact⟨by trivial,λ_=>by trivial⟩
    ·repeat' (first|simp(maxSteps:=999999)(disch:=first|exact dZ|fail)only[gW,reduceIte,aO,aM,pj,oP,yf,ye, *]|refine dX ?_ ?_<;>(intro _;try omega))
   ·refine Eg (x:=aT (NT.dO (dg (iG b i) (i - 2)) 19)) rfl rfl ?_ ?_
    ·simp only[hU,fR]
     repeat' (first|simp(maxSteps:=999999)(disch:=first|exact dZ|fail)only[gW,reduceIte,aO,aM,pj,oP,yf,ye, *]|refine dX ?_ ?_<;>(intro _;try omega))
     exact⟨by trivial,λ_=>by trivial⟩
    ·repeat' (first|simp(maxSteps:=999999)(disch:=first|exact dZ|fail)only[gW,reduceIte,aO,aM,pj,oP,yf,ye, *]|refine dX ?_ ?_<;>(intro _;try omega))
  repeat' (first|simp(maxSteps:=999999)(disch:=first|exact dZ|fail)only[gW,reduceIte,aO,aM,si,pj,oP,yf,ye, *]|refine dX ?_ ?_<;>(intro _;try omega))
  refine⟨64 - (i+1),by omega,i+1,by omega,by omega,rfl,aU,aU,rfl,aU,?_,?_,kM.out.fK (aJ _) _⟩
  ·rw[kst.out];exact eu (aS.1 kw.out).1
  ·rw[cX ag];exact ks.out
 subst hc;rw[Tb] at hw;have a230:=JQ;have s230:=FT;have lds:aH ao Gt H 230 (.ptr (.box sb) 0)=aa (.agg (bW s)):=by
  have h8:(bW s).length=8:=by rw[bu];exact hs
  rw[iL JQ FT mW (by rw[h8];exact aJ _),iO,gm (by rw[h8];exact aJ _)]
 have cs8:(AV.agg (bW s)).bP=aa (bW s):=J8 hs;have zz:(gZ ao 230).bind AV.bP=aa (bW (a9 8 0#32)):=by rw[S9];exact acf
 have spz:∀H:aq,b7 ao (H.push (bW (a9 8 0#32))) 230 (.ptr (.box H.boxes.length) 0) (.agg (bW s))=aa (H.push (bW s)):=λH=>jx (J8 hs) FT (by rw[bu];exact hs) (by rw[bu];rfl);have ju:=(aS.1 hw).1;have kw:=al.mk hw;have ks:=al.mk mW;clear hw mW;have hM:=kM.out
 repeat' (first|simp(maxSteps:=999999)(disch:=first|exact dZ|fail)only[gW,reduceIte,aO,aM,si, *]|refine dX ?_ ?_<;>(intro _;try omega))
 refine cz (λm e H2=>∃i:Nat,i<=64/\m=64 - i/\e.get 0=.ptr (.box sb) 0/\e.get 4=.ptr (.box h.boxes.length) 0/\e.get 9=.ptr (.box H.boxes.length) 0/\e.get 69=.v (.int .i64 i)/\e.defers=[]/\H2.boxes[h.boxes.length]?=aa (bW (iG b 64))/\H2.boxes[sb]?=aa (bW s)/\H2.boxes[H.boxes.length]?=aa (bW (vF s b i))/\fX sb h.tn h H2) ?_ 64 _ _ ?_;rotate_left 1
 ·refine⟨0,by decide,rfl,?_,?_,?_,?_,?_,aY kw.out,aY ks.out,aZ _ _,kM.out.push _⟩<;>(first|assumption|(exact gR))
 clear kw ks kM g0 g4 g6 hd lds cs8 zz spz hi Py hM;have hHL:h.boxes.length<H.boxes.length:=ju;generalize hvb:H.boxes.length=vb at *
 clear hvb ju vT;rintro m e H ⟨i,hi,rfl,g0,g4,g9,g69,hd,hw,mW,hv,hM⟩;have kM:=al.mk hM;have vT:=hM.len;clear hM;by_cases hc:i=64;rotate_left 1
 ·refine rM λQ=>?_;have aA:i<64:=by omega
  have lw:=rY hw (n:=i) (by rw[FN];exact aA);have lk:=λH=>alQ (H:=H) aA;have iw:=rX (b:=h.boxes.length) (n:=i) (k:=.i64) aA;have ik:=alC (g:=1) (n:=i) (k:=.i64) aA;have kR:=al.mk (S8 s b i);obtain⟨v0,v1,v2,v3,v4,v5,v6,v7,A3⟩:=eight (S7 b hs i);have kE:=al.mk (aq2 (iG b 64) _ i _ _ _ _ _ _ _ _ A3);rw[A3] at hv;have r1:=λH=>aq1 v4 H;have r2:=λH=>aq0 v0 H;have qW:H.boxes[vb]?=aa [aT v0,aT v1,aT v2,aT v3,aT v4,aT v5,aT v6,aT v7]:=hv;have kw:=al.mk hw;have ks:=al.mk mW;clear hw mW hv A3;have j0:dH ao 230 (.ptr (.box vb) 0) (.v (.int .i64 0))=aa (.ptr (.box vb) 0):=zu (n:=0) aV;have j1:dH ao 230 (.ptr (.box vb) 0) (.v (.int .i64 1))=aa (.ptr (.box vb) 1):=zu (n:=1) aV;have j2:dH ao 230 (.ptr (.box vb) 0) (.v (.int .i64 2))=aa (.ptr (.box vb) 2):=zu (n:=2) aV;have j4:dH ao 230 (.ptr (.box vb) 0) (.v (.int .i64 4))=aa (.ptr (.box vb) 4):=zu (n:=4) aV;have j5:dH ao 230 (.ptr (.box vb) 0) (.v (.int .i64 5))=aa (.ptr (.box vb) 5):=zu (n:=5) aV;have j6:dH ao 230 (.ptr (.box vb) 0) (.v (.int .i64 6))=aa (.ptr (.box vb) 6):=zu (n:=6) aV;have j7:dH ao 230 (.ptr (.box vb) 0) (.v (.int .i64 7))=aa (.ptr (.box vb) 7):=zu (n:=7) aV;have qs:=(aS.1 qW).1;have a42:=GJ;have s42:=yi;have cp:=ahF qW;have sla:=ati (b:=vb);have slb:=atj (b:=vb)
  repeat' (first|simp(maxSteps:=999999)(disch:=first|exact dZ|fail)only[gW,reduceIte,aO,aM,si,pj,oP,D7,pY,Aa,iO,Bw, *]|refine dX ?_ ?_<;>(intro _;try omega))
  refine Su [4] [] av ?_ (λp hp=>nomatch hp) ?_
  ·intro k hk;simp only[my] at hk;subst hk;refine Eg (x:=aT (NT.dO v4 6^^^NT.dO v4 11^^^NT.dO v4 25)) rfl rfl ?_ ?_
   ·simp only[hU,fR]
    repeat' (first|simp(maxSteps:=999999)(disch:=first|exact dZ|fail)only[gW,reduceIte,aO,aM,Aa,iO,Bw, *]|refine dX ?_ ?_<;>(intro _;try omega))
    exact⟨by trivial,λ_=>by trivial⟩
   ·repeat' (first|simp(maxSteps:=999999)(disch:=first|exact dZ|fail)only[gW,reduceIte,aO,aM,pj,oP,D7,pY,Aa,iO,Bw, *]|refine dX ?_ ?_<;>(intro _;try omega))
  repeat' (first|simp(maxSteps:=999999)(disch:=first|exact dZ|fail)only[gW,reduceIte,aO,aM,si,pj,oP,D7,pY,Aa,iO,Bw, *]|refine dX ?_ ?_<;>(intro _;try omega))
  refine Su [2] [] av ?_ (λp hp=>nomatch hp) ?_
  ·intro k hk;simp only[my] at hk;subst hk;refine Eg (x:=aT (NT.dO v0 2^^^NT.dO v0 13^^^NT.dO v0 22)) rfl rfl ?_ ?_
   ·simp only[hU,fR]
    repeat' (first|simp(maxSteps:=999999)(disch:=first|exact dZ|fail)only[gW,reduceIte,aO,aM,Aa,iO,Bw, *]|refine dX ?_ ?_<;>(intro _;try omega))
    exact⟨by trivial,λ_=>by trivial⟩
   ·repeat' (first|simp(maxSteps:=999999)(disch:=first|exact dZ|fail)only[gW,reduceIte,aO,aM,pj,oP,D7,pY,Aa,iO,Bw, *]|refine dX ?_ ?_<;>(intro _;try omega))
  repeat' (first|simp(maxSteps:=999999)(disch:=first|exact dZ|fail)only[gW,reduceIte,aO,aM,si,pj,oP,D7,pY,Aa,iO,Bw, *]|refine dX ?_ ?_<;>(intro _;try omega))
  refine vx av ?_;clear qW
  repeat' (first|simp(maxSteps:=999999)(disch:=first|exact dZ|fail)only[gW,reduceIte,aO,aM,si,Zb,stp,LF,oP,Aa,iO,Bw,TE,List.set_cons_succ, *]|refine dX ?_ ?_<;>(intro _;try omega))
  refine⟨64 - (i+1),by omega,i+1,by omega,rfl,aU,aU,aU,rfl,aU,?_,?_,?_,kM.out.fK ag _⟩
  ·rw[cX ag];exact kw.out
  ·rw[cX ag];exact ks.out
  ·rw[eu qs,kR.out,kE.out];rfl
 subst hc;have Xf:xe s b=Gu (·+·) s (vF s b 64):=rfl;rw[Xf];have h8:=S7 b hs 64;generalize vF s b 64=v at *
 have qs:=(aS.1 hv).1;have ks:=al.mk mW;have kv:=al.mk hv;clear hw mW hv Xf
 repeat' (first|simp(maxSteps:=999999)(disch:=first|exact dZ|fail)only[gW,reduceIte,aO,aM,si, *]|refine dX ?_ ?_<;>(intro _;try omega))
 refine cz (λm e H2=>∃i:Nat,i<=8/\m=8 - i/\e.get 0=.ptr (.box sb) 0/\e.get 9=.ptr (.box vb) 0/\e.get 129=.v (.int .i64 i)/\e.defers=[]/\H2.boxes[sb]?=aa (bW (zM s v i))/\H2.boxes[vb]?=aa (bW v)/\fX sb h.tn h H2) ?_ 8 _ _ ?_;rotate_left 1
 ·refine⟨0,by decide,rfl,?_,?_,?_,?_,ks.out,kv.out,kM.out⟩<;>(first|assumption|(exact gR))
 clear ks kv kM g0 g4 g9 g69 hd vT hi;rintro m e H ⟨i,hi,rfl,g0,g9,g129,hd,mW,hv,hM⟩;have kM:=al.mk hM;clear hM;by_cases hc:i=8;rotate_left 1
 ·refine rM λQ=>?_;have aA:i<8:=by omega
  have hz:=av4 hs h8 hi;have l1:=rY mW (n:=i) ag;have l2:=rY hv (n:=i) ag;rw[av3 hs h8 aA] at l1;have j1:=zu (b:=sb) (n:=i) (k:=.i64) aA;have j2:=zu (b:=vb) (n:=i) (k:=.i64) aA;have st:=Jc (x:=dg s i+dg v i) mW (n:=i) ag;rw[av5 hs h8 aA] at st;have nC:=(aS.1 mW).1;have kv:=al.mk hv;clear mW hv
  repeat' (first|simp(maxSteps:=999999)(disch:=first|exact dZ|fail)only[gW,reduceIte,aO,aM,si, *]|refine dX ?_ ?_<;>(intro _;try omega))
  refine vx av ?_
  repeat' (first|simp(maxSteps:=999999)(disch:=first|exact dZ|fail)only[gW,reduceIte,aO,aM,si,oP, *]|refine dX ?_ ?_<;>(intro _;try omega))
  refine⟨8 - (i+1),by omega,i+1,by omega,rfl,aU,aU,rfl,aU,eu nC,?_,kM.out.trans (.put _ _ _ _)⟩;rw[cX ag];exact kv.out
 subst hc;rw[av2 hs h8] at mW;have ks:=al.mk mW;clear mW hv
 repeat' (first|simp(maxSteps:=999999)(disch:=first|exact dZ|fail)only[gW,reduceIte,aO,aM,si, *]|refine dX ?_ ?_<;>(intro _;try omega))
 exact⟨_,rfl,ks.out,kM.out⟩
def R9:Tryz.f205.results.toList=[]:=av
def ahW(n)(h):nL ao h 42 216 (.v (.int .u32 n))=aa (.v (.int .u64 (IntKind.u64.wrap n)),h):=av
def rH(n)(h):nL ao h 3 216 (.v (.int .i64 n))=aa (.v (.int .u64 (IntKind.u64.wrap n)),h):=av
def Ej(n)(h):nL ao h 216 5 (.v (.int .u64 n))=aa (.v (.int .u8 (IntKind.u8.wrap n)),h):=av
def bZ(b:UInt8):AV:=.v (.int .u8 b.toNat)
abbrev bV(l:List UInt8):List AV:=l.map bZ
def vK(n k:Nat):List UInt8:=(bM k).map λi=>UInt8.ofNat (n/256^(k - 1 - i))
def N6(n k):(vK n k).length=k:=by simp[vK]
def wC(cs:List AV)(off len n i:Nat):List AV:=cs.take (off+len - i)++bV ((vK n len).drop (len - i))++cs.drop (off+len)
def aoP{cs}{off len n}:wC cs off len n 0=cs:=by unfold wC;rw[TO,TO,qF (by rw[N6];exact aJ _)];show Nu (off+len) cs++[]++_=_;rw[jr,yz]
def aoN{cs}{off len n i}(hi:i<=len)(hl:off+len<=cs.length):(wC cs off len n i).length=cs.length:=by unfold wC;simp only[dw,eS,bu,hJ,N6];omega
def aoO{cs}{off len n i}(hi:i<len)(hl:off+len<=cs.length):(wC cs off len n i).set (off+(len - 1 - i)) (bZ (UInt8.ofNat (n/256^i)))=wC cs off len n (i+1):=by
 unfold wC;have e1:off+len - i=(off+(len - 1 - i))+1:=by omega
 have e2:off+len - (i+1)=off+(len - 1 - i):=by omega
 have aA:off+(len - 1 - i)<cs.length:=by omega
 have e3:(vK n len).drop (len - (i+1))=UInt8.ofNat (n/256^i)::(vK n len).drop (len - i):=by
  rw[Bu (by rw[N6];omega)];congr 1
  ·unfold vK;rw[p9,Bv];congr 3;omega
  ·congr 1;omega
 rw[e1,e2,e3,adq aA];generalize he:cs[off+(len - 1 - i)]=z;rw[tL,tL,Nt _ _ (by rw[eS];omega),eS,show off+(len - 1 - i) - min (off+(len - 1 - i)) cs.length=0 by omega];simp
def Df(cs:List AV)(off len n:Nat):List AV:=cs.take off++bV (vK n len)++cs.drop (off+len)
def aoM{cs}{off len n}:wC cs off len n len=Df cs off len n:=by unfold wC Df;rw[uK,iO,Nat.add_sub_cancel]
def YU{b off len aD n}{k}(hn:n<len):dH ao 28 (.arr b off len aD) (.v (.int k (n:Nat)))=aa (.ptr (.box b) (off+n)):=by rw[E6 jz tI ag ag,dV,oN]
def MC{H}{b k}{cs}{v}(hb:H.boxes[b]?=aa cs)(hk:k<cs.length):b7 ao H 5 (.ptr (.box b) k) (bZ v)=aa (H.put b (cs.set k (bZ v))):=by rw[fA (xs:=[bZ v]) rfl tI hb rfl hk];congr 2;unfold eX;rw[BA,aG (show k<cs.length from hk)];simp
def S4(m):AV.v (.int .u8 (IntKind.u8.wrap ((m:Nat):Int)))=bZ (UInt8.ofNat m):=by unfold bZ;rw[show(UInt8.ofNat m).toNat=m%256 from UInt8.toNat_ofNat'];unfold IntKind.wrap;simp[IntKind.signed,IntKind.bits]
def RJ(b off len aD n:Nat)(cs:List AV)(h:aq)(hl:len<=8)(hn:n<18446744073709551616)(hb:h.boxes[b]?=aa cs)(hc:off+len<=cs.length):
 W.call 205 [.arr b off len aD,.v (.int .u64 (n:Nat))] h=aa (.ret (.tuple []),h.put b (Df cs off len n)):=by
 have u28:=jz;have Pb:=(aS.1 hb).1;have k0:=al.mk (nb hb);clear hb;refine cJ rfl Tryz.func205 rfl ?_;refine oT @R9 ?_;refine cz (λm e H=>∃i:Nat,i<=len/\m=len - i/\e.get 0=.arr b off len aD/\e.get 1=.v (.int .u64 (n:Nat))/\e.get 6=.v (.int .i64 (len:Nat))/\e.get 7=.v (.int .i64 i)/\e.defers=[]/\H=h.put b (wC cs off len n i)) ?_ len _ _ ?_;rotate_left 1
 ·refine⟨0,cA _,rfl,?_,?_,?_,?_,?_,by rw[aoP];exact k0.out.symm⟩<;>(first|assumption|(exact gR))
 rintro m e H ⟨i,hi,rfl,g0,g1,g6,g7,hd,rfl⟩;by_cases Co:i=len
 ·subst Co;rw[aoM];exact jm @R9
 ·refine rM λQ=>?_;have aA:i<len:=by omega
  have e1:IntKind.i64.wrap (8 * ((i:Nat):Int))=((8 * i:Nat):Int):=by rw[fN ag ag];omega
  have e2:IntKind.i64.wrap (((len:Nat):Int) - 1)=((len - 1:Nat):Int):=by rw[fN ag ag];omega
  have e3:IntKind.i64.wrap (((len - 1:Nat):Int) - ((i:Nat):Int))=((len - 1 - i:Nat):Int):=by rw[fN ag ag];omega
  have sh:∀(t:TypeId) (x y:Operand),cY ao .shr t x y (.v (.int .u64 (n:Nat))) (.v (.int .i64 ((8 * i:Nat):Int)))=aa (.v (.int .u64 ((n/256^i:Nat):Int))):=λt x y=>by rw[BP ag,dV,show IntKind.u64.bits=64 from rfl,DZ ag];congr 3;rw[Gc _ (by have:(0:Int)<2^(8 * i):=acP aV;omega)];have e8:(2:Int)^(8 * i)=((256^i:Nat):Int):=(by rw[Ge];simp);rw[e8];rfl
  have uv:=S4 (n/256^i);have ix:=YU (b:=b) (off:=off) (aD:=aD) (k:=.i64) (ag:len - 1 - i<len);have st:=MC (H:=h.put b (wC cs off len n i)) (v:=UInt8.ofNat (n/256^i)) (k:=off+(len - 1 - i)) (eu Pb) (by rw[aoN ag hc];omega);rw[aoO aA hc,LF] at st;refine OR @R9 @Ej ?_;refine⟨len - (i+1),by omega,i+1,by omega,rfl,aU,aU,aU,rfl,aU,rfl⟩
def GS:∀(i:Nat) (s:List eT) (b:List UInt8),gO (i+1) s b=xe (gO i s b) ((b.drop (64 * i)).take 64)
 |0,s,b=>rfl
 |i+1,s,b=>by rw[gO,GS i,gO,yv];congr 3;omega
def UU:∀(i j:Nat) (s:List eT) (b:List UInt8),gO (i+j) s b=gO j (gO i s b) (b.drop (64 * i))
 |0,j,s,b=>by rw[qb];rfl
 |i+1,j,s,b=>by rw[(ag:i+1+j=(i+j)+1),gO,UU i j,gO,yv];congr 2;omega
def Oc:∀(i:Nat) (s:List eT) (a b:List UInt8),64 * i<=a.length->gO i s (a++b)=gO i s a
 |0,_,_,_,_=>rfl
 |i+1,s,a,b,h=>by rw[gO,gO,List.take_append_of_le_length ag,acW ag];exact Oc i _ _ b (by rw[hJ];omega)
def afV{s}{b}(hs:s.length=8):(xe s b).length=8:=by have:=S7 b hs 64;unfold vF at this;unfold xe;simp[hs,this]
def vL:∀(i:Nat) (s:List eT) (b:List UInt8),s.length=8->(gO i s b).length=8
 |0,_,_,h=>h
 |i+1,s,b,h=>vL i _ _ (afV h)
def oR(r:Nat):Nat:=if r>55 then 128 else 64
def nM(rest:List UInt8)(n:Nat):List UInt8:=rest++0x80::a9 (oR rest.length - 9 - rest.length) 0++o8 n
def VV{rest}{n}(hr:rest.length<64):(nM rest n).length=oR rest.length:=by
 unfold nM oR;simp only[dw,iP,mM];have:(o8 n).length=8:=by simp[o8]
 rw[this];split<;>omega
def anE(b):ri b=b.take (64 * (b.length/64))++nM (b.drop (64 * (b.length/64))) b.length:=by
 unfold ri nM;have e:po b.length=oR (b.drop (64 * (b.length/64))).length - 9 - (b.drop (64 * (b.length/64))).length:=by unfold po oR;rw[hJ];split<;>omega
 rw[e,<-tL,<-tL,yz]
def as2(b):fe b=jM (gO (oR (b.drop (64 * (b.length/64))).length/64) (gO (b.length/64) NT.start b) (nM (b.drop (64 * (b.length/64))) b.length)):=by
 unfold fe;have hr:(b.drop (64 * (b.length/64))).length<64:=by rw[hJ];omega
 have hlen:(b.take (64 * (b.length/64))).length=64 * (b.length/64):=by rw[eS];omega
 rw[anE,dw,VV hr,hlen,show(64 * (b.length/64)+oR (b.drop (64 * (b.length/64))).length)/64=b.length/64+oR (b.drop (64 * (b.length/64))).length/64 by rw[Nat.mul_add_div aV]];have h2:gO (b.length/64) NT.start (b.take (64 * (b.length/64)))=gO (b.length/64) NT.start b:=by have:=Oc (b.length/64) NT.start (b.take (64 * (b.length/64))) (b.drop (64 * (b.length/64))) (by rw[hlen];exact aJ _);rw[yz] at this;exact this.symm
 have h1:(b.take (64 * (b.length/64))).drop (64 * (b.length/64))=[]:=qF (by rw[hlen];exact aJ _);rw[UU,acW (by rw[hlen];exact aJ _),h1,lJ];rw[Oc _ _ _ _ (by rw[hlen];exact aJ _),h2]
def alZ(n):vK (n * 8) 8=o8 n:=by unfold vK o8;apply JH;intro i hi;rw[fQ] at hi;congr 2;rw[show(256:Nat)=2^8 from rfl,<-GD]
def afh(x:eT):vK x.toNat 4=[UInt8.ofNat (x.toNat/16777216),UInt8.ofNat (x.toNat/65536),UInt8.ofNat (x.toNat/256),UInt8.ofNat x.toNat]:=by show[UInt8.ofNat (x.toNat/256^3),UInt8.ofNat (x.toNat/256^2),UInt8.ofNat (x.toNat/256^1),UInt8.ofNat (x.toNat/256^0)]=_;simp
def anu{s:List eT}{i}{x}(hi:s[i]?=aa x):jM (s.take (i+1))=jM (s.take i)++vK x.toNat 4:=by rw[ft hi,afh];unfold jM;rw[List.flatMap_append];simp
def Dd(s):(jM s).length=4 * s.length:=by
 unfold jM
 induction s with
 |nil=>rfl|cons a s ih=>rw[List.flatMap_cons,dw,ih];simp;omega
def mq(l):(bV l).length=l.length:=bu _
def aiz{rest}{n}(hr:rest.length<64):
 Df ((bV rest++(a9 128 (bZ 0)).drop rest.length).set rest.length (bZ 0x80)) (oR rest.length - 8) 8 (n * 8)=bV (nM rest n)++a9 (128 - oR rest.length) (bZ 0):=by
 have hL:oR rest.length=64∨oR rest.length=128:=by unfold oR;split<;>omega
 have hL2:rest.length+9<=oR rest.length:=by unfold oR;split<;>omega
 rw[Tx];obtain⟨k,hk⟩:∃k,128 - rest.length=k+1:=⟨127 - rest.length,by omega⟩;rw[hk,Bz,Nt _ _ (by rw[mq];exact aJ _),mq,uK,TE];unfold Df nM;rw[alZ];generalize oR rest.length=L at *
 have e1:Nu (L - 8) (bV rest++bZ 0x80::a9 k (bZ 0))=bV (rest++0x80::a9 (L - 9 - rest.length) 0):=by rw[List.take_append,mq,gm (by rw[mq];omega)];obtain⟨j,hj⟩:∃j,L - 8 - rest.length=j+1:=⟨L - 9 - rest.length,by omega⟩;rw[hj,hU,List.take_replicate,DZ ag];unfold bV;rw[mw,eC,yy,(ag:L - 9 - rest.length=j)]
 have e2:List.drop (L - 8+8) (bV rest++bZ 0x80::a9 k (bZ 0))=a9 (128 - L) (bZ 0):=by rw[DU,mq,qF (by rw[mq];omega),lJ];obtain⟨j,hj⟩:∃j,L - 8+8 - rest.length=j+1:=⟨L - 1 - rest.length,by omega⟩;rw[hj,Aa,Tx];congr 1;omega
 rw[e1,e2];unfold bV;rw[<-mw]
def vt:Tryz.f181.results.toList=[.cell 2 177]:=av
def D6:gI ao 177=aa ah:=av
def ru:dt ao 177=aa 32:=av
def FX:(gZ ao 177).bind AV.bP=aa (a9 32 (bZ 0)):=av
def alO(H):aH ao Gt H 229 (.ptr (.eV 0) 0)=aa (.agg (bW NT.start)):=av
def zK(l):(AV.agg (bV l)).bP=aa (bV l):=by
 have:(bV l).all AV.ek=ah:=by rw[ey];intro x hx;obtain⟨b,-,rfl⟩:=jP.1 hx;rfl
 unfold AV.bP;simp[this]
def Zt(H):zx ao H 28 (.v (.int .i64 64)) (.v (.int .i64 128))=aa (.arr H.boxes.length 0 64 128,H.push (a9 128 (bZ 0))):=av
def Jn(l):(a8 l).flatten=bV l:=by rw[Og];rfl
def ahE{H}{eb len aD}{x}{rest}{cs}(s:dT 1 H x (a8 rest))(hb:H.boxes[eb]?=aa cs)(h1:len<=cs.length)(h2:len<=aD)(h3:rest.length<=len):
 Ar ao H #[28,28] (.arr eb 0 len aD) x=aa (.v (.int .i64 (rest.length:Nat)),H.put eb (bV rest++cs.drop rest.length)):=by
 have hi:∃i,ao.info? 5=aa i/\i.size=1:=by
  have vR:=tI;unfold dt at vR;cases hq:ao.info? 5 with
  |none=>rw[hq] at vR;cases vR
  |some i=>rw[hq] at vR;exact⟨i,rfl,by simpa using vR⟩
 obtain⟨i,q1,q2⟩:=hi;have hu:((#[28,28]:Array Nat)[0]?).bind ao.underlying=aa (.slice 5):=av;unfold Ar;rw[hu];simp only[q1,q2,s.news,hb];rw[aG ⟨ag,h2⟩];have hm:Nat.min (a8 rest).length len=rest.length:=by rw[bu];exact DZ h3
 rw[hm,gm (by rw[bu];exact aJ _),Jn];have e:eX cs 0 (bV rest)=bV rest++cs.drop rest.length:=by unfold eX;rw[fR,lJ,qb,mq]
 rw[e];rfl
def SD{R:aq->Prop}{H0}{x}{l}(hx:∀H,R H->dT 1 H x (a8 l))(h0:R H0)(hl:64<=l.length):
 ∃y z,iN ao 28 x au (aa (.v (.int .i64 64))) au=aa y/\iN ao 28 x (aa (.v (.int .i64 64))) au au=aa z/\
  (∀H,R H->dT 1 H y (a8 (l.take 64)))/\∀H,R H->dT 1 H z (a8 (l.drop 64)):=by
 have A:∀H,R H->∃y,iN ao 28 x au (aa (.v (.int .i64 64))) au=aa y/\dT 1 H y (a8 (l.take 64)):=λH hH=>by obtain⟨y,y1,y2⟩:=(hx H hH).slice (t:=28) (lo:=au) (hi:=aa (.v (.int .i64 64))) (l:=0) (m:=64) aV jz tI (.inr ⟨.i64,rfl,by rw[bu];exact hl⟩) (.inl ⟨rfl,rfl⟩) aV;rw[iO,<-List.map_take] at y2;exact⟨y,y1,y2⟩
 have B:∀H,R H->∃y,iN ao 28 x (aa (.v (.int .i64 64))) au au=aa y/\dT 1 H y (a8 (l.drop 64)):=λH hH=>by obtain⟨y,y1,y2⟩:=(hx H hH).slice (t:=28) (lo:=aa (.v (.int .i64 64))) (hi:=au) (l:=64) (m:=l.length) aV jz tI (.inl ⟨rfl,by rw[bu]⟩) (.inr ⟨.i64,rfl⟩) hl;rw[gm (by rw[bu];exact aJ _),<-ade] at y2;exact⟨y,y1,y2⟩
 obtain⟨y,y1,-⟩:=A H0 h0;obtain⟨z,z1,-⟩:=B H0 h0;refine⟨y,z,y1,z1,λH hH=>?_,λH hH=>?_⟩
 ·obtain⟨y',q1,q2⟩:=A H hH;rw[y1] at q1;cases q1;exact q2
 ·obtain⟨y',q1,q2⟩:=B H hH;rw[z1] at q1;cases q1;exact q2
def YT{l}{i}{k}(hl:l.length=8)(hi:i<8):CZ ao 230 (.agg (bW l)) (.v (.int k (i:Nat)))=aa (aT (dg l i)):=by
 have hu:=ad1;unfold CZ;rw[hu];simp only[yi];rw[aG ⟨ag,by omega⟩];unfold Iw;rw[GJ];simp only[yi];rw[dV,oN];have jT:i<l.length:=by omega
 show(bW l)[i]?=_;rw[ej,dg,ez,aR jT];rfl
def abl{b i}(hi:i<8):iN ao 177 (.ptr (.box b) 0) (aa (.v (.int .i64 ((4 * i:Nat):Int)))) (aa (.v (.int .i64 ((4 * i+4:Nat):Int)))) au=aa (.arr b (4 * i) 4 (32 - 4 * i)):=by
 have hu:=Tryz.underlying177;unfold iN;rw[hu];have h1:gK 32 au 32=aa 32:=rfl;have h2:gK 32 (aa (.v (.int .i64 ((4 * i+4:Nat):Int)))) 32=aa (4 * i+4):=by show(if _ then _ else _)=_;rw[aG ⟨ag,by omega⟩,dV]
 have h3:gK (4 * i+4) (aa (.v (.int .i64 ((4 * i:Nat):Int)))) 0=aa (4 * i):=by show(if _ then _ else _)=_;rw[aG ⟨ag,by omega⟩,dV]
 simp only[tI,h1,h2,h3];rw[aI bE,aI ag,qb,oN,(ag:4 * i+4 - 4 * i=4)]
def VJ{v:eT}{H}:nL ao H 42 216 (aT v)=aa (.v (.int .u64 (v.toNat:Nat)),H):=by unfold aT;rw[ahW];congr 4;unfold IntKind.wrap;simp[IntKind.signed,IntKind.bits];have:=v.isLt;omega
def abu(cs):eX cs 0 cs=cs:=by unfold eX;simp
def ZP{s}(hs:s.length=8){i}(hi:i<8):Df (bV (jM (s.take i))++a9 (32 - 4 * i) (bZ 0)) (4 * i) 4 (dg s i).toNat=bV (jM (s.take (i+1)))++a9 (32 - 4 * (i+1)) (bZ 0):=by
 have hl:(bV (jM (s.take i))).length=4 * i:=by rw[mq,Dd,eS];omega
 have hx:s[i]?=aa (dg s i):=by unfold dg;rw[ez,aR ag];rfl
 unfold Df;rw[anu hx,JK hl,DU,hl,qF ag,lJ,Tx,(ag:32 - 4 * i - (4 * i+4 - 4 * i)=32 - 4 * (i+1))];unfold bV;rw[mw]
def aif(b)(i):xe (gO i NT.start b) ((b.drop (64 * i)).take 64)=gO (i+1) NT.start b:=(GS i _ b).symm
def abi(b:List UInt8)(x:AV)(h:aq)(s:dT 1 h x (a8 b))(hb:b.length<=1152921504606846975):
 ∃h',W.call 181 [x] h=aa (.ret (.agg (bV (fe b))),h')/\Ext h h':=by
 have u28:=jz;have z177:=FX;have zz:(gZ ao 230).bind AV.bP=aa (bW (a9 8 0#32)):=by rw[S9];exact acf
 have cs8:(AV.agg (bW NT.start)).bP=aa (bW NT.start):=J8 rfl;have spz:∀H:aq,b7 ao (H.push (bW (a9 8 0#32))) 230 (.ptr (.box H.boxes.length) 0) (.agg (bW NT.start))=aa (H.push (bW NT.start)):=λH=>jx (J8 rfl) FT rfl rfl;have spz2:∀H:aq,∀y,b7 ao ((H.push y).push (bW (a9 8 0#32))) 230 (.ptr (.box (H.boxes.length+1)) 0) (.agg (bW NT.start))=aa ((H.push y).push (bW NT.start)):=λH y=>by rw[<-cH H y];exact spz _
 have lx:=s.len jz;rw[bu] at lx;have kS:=al.mk s;have kSs:=al.mk (as2 b);clear s;refine hY rfl Tryz.func181 rfl ?_;refine cQ @vt @cH @alO ?_;generalize eZ:(h.push (a9 32 (bZ 0))).push (bW NT.start)=H0;generalize lF:h.boxes.length+1=sb;have kx:al (∀H',fX sb h.tn H0 H'->dT 1 H' x (a8 b)):=⟨λH' m=>kS.out.mono λc cs hc=>by have aA:=(aS.1 hc).1;refine m.box c cs ag ?_;rw[<-eZ];exact aY (aY hc)⟩;have bB:H0.boxes[h.boxes.length]?=aa (a9 32 (bZ 0)):=by rw[<-eZ];exact aY (aZ _ _)
 have vZ:H0.boxes[sb]?=aa (bW (gO 0 NT.start b)):=by rw[<-eZ,<-lF];exact nt (by rw[cH])
 have WE:Ext h H0:=by rw[<-eZ];exact(Ext.push _ _).trans (.push _ _)
 have awG:h.boxes.length<sb:=by omega
 have O0:H0.boxes.length=sb+1:=by rw[<-eZ,<-lF,cH,cH]
 have kd:=al.mk bB;have kE:=al.mk WE;have ks:=al.mk vZ;clear bB WE vZ eZ lF z177 zz cs8 spz spz2 kS;refine cz (λm e H=>∃(i:Nat) (y:AV),64 * i<=b.length/\m=b.length - 64 * i/\e.get 0=x/\e.get 2=.ptr (.box h.boxes.length) 0/\e.get 3=.ptr (.box sb) 0/\e.get 4=.func (.func 204) [.ptr (.box sb) 0] []/\e.get 5=y/\e.defers=[]/\(∀H',fX sb h.tn H0 H'->dT 1 H' y (a8 (b.drop (64 * i))))/\H.boxes[sb]?=aa (bW (gO i NT.start b))/\fX sb h.tn H0 H) ?_ b.length _ _ ?_;rotate_left 1
 ·refine⟨0,x,cA _,rfl,?_,?_,?_,?_,?_,?_,kx.out,ks.out,fX.refl _ _ _⟩<;>(first|assumption|(exact gR))
 clear ks;rintro m e H ⟨i,y,hi,rfl,g0,g2,g3,g4,g5,hd,hy,lF,hM⟩;have ly:=(hy H hM).len jz;rw[bu,hJ] at ly;by_cases hc:64<=b.length - 64 * i
 ·refine rM λQ=>?_;obtain⟨y1,y2,q1,q2,q3,q4⟩:=SD hy hM (by rw[hJ];exact hc);obtain⟨H2,c1,c2,c3⟩:=NR _ _ sb y1 H (vL i NT.start b rfl) (by rw[eS,hJ];omega) lF (λH' m=>q3 H' (hM.trans (m.uE (fw kE.out.tn hM.tn))));rw[aif] at c2;have kM:=al.mk (hM.trans (c3.uE (fw kE.out.tn hM.tn)));have kq:=al.mk q4;have k2:=al.mk c2;clear hM c2 c3 q3 q4 hy lF;refine cQ @vt @kL.{0} @lJ.{0} ?_;refine⟨b.length - 64 * (i+1),by omega,i+1,y2,by omega,rfl,aU,aU,aU,aU,rfl,aU,?_,k2.out,kM.out⟩;rw[(ag:64 * (i+1)=64 * i+64),<-yv];exact kq.out
 have pR:b.length/64=i:=by omega
 have kSh:=al.mk kSs.out;rw[pR] at kSh;have cP:(b.drop (64 * i)).length<64:=by rw[hJ];omega
 have xK:b.length - 64 * i=(b.drop (64 * i)).length:=by rw[hJ]
 rw[xK] at ly hc;have h8:=vL i NT.start b rfl;generalize gO i NT.start b=s1 at *
 generalize b.drop (64 * i)=r at *
 clear xK kSs;have kM:=al.mk hM;have vT:=hM.len;have YI:=hy (H.push (a9 128 (bZ 0))) (hM.push _);have cp:=ahE (len:=64) (aD:=128) YI (aZ _ _) (by rw[mM];decide) aV ag;rw[pc] at cp;have e1:IntKind.u64.wrap ((b.length:Nat):Int)=((b.length:Nat):Int):=by unfold IntKind.wrap;simp[IntKind.signed,IntKind.bits];omega
 have e2:IntKind.u64.wrap (((b.length:Nat):Int) * 8)=((b.length * 8:Nat):Int):=by unfold IntKind.wrap;simp[IntKind.signed,IntKind.bits];omega
 have ix:=YU (b:=H.boxes.length) (off:=0) (aD:=128) (k:=.i64) cP;rw[qb] at ix;have OZ:(bV r++(a9 128 (bZ 0)).drop r.length).length=128:=by rw[dw,mq,hJ,mM];omega
 have st:b7 ao (H.push (bV r++(a9 128 (bZ 0)).drop r.length)) 5 (.ptr (.box H.boxes.length) r.length) (.v (.int .u8 128))=aa (H.push ((bV r++(a9 128 (bZ 0)).drop r.length).set r.length (bZ 0x80))):=by have:=MC (H:=H.push (bV r++(a9 128 (bZ 0)).drop r.length)) (v:=0x80) (aZ _ _) (k:=r.length) (by rw[OZ];omega);rw[pc] at this;exact this
 have hE:=aiz (n:=b.length) cP;have WD:((bV r++(a9 128 (bZ 0)).drop r.length).set r.length (bZ 0x80)).length=128:=by rw[mr,OZ]
 generalize bV r++(a9 128 (bZ 0)).drop r.length=C1 at *
 generalize C1.set r.length (bZ 0x80)=C2 at *
 have kEl:=al.mk (VV (n:=b.length) cP);have pe:=λ(off aD:Nat) (ho:off+8<=128)=>RJ H.boxes.length off 8 aD (b.length * 8) C2 (H.push C2) aV ag (aZ _ _) (by rw[WD];exact ho);simp only[pc] at pe;have ks:=al.mk lF;clear YI hy hM lF OZ WD hi pR;have hL:(r.length<=55/\oR r.length=64)∨(55<r.length/\oR r.length=128):=by unfold oR;split<;>omega
 rcases hL with⟨hr,hL⟩|⟨hr,hL⟩
 ·rw[hL] at hE kEl kSh;have p1:=pe 56 72 aV;rw[hE] at p1;have sl:iN ao 28 (.arr H.boxes.length 0 64 128) (aa (.v (.int .i64 (((64:Nat):Int) - 8)))) au au=aa (.arr H.boxes.length 56 8 72):=av;clear pe hE hL;refine cQ @vt @Zt @rH ?_;have hlen:=kEl.out;generalize fY:H.push (bV (nM r b.length)++a9 (128 - 64) (bZ 0))=H1;generalize hz:H.boxes.length=eb;have xz:H1.boxes[eb]?=aa (bV (nM r b.length)++a9 (128 - 64) (bZ 0)):=by rw[<-fY,<-hz];exact aZ _ _
  have Hl:fX sb h.tn H0 H1:=by rw[<-fY];exact kM.out.push _
  have bD:H1.boxes[sb]?=aa (bW s1):=by rw[<-fY];exact aY ks.out
  have bG:eb≠sb:=by omega
  have hR:∀H',fX sb h.tn H1 H'->dT 1 H' (.arr eb 0 64 128) (a8 ((nM r b.length).drop (64 * 0))):=λH' m=>by
   rw[adB,iO];refine⟨Ai _,.inr ⟨eb,0,128,_,by rw[bu,hlen],by rw[bu,hlen];decide,m.box _ _ bG xz,?_,?_⟩⟩
   ·rw[Jn,bu,oN,iO,JK (mq _)]
   ·rw[bu,dw,mq,hlen,mM];decide
  have kR:=al.mk hR;have kB:=al.mk xz;have kM1:=al.mk Hl;have kS1:=al.mk bD;clear xz Hl bD hR fY hz kM ks cp st p1 sl ix;refine cz (λm e H=>∃(i:Nat) (y:AV),64 * i<=64/\m=64 - 64 * i/\e.get 2=.ptr (.box h.boxes.length) 0/\e.get 3=.ptr (.box sb) 0/\e.get 4=.func (.func 204) [.ptr (.box sb) 0] []/\e.get 6=y/\e.defers=[]/\(∀H',fX sb h.tn H1 H'->dT 1 H' y (a8 ((nM r b.length).drop (64 * i))))/\H.boxes[sb]?=aa (bW (gO i s1 (nM r b.length)))/\fX sb h.tn H1 H) ?_ 64 _ _ ?_;rotate_left 1
  ·refine⟨0,.arr eb 0 64 128,cA _,rfl,?_,?_,?_,?_,?_,kR.out,kS1.out,fX.refl _ _ _⟩<;>(first|assumption|(exact gR))
  clear kR kS1 g0 g2 g3 g4 g5 hd ly hc;rintro m e H ⟨i,y,hi,rfl,g2,g3,g4,g6,hd,hy,lF,hM⟩;have ly:=(hy H hM).len jz;rw[bu,hJ,hlen] at ly;by_cases hc:0<64 - 64 * i
  ·refine rM λQ=>?_;obtain⟨y1,y2,q1,q2,q3,q4⟩:=SD hy hM (by rw[hJ,hlen];omega);obtain⟨H2,c1,c2,c3⟩:=NR _ _ sb y1 H (vL i s1 _ h8) (by rw[eS,hJ,hlen];omega) lF (λH' m=>q3 H' (hM.trans (m.uE (fw kE.out.tn (fw kM1.out.tn hM.tn)))));rw[<-GS] at c2;have kM:=al.mk (hM.trans (c3.uE (fw kE.out.tn (fw kM1.out.tn hM.tn))));have kq:=al.mk q4;have k2:=al.mk c2;clear hM c2 c3 q3 q4 hy lF;refine cQ @vt @kL.{0} @lJ.{0} ?_;refine⟨64 - 64 * (i+1),by omega,i+1,y2,by omega,rfl,aU,aU,aU,rfl,aU,?_,k2.out,kM.out⟩;rw[(ag:64 * (i+1)=64 * i+64),<-yv];exact kq.out
  have pR:i=64/64:=by omega
  subst pR;have He:=vL (64/64) s1 (nM r b.length) h8;generalize gO (64/64) s1 (nM r b.length)=s2 at *
  have hX:Ext h H:=kE.out.mut (kM1.out.trans hM) ag;have me:=(kM1.out.trans hM).box _ _ ag kd.out;have yT:s2.length=8:=He;have lds:aH ao Gt H 230 (.ptr (.box sb) 0)=aa (.agg (bW s2)):=by have Ig:(bW s2).length=8:=(by rw[bu];exact yT);rw[iL JQ FT lF (by rw[Ig];exact aJ _),iO,gm (by rw[Ig];exact aJ _)]
  have kX:=al.mk hX;have kdb:=al.mk me;clear hX me lF hM hy kM1 kd kB kE He;have kSh2:al (fe b=jM s2):=⟨kSh.out⟩;clear kSh;refine br @vt ?_;refine cz (λm e H=>∃(i:Nat),i<=8/\m=8 - i/\e.get 2=.ptr (.box h.boxes.length) 0/\e.get 53=.agg (bW s2)/\e.get 54=.v (.int .i64 i)/\e.defers=[]/\H.boxes[h.boxes.length]?=aa (bV (jM (s2.take i))++a9 (32 - 4 * i) (bZ 0))/\Ext h H) ?_ 8 _ _ ?_;rotate_left 1
  ·refine⟨0,by decide,rfl,?_,?_,?_,?_,kdb.out,kX.out⟩<;>(first|assumption|(exact gR))
  clear kdb kX lds g2 g3 g4 g6 hd ly hc;rintro m e H ⟨i,hi,rfl,g2,g53,g54,hd,me,hX⟩;by_cases hc:i=8
  ·subst hc;rw[gm ag] at me;have e0:bV (jM s2)++a9 (32 - 4 * 8) (bZ 0)=bV (jM s2):=jr _;rw[e0,<-kSh2.out] at me;have yU:(bV (fe b)).length=32:=(by rw[mq,kSh2.out,Dd,yT]);have l177:aH ao Gt H 177 (.ptr (.box h.boxes.length) 0)=aa (.agg (bV (fe b))):=(by rw[iL D6 ru me (by rw[yU];exact aJ _),iO,gm (by rw[yU];exact aJ _)]);have s177:b7 ao H 177 (.ptr (.box h.boxes.length) 0) (.agg (bV (fe b)))=aa H:=(by rw[fA (zK _) ru me yU (by rw[yU];exact aJ _),abu,nb me]);have kX:=al.mk hX;clear me hX;refine br @vt ?_;exact⟨_,rfl,kX.out⟩
  ·refine rM λQ=>?_;have aA:i<8:=(by omega);have iv:=YT (k:=.i64) yT aA;have e4:IntKind.i64.wrap (4 * ((i:Nat):Int))=((4 * i:Nat):Int):=(by rw[fN ag ag];omega);have e5:IntKind.i64.wrap (((4 * i:Nat):Int)+4)=((4 * i+4:Nat):Int):=(by rw[fN ag ag];omega);have sl:=abl (b:=h.boxes.length) aA;have pe:=RJ h.boxes.length (4 * i) 4 (32 - 4 * i) (dg s2 i).toNat _ H aV (by have:=(dg s2 i).isLt;omega) me (by rw[dw,mq,Dd,eS,mM];omega);rw[ZP yT aA] at pe;have nT:=(aS.1 me).1;have kX:=al.mk hX;clear me hX;refine bK @vt @VJ ?_;refine⟨8 - (i+1),by omega,i+1,by omega,rfl,aU,aU,rfl,aU,eu nT,kX.out.fK (aJ _) _⟩
 ·rw[hL] at hE kEl kSh;have p1:=pe 120 8 aV;rw[hE] at p1;have sl0:iN ao 28 (.arr H.boxes.length 0 64 128) au (aa (.v (.int .i64 128))) au=aa (.arr H.boxes.length 0 128 128):=av;have sl:iN ao 28 (.arr H.boxes.length 0 128 128) (aa (.v (.int .i64 (((128:Nat):Int) - 8)))) au au=aa (.arr H.boxes.length 120 8 8):=av;clear pe hE hL;refine cQ @vt @Zt @rH ?_;have hlen:=kEl.out;generalize fY:H.push (bV (nM r b.length)++a9 (128 - 128) (bZ 0))=H1;generalize hz:H.boxes.length=eb;have xz:H1.boxes[eb]?=aa (bV (nM r b.length)++a9 (128 - 128) (bZ 0)):=by rw[<-fY,<-hz];exact aZ _ _
  have Hl:fX sb h.tn H0 H1:=by rw[<-fY];exact kM.out.push _
  have bD:H1.boxes[sb]?=aa (bW s1):=by rw[<-fY];exact aY ks.out
  have bG:eb≠sb:=by omega
  have hR:∀H',fX sb h.tn H1 H'->dT 1 H' (.arr eb 0 128 128) (a8 ((nM r b.length).drop (64 * 0))):=λH' m=>by
   rw[adB,iO];refine⟨Ai _,.inr ⟨eb,0,128,_,by rw[bu,hlen],by rw[bu,hlen];decide,m.box _ _ bG xz,?_,?_⟩⟩
   ·rw[Jn,bu,oN,iO,JK (mq _)]
   ·rw[bu,dw,mq,hlen,mM];decide
  have kR:=al.mk hR;have kB:=al.mk xz;have kM1:=al.mk Hl;have kS1:=al.mk bD;clear xz Hl bD hR fY hz kM ks cp st p1 sl ix;refine cz (λm e H=>∃(i:Nat) (y:AV),64 * i<=128/\m=128 - 64 * i/\e.get 2=.ptr (.box h.boxes.length) 0/\e.get 3=.ptr (.box sb) 0/\e.get 4=.func (.func 204) [.ptr (.box sb) 0] []/\e.get 6=y/\e.defers=[]/\(∀H',fX sb h.tn H1 H'->dT 1 H' y (a8 ((nM r b.length).drop (64 * i))))/\H.boxes[sb]?=aa (bW (gO i s1 (nM r b.length)))/\fX sb h.tn H1 H) ?_ 128 _ _ ?_;rotate_left 1
  ·refine⟨0,.arr eb 0 128 128,cA _,rfl,?_,?_,?_,?_,?_,kR.out,kS1.out,fX.refl _ _ _⟩<;>(first|assumption|(exact gR))
  clear kR kS1 g0 g2 g3 g4 g5 hd ly hc;rintro m e H ⟨i,y,hi,rfl,g2,g3,g4,g6,hd,hy,lF,hM⟩;have ly:=(hy H hM).len jz;rw[bu,hJ,hlen] at ly;by_cases hc:0<128 - 64 * i
  ·refine rM λQ=>?_;obtain⟨y1,y2,q1,q2,q3,q4⟩:=SD hy hM (by rw[hJ,hlen];omega);obtain⟨H2,c1,c2,c3⟩:=NR _ _ sb y1 H (vL i s1 _ h8) (by rw[eS,hJ,hlen];omega) lF (λH' m=>q3 H' (hM.trans (m.uE (fw kE.out.tn (fw kM1.out.tn hM.tn)))));rw[<-GS] at c2;have kM:=al.mk (hM.trans (c3.uE (fw kE.out.tn (fw kM1.out.tn hM.tn))));have kq:=al.mk q4;have k2:=al.mk c2;clear hM c2 c3 q3 q4 hy lF;refine cQ @vt @kL.{0} @lJ.{0} ?_;refine⟨128 - 64 * (i+1),by omega,i+1,y2,by omega,rfl,aU,aU,aU,rfl,aU,?_,k2.out,kM.out⟩;rw[(ag:64 * (i+1)=64 * i+64),<-yv];exact kq.out
  have pR:i=128/64:=by omega
  subst pR;have He:=vL (128/64) s1 (nM r b.length) h8;generalize gO (128/64) s1 (nM r b.length)=s2 at *
  have hX:Ext h H:=kE.out.mut (kM1.out.trans hM) ag;have me:=(kM1.out.trans hM).box _ _ ag kd.out;have yT:s2.length=8:=He;have lds:aH ao Gt H 230 (.ptr (.box sb) 0)=aa (.agg (bW s2)):=by have Ig:(bW s2).length=8:=(by rw[bu];exact yT);rw[iL JQ FT lF (by rw[Ig];exact aJ _),iO,gm (by rw[Ig];exact aJ _)]
  have kX:=al.mk hX;have kdb:=al.mk me;clear hX me lF hM hy kM1 kd kB kE He;have kSh2:al (fe b=jM s2):=⟨kSh.out⟩;clear kSh;refine br @vt ?_;refine cz (λm e H=>∃(i:Nat),i<=8/\m=8 - i/\e.get 2=.ptr (.box h.boxes.length) 0/\e.get 53=.agg (bW s2)/\e.get 54=.v (.int .i64 i)/\e.defers=[]/\H.boxes[h.boxes.length]?=aa (bV (jM (s2.take i))++a9 (32 - 4 * i) (bZ 0))/\Ext h H) ?_ 8 _ _ ?_;rotate_left 1
  ·refine⟨0,by decide,rfl,?_,?_,?_,?_,kdb.out,kX.out⟩<;>(first|assumption|(exact gR))
  clear kdb kX lds g2 g3 g4 g6 hd ly hc;rintro m e H ⟨i,hi,rfl,g2,g53,g54,hd,me,hX⟩;by_cases hc:i=8
  ·subst hc;rw[gm ag] at me;have e0:bV (jM s2)++a9 (32 - 4 * 8) (bZ 0)=bV (jM s2):=jr _;rw[e0,<-kSh2.out] at me;have yU:(bV (fe b)).length=32:=(by rw[mq,kSh2.out,Dd,yT]);have l177:aH ao Gt H 177 (.ptr (.box h.boxes.length) 0)=aa (.agg (bV (fe b))):=(by rw[iL D6 ru me (by rw[yU];exact aJ _),iO,gm (by rw[yU];exact aJ _)]);have s177:b7 ao H 177 (.ptr (.box h.boxes.length) 0) (.agg (bV (fe b)))=aa H:=(by rw[fA (zK _) ru me yU (by rw[yU];exact aJ _),abu,nb me]);have kX:=al.mk hX;clear me hX;refine br @vt ?_;exact⟨_,rfl,kX.out⟩
  ·refine rM λQ=>?_;have aA:i<8:=(by omega);have iv:=YT (k:=.i64) yT aA;have e4:IntKind.i64.wrap (4 * ((i:Nat):Int))=((4 * i:Nat):Int):=(by rw[fN ag ag];omega);have e5:IntKind.i64.wrap (((4 * i:Nat):Int)+4)=((4 * i+4:Nat):Int):=(by rw[fN ag ag];omega);have sl:=abl (b:=h.boxes.length) aA;have pe:=RJ h.boxes.length (4 * i) 4 (32 - 4 * i) (dg s2 i).toNat _ H aV (by have:=(dg s2 i).isLt;omega) me (by rw[dw,mq,Dd,eS,mM];omega);rw[ZP yT aA] at pe;have nT:=(aS.1 me).1;have kX:=al.mk hX;clear me hX;refine bK @vt @VJ ?_;refine⟨8 - (i+1),by omega,i+1,by omega,rfl,aU,aU,rfl,aU,eu nT,kX.out.fK (aJ _) _⟩
end Go.Proofs.YtnfciiiohoafaaaGreatDoor
end
