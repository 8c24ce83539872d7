/-
  The engine, part 47: lists that grow.
-/
import Derived.Test.YtcbhpkjbiehcpaaGreatDoorSB
open True renaming intro->br
open Go.Proofs.Tryz renaming prog->ag,underlying60->nu,underlying29->Mg,underlying3->rG,underlying23->dp,underlying9->Bn,func203->adm,underlying116->mw,func210->SS,func225->SV,func226->SW,func227->ado,func173->SQ
open Option renaming some->J,none->aq,bind_some->jO,map_some->gc,some.injEq->d_,map_map->L'
open List renaming length->F,replicate->bR,set_set->D',set_eq_take_append_cons_drop->yQ,getElem?_eq_some_iff->bk,length_map->bJ,take->Sg,take_of_length_le->fK,map_drop->acB,length_drop->fJ,mem_cons->hh,not_mem_nil->qR,take_succ_cons->dY,take_zero->dG,drop_zero->gP,drop_succ_cons->xl,head?_cons->yM,mem_singleton->iL,set_cons_zero->acL,range->bT,drop_of_length_le->oo,append_nil->iB,take_append_drop->xq,length_append->de,length_take->dJ,getElem_map->qQ,getElem_range->LJ,append_assoc->jx,set_append_right->Hh,drop_drop->rB,drop_append_of_le_length->acn,length_cons->eZ,length_replicate->nj,nil_append->eP,map_congr_left->yN,mem_range->hy,drop_replicate->Lx,replicate_succ->D_,map_append->jN,map_cons->dR,drop_append->yJ,all_eq_true->ff,mem_map->iX,getElem?_map->eF,getD_eq_getElem?_getD->fg,getElem?_eq_getElem->aY,take_left'->vP,cons_append->eY,length_set->nS,flatten_cons->kJ,length_nil->gi,getElem?_toArray->je,getElem?_cons_zero->jy,getElem?_cons_succ->nR,flatten_append->ux,take_length->gy,mem_of_getElem?->dy,mem_flatten->acF,mem_cons_self->gt,map_nil->sV,head?_drop->Hg,foldl_append->ot,getElem?_set->mq,map_set->acC,getElem?_take->o0,getElem?_drop->rD,mem_filter->rE,ext_getElem?->oq,mem_cons_of_mem->gr,filter_cons_of_neg->yK,filter_cons_of_pos->yL,ext_getElem->He,mem_or_eq_of_mem_set->vO,getElem_mem->jf,eq_of_mem_replicate->R_,getElem?_replicate->acu,nodup_cons->acG,foldl_cons->A',contains_iff_mem->ack,mem_iff_getElem->xo
open Nat renaming reduceEqDiff->aT,zero_le->cC,le_refl->bh,sub_zero->ada,sub_self->sW,mul_one->mr,min_eq_left->Ed,zero_add->nT,le_trans->fB,mul_zero->ac2,mul_le_mul->kL,eq_zero_or_pos->LR,and_two_pow_sub_one_eq_mod->acS,pow_succ->yS,mul_pos->LW,pow_pos->LX,mod_lt->lT,add_mul->jm,mod_eq_of_lt->nq,pow_le_pow_right->ac6,lt_of_lt_of_le->mQ,lt_succ_of_lt->LU,lt_or_ge->eg
open Int renaming toNat_natCast->fe,fdiv_eq_ediv_of_nonneg->RQ,sub_zero->RZ,natCast_zero->uu,dvd_add->vN,emod_eq_emod_iff_emod_sub_eq_zero->ab4,zero_add->Hc,emod_emod_of_dvd->DS,dvd_refl->DR,mul_comm->G9,mul_sub->G_,dvd_mul_of_dvd_right->DQ
open Go renaming TypeId->aO,Program->bL,FuncId->a_,Value->aQ
open Bool renaming true->aa,false->au,and_eq_true->bQ,and_true->GZ
open And renaming intro->ar
open Prod renaming mk.injEq->dz,fst->jz
set_option maxHeartbeats 64000000
set_option maxRecDepth 100000
set_option linter.unusedSimpArgs false
set_option linter.unusedVariables false
set_option linter.constructorNameAsVariable false
set_option linter.defProp false
section
namespace Go.Proofs.YtcbhpkjbiehcpaaGreatDoor
open Go.AE Go.NT
def wU{t}{x y}{u}:df ag .shr t x y (b7 u) (.v (.int .u64 3))=J (b7 (u>>>3)):=sI (n:=3) bm
def wT{t}{x y}{u}:df ag .shr t x y (b7 u) (.v (.int .u64 10))=J (b7 (u>>>10)):=sI (n:=10) bm
def HQ{s}(d:F s=8):(V.agg (eO s)).bP=J (eO s):=by obtain⟨a,b,c,g,e,f,m,j,rfl⟩:=eight d;rfl
def abL(n):eO (bR n 0#32)=bR n (b7 0#32):=by simp[eO]
def uQ{R}{c}{e}{h}{o}{m}{d}(g:∀Q,bM R c e h (AA o m Q)):bM R c e h (AA o m d):=g d
def JV{h:ah}{b}{xs d}:(h.put b xs).put b d=h.put b d:=by unfold ah.put;simp only[D']
def Pc{H:ah}{b k}{cs}(d:b<F H.I):aL ag Gt (H.put b cs) 69 (.ptr (.box b) k)=(cs.drop k).head?:=fx Em (dM d)
def stp{H:ah}{b k}{cs}{x:fk}(g:b<F H.I)(d:k+1<=F cs):b9 ag (H.put b cs) 69 (.ptr (.box b) k) (b7 x)=J (H.put b (cs.set k (b7 x))):=by rw[fI (xs:=[b7 x]) O wV (dM g) O d,JV];congr 2;unfold ej;rw[yQ,aH (show k<F cs from d)];simp
def auk{b}:gY ag 257 (.ptr (.box b) 0) (J (.v (.int .i64 1))) aq aq=J (.arr b 1 7 7):=aB
def aul{b}:gY ag 257 (.ptr (.box b) 0) aq (J (.v (.int .i64 7))) aq=J (.arr b 0 7 8):=aB
def aht{H}{b}{a0 g m o p q u z}(v:H.I[b]?=J [a0,g,m,o,p,q,u,z]):xE ag H #[68,68] (.arr b 1 7 7) (.arr b 0 7 8)=J (.v (.int .i64 7),H.put b [a0,a0,g,m,o,p,q,u]):=by
 have C:jT H 1 (.arr b 0 7 8)=J [[a0],[g],[m],[o],[p],[q],[u]]:=by show rowsOf H 1 (.arr b 0 7 8)=_;unfold rowsOf;simp only[v];rfl
 have B:∃i,ag.info? 69=J i/\i.size=1:=by
  have d:=wV;unfold cQ at d;cases y:ag.info? 69 with
  |none=>rw[y]at d;cases d
  |some i=>rw[y]at d;exact⟨i,O,by simpa using d⟩
 obtain⟨i,A,h2⟩:=B;have D:((#[68,68]:Array Nat)[0]?).bind ag.underlying=J (.slice 69):=aB;unfold xE;rw[D];simp only[A,h2,C,v];rfl
def Mi(s:List fk)(b:List UInt8)(p:Nat)(x:V)(h:ah)(C:F s=8)(hb:64<=F b)(Y:h.I[p]?=J (eO s))
 (hx:∀H,fY p h.tn h H->ek 1 H x (bW b)):
 ∃h',W.call 245 [.ptr (.box p) 0,x] h=J (.ret (.tuple []),h')/\h'.I[p]?=J (eO (zj s b))/\fY p h.tn h h':=by
 have kX:=aj.mk hx;clear hx;have ayC:=(bk.1 Y).1;have kz:=aj.mk (awO b);have z242:=aw5;refine iG O Tryz.func245 O ?_
 repeat' (first|simp(maxSteps:=9999999) (disch:=first|exact dZ|fail) only[gW,reduceIte,aT,aN,pS,bV, *]|refine dX ?_ ?_<;>(intro _;try omega))
 refine cJ (λz0 e H=>∃i:Nat,i<=16/\z0=16-i/\e.get 0=.ptr (.box p) 0/\e.get 1=x/\e.get 4=.ptr (.box (F h.I)) 0/\e.get 14=(i:Int)/\e.defers=[]/\H.I[F h.I]?=J (eO (wl b i))/\H.I[p]?=J (eO s)/\fY p h.tn h H) ?_ 16 _ _ ?_;rotate_left 1
 .refine⟨0,cC _,O,?_,?_,?_,?_,?_,?_,aX Y,(fY.refl _ _ _).push _⟩
  iterate 5 (first|assumption|(exact gR))
  rw[kz.M];exact aU _ _
 clear z242 kz;rintro z0 e H ⟨i,z,rfl,g0,g1,g4,g14,hd,m,d,u⟩;have v:=aj.mk u;have N:=u.len;clear u;by_cases X:i=16;rotate_left 1
 .refine uQ λQ=>?_;have q:i<16:=by omega
  have Jf:=kX.M H v.M;obtain⟨z4,y1,y2⟩:=Jf.slice (t:=60) (lo:=J ((4*i:Nat):V)) (hi:=aq) (l:=4*i) (m:=b.length) bm nu sL (.inl ⟨O,by rw[bJ]⟩) (.inr ⟨.i64,O⟩) af;have y3:ek 1 H z4 (bW (b.drop (4*i))):=by have e:(Sg (F b) (bW b)).drop (4*i)=bW (b.drop (4*i)):=(by rw[fK (by rw[bJ];exact bh _),<-acB]);rw[<-e];exact y2
  have cw:=awQ _ z4 H y3 (by rw[fJ];omega);rw[awP]at cw;have e4:IntKind.i64.wrap (4*((i:Nat):Int))=((4*i:Nat):Int):=by rw[jq af af];omega
  have st:=λz1=>Q_ (x:=z1) m (n:=i) (by rw[DK af];omega);have iq:=λz1 hz=>abN (b:=b) (i:=i) (x:=z1) af hz;have A:=iq (wY b (4*i)) (by rw[aH q]);have kst:=aj.mk A;have Z:=(bk.1 m).1;have y:=aj.mk d;clear iq A Jf y2 y3 m d Y;have ix:=Av (b:=h.I.length) (n:=i) (k:=.i64) af
  repeat' (first|simp(maxSteps:=9999999) (disch:=first|exact dZ|fail) only[gW,reduceIte,aT,aN,pS, *]|refine dX ?_ ?_<;>(intro _;try omega))
  refine⟨16-(i+1),by omega,i+1,by omega,O,br,br,br,O,br,?_,?_,v.M.gw (bh _) _⟩
  .rw[kst.M];exact dM Z
  .rw[cS af];exact y.M
 subst X;have D:=aj.mk m;have y:=aj.mk d;clear m d Y
 repeat' (first|simp(maxSteps:=9999999) (disch:=first|exact dZ|fail) only[gW,reduceIte,aT,aN,pS, *]|refine dX ?_ ?_<;>(intro _;try omega))
 refine cJ (λz0 e H=>∃i:Nat,16<=i/\i<=64/\z0=64-i/\e.get 0=.ptr (.box p) 0/\e.get 4=.ptr (.box (F h.I)) 0/\e.get 6=(i:Int)/\e.defers=[]/\H.I[F h.I]?=J (eO (wl b i))/\H.I[p]?=J (eO s)/\fY p h.tn h H) ?_ 48 _ _ ?_;rotate_left 1
 .refine⟨16,by decide,by decide,O,?_,?_,?_,?_,D.M,y.M,v.M⟩<;>(first|assumption|(exact gR))
 clear D y v g0 g1 g4 g14 hd N z;rintro z0 e H ⟨i,aki,z,rfl,g0,g4,g6,hd,m,d,u⟩;have v:=aj.mk u;have N:=u.len;clear u;by_cases X:i=64;rotate_left 1
 .refine uQ λQ=>?_;have l0:=Ay m (n:=i-16) (by rw[DK z];omega);have l1:=Ay m (n:=i-15) (by rw[DK z];omega);have l2:=Ay m (n:=i-7) (by rw[DK z];omega);have l3:=Ay m (n:=i-2) (by rw[DK z];omega);rw[awN af]at l0 l1 l2 l3;have i0:=Av (b:=h.I.length) (n:=i-16) (k:=.i64) af;have i1:=Av (b:=h.I.length) (n:=i-15) (k:=.i64) af;have i2:=Av (b:=h.I.length) (n:=i-7) (k:=.i64) af;have i3:=Av (b:=h.I.length) (n:=i-2) (k:=.i64) af;have i4:=Av (b:=h.I.length) (n:=i) (k:=.i64) af;have e0:IntKind.i64.wrap (((i:Nat):Int)-16)=((i-16:Nat):Int):=by rw[jq af af];omega
  have e1:IntKind.i64.wrap (((i:Nat):Int)-15)=((i-15:Nat):Int):=by rw[jq af af];omega
  have e2:IntKind.i64.wrap (((i:Nat):Int)-7)=((i-7:Nat):Int):=by rw[jq af af];omega
  have e3:IntKind.i64.wrap (((i:Nat):Int)-2)=((i-2:Nat):Int):=by rw[jq af af];omega
  have st:=λz1=>Q_ (x:=z1) m (n:=i) (by rw[DK z];omega);have A:=abN (b:=b) (i:=i) (x:=JA (lI b i) i) af (by rw[aV af]);unfold JA at A;have kst:=aj.mk A;have r7:=λH=>ar5 (fb (lI b i) (i-15)) H;have r18:=λH=>arZ (fb (lI b i) (i-15)) H;have r17:=λH=>arY (fb (lI b i) (i-2)) H;have r19:=λH=>ar0 (fb (lI b i) (i-2)) H;have D:=aj.mk m;have y:=aj.mk d;clear A m d
  repeat' (first|simp(maxSteps:=9999999) (disch:=first|exact dZ|fail) only[gW,reduceIte,aT,aN,pS,pE,pg,wU,wT, *]|refine dX ?_ ?_<;>(intro _;try omega))
  refine sC aB ?_
  repeat' (first|simp(maxSteps:=9999999) (disch:=first|exact dZ|fail) only[gW,reduceIte,aT,aN,pS,pE,pg,wU,wT, *]|refine dX ?_ ?_<;>(intro _;try omega))
  refine Dw [6,8,20,22] [] aB ?_ (λz3 hp=>nomatch hp) ?_
  .intro k R;simp only[hh,qR,or_false]at R;rcases R with rfl|rfl|rfl|rfl
   .refine xC (x:=b7 (NT.fO (fb (lI b i) (i-15)) 7)) O O ?_ ?_
    .simp only[dY,dG]
     repeat' (first|simp(maxSteps:=9999999) (disch:=first|exact dZ|fail) only[gW,reduceIte,aT,aN, *]|refine dX ?_ ?_<;>(intro _;try omega))
     exact⟨by trivial,λ_=>by trivial⟩
    .repeat' (first|simp(maxSteps:=9999999) (disch:=first|exact dZ|fail) only[gW,reduceIte,aT,aN,pE,pg,wU,wT, *]|refine dX ?_ ?_<;>(intro _;try omega))
   .refine xC (x:=b7 (NT.fO (fb (lI b i) (i-15)) 18)) O O ?_ ?_
    .simp only[dY,dG]
     repeat' (first|simp(maxSteps:=9999999) (disch:=first|exact dZ|fail) only[gW,reduceIte,aT,aN, *]|refine dX ?_ ?_<;>(intro _;try omega))
     exact⟨by trivial,λ_=>by trivial⟩
    .repeat' (first|simp(maxSteps:=9999999) (disch:=first|exact dZ|fail) only[gW,reduceIte,aT,aN,pE,pg,wU,wT, *]|refine dX ?_ ?_<;>(intro _;try omega))
   .refine xC (x:=b7 (NT.fO (fb (lI b i) (i-2)) 17)) O O ?_ ?_
    .simp only[dY,dG]
     repeat' (first|simp(maxSteps:=9999999) (disch:=first|exact dZ|fail) only[gW,reduceIte,aT,aN,pE,pg,wU,wT, *]|refine dX ?_ ?_<;>(intro _;try omega))
     exact⟨by trivial,λ_=>by trivial⟩
    .repeat' (first|simp(maxSteps:=9999999) (disch:=first|exact dZ|fail) only[gW,reduceIte,aT,aN,pE,pg,wU,wT, *]|refine dX ?_ ?_<;>(intro _;try omega))
   .refine xC (x:=b7 (NT.fO (fb (lI b i) (i-2)) 19)) O O ?_ ?_
    .simp only[dY,dG]
     repeat' (first|simp(maxSteps:=9999999) (disch:=first|exact dZ|fail) only[gW,reduceIte,aT,aN,pE,pg,wU,wT, *]|refine dX ?_ ?_<;>(intro _;try omega))
     exact⟨by trivial,λ_=>by trivial⟩
    .repeat' (first|simp(maxSteps:=9999999) (disch:=first|exact dZ|fail) only[gW,reduceIte,aT,aN,pE,pg,wU,wT, *]|refine dX ?_ ?_<;>(intro _;try omega))
  repeat' (first|simp(maxSteps:=9999999) (disch:=first|exact dZ|fail) only[gW,reduceIte,aT,aN,pS,pE,pg,wU,wT, *]|refine dX ?_ ?_<;>(intro _;try omega))
  refine⟨64-(i+1),by omega,i+1,by omega,by omega,O,br,br,O,br,?_,?_,v.M.gw (bh _) _⟩
  .rw[kst.M];exact dM (bk.1 D.M).1
  .rw[cS af];exact y.M
 subst X;rw[awM]at m;have a230:=Hy;have s230:=DI;have lds:aL ag Gt H 257 (.ptr (.box p) 0)=J (.agg (eO s)):=by
  have T:F (eO s)=8:=by rw[bJ];exact C
  rw[fS Hy DI d (by rw[T];exact bh _),gP,fK (by rw[T];exact bh _)]
 have cs8:(V.agg (eO s)).bP=J (eO s):=HQ C;have zz:(gp ag 257).bind V.bP=J (eO (bR 8 0#32)):=by rw[abL];exact abP
 have spz:∀H:ah,b9 ag (H.push (eO (bR 8 0#32))) 257 (.ptr (.box (F H.I)) 0) (.agg (eO s))=J (H.push (eO s)):=λH=>j3 (HQ C) DI (by rw[bJ];exact C) (by rw[bJ];rfl);have Z:=(bk.1 m).1;have D:=aj.mk m;have y:=aj.mk d;clear m d;have u:=v.M
 repeat' (first|simp(maxSteps:=9999999) (disch:=first|exact dZ|fail) only[gW,reduceIte,aT,aN,pS, *]|refine dX ?_ ?_<;>(intro _;try omega))
 refine cJ (λz0 e E=>∃i:Nat,i<=64/\z0=64-i/\e.get 0=.ptr (.box p) 0/\e.get 4=.ptr (.box (F h.I)) 0/\e.get 9=.ptr (.box (F H.I)) 0/\e.get 69=(i:Int)/\e.defers=[]/\E.I[F h.I]?=J (eO (lI b 64))/\E.I[p]?=J (eO s)/\E.I[F H.I]?=J (eO (vF s b i))/\fY p h.tn h E) ?_ 64 _ _ ?_;rotate_left 1
 .refine⟨0,by decide,O,?_,?_,?_,?_,?_,aX D.M,aX y.M,aU _ _,v.M.push _⟩<;>(first|assumption|(exact gR))
 clear D y v g0 g4 g6 hd lds cs8 zz spz z aki u;have hHL:F h.I<F H.I:=Z;generalize OK:F H.I=o at *
 clear OK Z N;rintro z0 e H ⟨i,z,rfl,g0,g4,g9,g69,hd,m,d,B,u⟩;have v:=aj.mk u;have N:=u.len;clear u;by_cases X:i=64;rotate_left 1
 .refine uQ λQ=>?_;have q:i<64:=by omega
  have lw:=Ay m (n:=i) (by rw[Gx];exact q);have lk:=λH=>amr (H:=H) q;have iw:=Av (b:=h.I.length) (n:=i) (k:=.i64) q;have ik:=alQ (g:=1) (n:=i) (k:=.i64) q;have kR:=aj.mk (abH s b i);obtain⟨v0,v1,v2,v3,v4,v5,v6,v7,Cy⟩:=eight (Ru b C i);have kE:=aj.mk (ar9 (lI b 64) _ i _ _ _ _ _ _ _ _ Cy);rw[Cy]at B;have r1:=λH=>ar7 v4 H;have r2:=λH=>ar6 v0 H;have Cx:H.I[o]?=J [b7 v0,b7 v1,b7 v2,b7 v3,b7 v4,b7 v5,b7 v6,b7 v7]:=B;have D:=aj.mk m;have y:=aj.mk d;clear m d B Cy;have j0:dU ag 257 (.ptr (.box o) 0) (.v (.int .i64 0))=J (.ptr (.box o) 0):=wx (n:=0) bm;have j1:dU ag 257 (.ptr (.box o) 0) (.v (.int .i64 1))=J (.ptr (.box o) 1):=wx (n:=1) bm;have j2:dU ag 257 (.ptr (.box o) 0) (.v (.int .i64 2))=J (.ptr (.box o) 2):=wx (n:=2) bm;have j4:dU ag 257 (.ptr (.box o) 0) (.v (.int .i64 4))=J (.ptr (.box o) 4):=wx (n:=4) bm;have j5:dU ag 257 (.ptr (.box o) 0) (.v (.int .i64 5))=J (.ptr (.box o) 5):=wx (n:=5) bm;have j6:dU ag 257 (.ptr (.box o) 0) (.v (.int .i64 6))=J (.ptr (.box o) 6):=wx (n:=6) bm;have j7:dU ag 257 (.ptr (.box o) 0) (.v (.int .i64 7))=J (.ptr (.box o) 7):=wx (n:=7) bm;have qy:=(bk.1 Cx).1;have a42:=Em;have s42:=wV;have cp:=aht Cx;have sla:=auk (b:=o);have slb:=aul (b:=o)
  repeat' (first|simp(maxSteps:=9999999) (disch:=first|exact dZ|fail) only[gW,reduceIte,aT,aN,pS,pE,pg,Eo,pC,xl,gP,yM, *]|refine dX ?_ ?_<;>(intro _;try omega))
  refine Dw [4] [] aB ?_ (λz3 hp=>nomatch hp) ?_
  .intro k R;simp only[iL]at R;subst R;refine xC (x:=b7 (NT.fO v4 6^^^NT.fO v4 11^^^NT.fO v4 25)) O O ?_ ?_
   .simp only[dY,dG]
    repeat' (first|simp(maxSteps:=9999999) (disch:=first|exact dZ|fail) only[gW,reduceIte,aT,aN,xl,gP,yM, *]|refine dX ?_ ?_<;>(intro _;try omega))
    exact⟨by trivial,λ_=>by trivial⟩
   .repeat' (first|simp(maxSteps:=9999999) (disch:=first|exact dZ|fail) only[gW,reduceIte,aT,aN,pE,pg,Eo,pC,xl,gP,yM, *]|refine dX ?_ ?_<;>(intro _;try omega))
  repeat' (first|simp(maxSteps:=9999999) (disch:=first|exact dZ|fail) only[gW,reduceIte,aT,aN,pS,pE,pg,Eo,pC,xl,gP,yM, *]|refine dX ?_ ?_<;>(intro _;try omega))
  refine Dw [2] [] aB ?_ (λz3 hp=>nomatch hp) ?_
  .intro k R;simp only[iL]at R;subst R;refine xC (x:=b7 (NT.fO v0 2^^^NT.fO v0 13^^^NT.fO v0 22)) O O ?_ ?_
   .simp only[dY,dG]
    repeat' (first|simp(maxSteps:=9999999) (disch:=first|exact dZ|fail) only[gW,reduceIte,aT,aN,xl,gP,yM, *]|refine dX ?_ ?_<;>(intro _;try omega))
    exact⟨by trivial,λ_=>by trivial⟩
   .repeat' (first|simp(maxSteps:=9999999) (disch:=first|exact dZ|fail) only[gW,reduceIte,aT,aN,pE,pg,Eo,pC,xl,gP,yM, *]|refine dX ?_ ?_<;>(intro _;try omega))
  repeat' (first|simp(maxSteps:=9999999) (disch:=first|exact dZ|fail) only[gW,reduceIte,aT,aN,pS,pE,pg,Eo,pC,xl,gP,yM, *]|refine dX ?_ ?_<;>(intro _;try omega))
  refine sC aB ?_;clear Cx
  repeat' (first|simp(maxSteps:=9999999) (disch:=first|exact dZ|fail) only[gW,reduceIte,aT,aN,pS,Pc,stp,JV,pg,xl,gP,yM,acL,List.set_cons_succ, *]|refine dX ?_ ?_<;>(intro _;try omega))
  refine⟨64-(i+1),by omega,i+1,by omega,O,br,br,br,O,br,?_,?_,?_,v.M.gw af _⟩
  .rw[cS af];exact D.M
  .rw[cS af];exact y.M
  .rw[dM qy,kR.M,kE.M];rfl
 subst X;have Wf:zj s b=List.zipWith (·+·) s (vF s b 64):=rfl;rw[Wf];have T:=Ru b C 64;generalize vF s b 64=z2 at *
 have qy:=(bk.1 B).1;have y:=aj.mk d;have kv:=aj.mk B;clear m d B Wf
 repeat' (first|simp(maxSteps:=9999999) (disch:=first|exact dZ|fail) only[gW,reduceIte,aT,aN,pS, *]|refine dX ?_ ?_<;>(intro _;try omega))
 refine cJ (λz0 e E=>∃i:Nat,i<=8/\z0=8-i/\e.get 0=.ptr (.box p) 0/\e.get 9=.ptr (.box o) 0/\e.get 129=(i:Int)/\e.defers=[]/\E.I[p]?=J (eO (w7 s z2 i))/\E.I[o]?=J (eO z2)/\fY p h.tn h E) ?_ 8 _ _ ?_;rotate_left 1
 .refine⟨0,by decide,O,?_,?_,?_,?_,y.M,kv.M,v.M⟩<;>(first|assumption|(exact gR))
 clear y kv v g0 g4 g9 g69 hd N z;rintro z0 e H ⟨i,z,rfl,g0,g9,g129,hd,d,B,u⟩;have v:=aj.mk u;clear u;by_cases X:i=8;rotate_left 1
 .refine uQ λQ=>?_;have q:i<8:=by omega
  have hz:=axl C T z;have l1:=Ay d (n:=i) af;have l2:=Ay B (n:=i) af;rw[axk C T q]at l1;have j1:=wx (b:=p) (n:=i) (k:=.i64) q;have j2:=wx (b:=o) (n:=i) (k:=.i64) q;have st:=Q_ (x:=fb s i+fb z2 i) d (n:=i) af;rw[axm C T q]at st;have nX:=(bk.1 d).1;have kv:=aj.mk B;clear d B
  repeat' (first|simp(maxSteps:=9999999) (disch:=first|exact dZ|fail) only[gW,reduceIte,aT,aN,pS, *]|refine dX ?_ ?_<;>(intro _;try omega))
  refine sC aB ?_
  repeat' (first|simp(maxSteps:=9999999) (disch:=first|exact dZ|fail) only[gW,reduceIte,aT,aN,pS,pg, *]|refine dX ?_ ?_<;>(intro _;try omega))
  refine⟨8-(i+1),by omega,i+1,by omega,O,br,br,O,br,dM nX,?_,v.M.trans (.put _ _ _ _)⟩;rw[cS af];exact kv.M
 subst X;rw[axj C T]at d;have y:=aj.mk d;clear d B
 repeat' (first|simp(maxSteps:=9999999) (disch:=first|exact dZ|fail) only[gW,reduceIte,aT,aN,pS, *]|refine dX ?_ ?_<;>(intro _;try omega))
 exact⟨_,O,y.M,v.M⟩
def QE:Tryz.f246.results.toList=[]:=aB
def ahA(n)(h):l_ ag h 69 238 (.v (.int .u32 n))=J (.v (.int .u64 (IntKind.u64.wrap n)),h):=aB
def qk(n)(h):l_ ag h 3 238 ((n:Int):V)=J (.v (.int .u64 (IntKind.u64.wrap n)),h):=aB
def EE(n)(h):l_ ag h 238 5 (.v (.int .u64 n))=J (.v (.int .u8 (IntKind.u8.wrap n)),h):=aB
def dC(b:UInt8):V:=.v (.int .u8 b.toNat)
abbrev dF(l:List UInt8):List V:=l.map dC
def sZ(n k:Nat):List UInt8:=(bT k).map λi=>UInt8.ofNat (n/256^(k-1-i))
def Mu(n k):F (sZ n k)=k:=by simp[sZ]
def uc(cs:List V)(off len n i:Nat):List V:=cs.take (off+len-i)++dF ((sZ n len).drop (len-i))++cs.drop (off+len)
def apS{cs}{off len n}:uc cs off len n 0=cs:=by unfold uc;rw[ada,ada,oo (by rw[Mu];exact bh _)];show Sg (off+len) cs++[]++_=_;rw[iB,xq]
def apQ{cs}{off len n i}(hi:i<=len)(d:off+len<=F cs):F (uc cs off len n i)=F cs:=by unfold uc;simp only[de,dJ,bJ,fJ,Mu];omega
def apR{cs}{off len n i}(hi:i<len)(q:off+len<=F cs):(uc cs off len n i).set (off+(len-1-i)) (dC (UInt8.ofNat (n/256^i)))=uc cs off len n (i+1):=by
 unfold uc;have g:off+len-i=(off+(len-1-i))+1:=by omega
 have m:off+len-(i+1)=off+(len-1-i):=by omega
 have d:off+(len-1-i)<F cs:=by omega
 have o:(sZ n len).drop (len-(i+1))=UInt8.ofNat (n/256^i)::(sZ n len).drop (len-i):=by
  rw[List.drop_eq_getElem_cons (by rw[Mu];omega)];congr 1
  .unfold sZ;rw[qQ,LJ];congr 3;omega
  .congr 1;omega
 rw[g,m,o,List.take_succ_eq_append_getElem d];generalize p:cs[off+(len-1-i)]=z;rw[jx,jx,Hh _ _ (by rw[dJ];omega),dJ,show off+(len-1-i)-min (off+(len-1-i)) (F cs)=0 by omega];simp
def AJ(cs:List V)(off len n:Nat):List V:=cs.take off++dF (sZ n len)++cs.drop (off+len)
def apP{cs}{off len n}:uc cs off len n len=AJ cs off len n:=by unfold uc AJ;rw[sW,gP,Nat.add_sub_cancel]
def XX{b off len ba n}{k}(d:n<len):dU ag 60 (.arr b off len ba) (.v (.int k (n:Nat)))=J (.ptr (.box b) (off+n)):=by rw[At nu sL af af,fe,mr]
def Rh{H}{b k}{cs}{v}(g:H.I[b]?=J cs)(d:k<F cs):b9 ag H 5 (.ptr (.box b) k) (dC v)=J (H.put b (cs.set k (dC v))):=by rw[fI (xs:=[dC v]) O sL g O d];congr 2;unfold ej;rw[yQ,aH (show k<F cs from d)];simp
def awj(m):V.v (.int .u8 (IntKind.u8.wrap ((m:Nat):Int)))=dC (UInt8.ofNat m):=by unfold dC;rw[show(UInt8.ofNat m).toNat=m%256 from UInt8.toNat_ofNat'];unfold IntKind.wrap;simp[IntKind.signed,IntKind.bits]
def Qh(b off len ba n:Nat)(cs:List V)(h:ah)(Z:len<=8)(hn:n<18446744073709551616)(d:h.I[b]?=J cs)(m:off+len<=F cs):
 W.call 246 [.arr b off len ba,.v (.int .u64 (n:Nat))] h=J (.ret (.tuple []),h.put b (AJ cs off len n)):=by
 have z:=nu;have g:=(bk.1 d).1;have u:=aj.mk (ju d);clear d;refine da O Tryz.func246 O ?_;refine nC @QE ?_;refine cJ (λy e H=>∃i:Nat,i<=len/\y=len-i/\e.get 0=.arr b off len ba/\e.get 1=.v (.int .u64 (n:Nat))/\e.get 6=(len:Nat)/\e.get 7=(i:Int)/\e.defers=[]/\H=h.put b (uc cs off len n i)) ?_ len _ _ ?_;rotate_left 1
 .refine⟨0,cC _,O,?_,?_,?_,?_,?_,by rw[apS];exact u.M.symm⟩<;>(first|assumption|(exact gR))
 rintro y e H ⟨i,Y,rfl,E,N,R,T,X,rfl⟩;by_cases o:i=len
 .subst o;rw[apP];exact jP @QE
 .refine uQ λQ=>?_;have p:i<len:=by omega
  have B:IntKind.i64.wrap (8*((i:Nat):Int))=((8*i:Nat):Int):=by rw[jq af af];omega
  have C:IntKind.i64.wrap (((len:Nat):Int)-1)=((len-1:Nat):Int):=by rw[jq af af];omega
  have D:IntKind.i64.wrap (((len-1:Nat):Int)-((i:Nat):Int))=((len-1-i:Nat):Int):=by rw[jq af af];omega
  have sh:∀(t:aO) (x A:Operand),df ag .shr t x A (.v (.int .u64 (n:Nat))) ((8*i:Nat):V)=J (.v (.int .u64 ((n/256^i:Nat):Int))):=λt x A=>by rw[Bv af,fe,show IntKind.u64.bits=64 from O,Ed af];congr 3;rw[RQ _ (by have:(0:Int)<2^(8*i):=Int.pow_pos bm;omega)];have q:(2:Int)^(8*i)=((256^i:Nat):Int):=(by rw[Int.pow_mul];simp);rw[q];rfl
  have uv:=awj (n/256^i);have ix:=XX (b:=b) (off:=off) (ba:=ba) (k:=.i64) (af:len-1-i<len);have st:=Rh (H:=h.put b (uc cs off len n i)) (v:=UInt8.ofNat (n/256^i)) (k:=off+(len-1-i)) (dM g) (by rw[apQ af m];omega);rw[apR p m,JV]at st;refine Nr @QE @EE ?_;refine⟨len-(i+1),by omega,i+1,by omega,O,br,br,br,O,br,O⟩
def HK:∀(i:Nat) (s:List fk) (b:List UInt8),iY (i+1) s b=zj (iY i s b) ((b.drop (64*i)).take 64)
 |0,s,b=>rfl
 |i+1,s,b=>by rw[iY,HK i,iY,rB];congr 3;omega
def TG:∀(i j:Nat) (s:List fk) (b:List UInt8),iY (i+j) s b=iY j (iY i s b) (b.drop (64*i))
 |0,j,s,b=>by rw[nT];rfl
 |i+1,j,s,b=>by rw[(af:i+1+j=(i+j)+1),iY,TG i j,iY,rB];congr 2;omega
def My:∀(i:Nat) (s:List fk) (a b:List UInt8),64*i<=F a->iY i s (a++b)=iY i s a
 |0,_,_,_,_=>rfl
 |i+1,s,a,b,h=>by rw[iY,iY,List.take_append_of_le_length af,acn af];exact My i _ _ b (by rw[fJ];omega)
def afA{s}{b}(d:F s=8):F (zj s b)=8:=by have:=Ru b d 64;unfold vF at this;unfold zj;simp[d,this]
def xy:∀(i:Nat) (s:List fk) (b:List UInt8),F s=8->F (iY i s b)=8
 |0,_,_,h=>h
 |i+1,s,b,h=>xy i _ _ (afA h)
def nx(r:Nat):Nat:=if r>55 then 128 else 64
def mz(rest:List UInt8)(n:Nat):List UInt8:=rest++0x80::bR (nx (F rest)-9-F rest) 0++CL n
def U1{rest}{n}(d:F rest<64):F (mz rest n)=nx (F rest):=by
 unfold mz nx;simp only[de,eZ,nj];have:F (CL n)=8:=by simp[CL]
 rw[this];split<;>omega
def aoB(b):JK b=b.take (64*(F b/64))++mz (b.drop (64*(F b/64))) (F b):=by
 unfold JK mz;have e:Ry (F b)=nx (F (b.drop (64*(b.length/64))))-9-F (b.drop (64*(b.length/64))):=by unfold Ry nx;rw[fJ];split<;>omega
 rw[e,<-jx,<-jx,xq]
def at9(b):jK b=od (iY (nx (F (b.drop (64*(b.length/64))))/64) (iY (F b/64) NT.start b) (mz (b.drop (64*(F b/64))) (F b))):=by
 unfold jK;have m:F (b.drop (64*(b.length/64)))<64:=by rw[fJ];omega
 have d:F (b.take (64*(b.length/64)))=64*(F b/64):=by rw[dJ];omega
 rw[aoB,de,U1 m,d,show(64*(F b/64)+nx (F (b.drop (64*(b.length/64)))))/64=F b/64+nx (F (b.drop (64*(b.length/64))))/64 by rw[Nat.mul_add_div bm]];have h2:iY (F b/64) NT.start (b.take (64*(F b/64)))=iY (F b/64) NT.start b:=by have:=My (F b/64) NT.start (b.take (64*(F b/64))) (b.drop (64*(F b/64))) (by rw[d];exact bh _);rw[xq]at this;exact this.symm
 have g:(b.take (64*(F b/64))).drop (64*(F b/64))=[]:=oo (by rw[d];exact bh _);rw[TG,acn (by rw[d];exact bh _),g,eP];rw[My _ _ _ _ (by rw[d];exact bh _),h2]
def amA(n):sZ (n*8) 8=CL n:=by unfold sZ CL;apply yN;intro i d;rw[hy]at d;congr 2;rw[show(256:Nat)=2^8 from O,<-Nat.pow_mul]
def aeW(x:fk):sZ x.toNat 4=[UInt8.ofNat (x.toNat/16777216),UInt8.ofNat (x.toNat/65536),UInt8.ofNat (x.toNat/256),UInt8.ofNat x.toNat]:=by show[UInt8.ofNat (x.toNat/256^3),UInt8.ofNat (x.toNat/256^2),UInt8.ofNat (x.toNat/256^1),UInt8.ofNat (x.toNat/256^0)]=_;simp
def aot{s:List fk}{i}{x}(hi:s[i]?=J x):od (s.take (i+1))=od (s.take i)++sZ x.toNat 4:=by rw[ga hi,aeW];unfold od;rw[List.flatMap_append];simp
def C0(s):F (od s)=4*F s:=by
 unfold od
 induction s with
 |nil=>rfl|cons a s d=>rw[List.flatMap_cons,de,d];simp;omega
def nh(l):F (dF l)=F l:=bJ _
def aig{rest}{n}(u:F rest<64):
 AJ ((dF rest++(bR 128 (dC 0)).drop (F rest)).set (F rest) (dC 0x80)) (nx (F rest)-8) 8 (n*8)=dF (mz rest n)++bR (128-nx (F rest)) (dC 0):=by
 have q:nx (F rest)=64∨nx (F rest)=128:=by unfold nx;split<;>omega
 have p:F rest+9<=nx (F rest):=by unfold nx;split<;>omega
 rw[Lx];obtain⟨k,o⟩:∃k,128-F rest=k+1:=⟨127-F rest,by omega⟩;rw[o,D_,Hh _ _ (by rw[nh];exact bh _),nh,sW,acL];unfold AJ mz;rw[amA];generalize nx (F rest)=L at *
 have g:Sg (L-8) (dF rest++dC 0x80::bR k (dC 0))=dF (rest++0x80::bR (L-9-F rest) 0):=by rw[List.take_append,nh,fK (by rw[nh];omega)];obtain⟨j,d⟩:∃j,L-8-F rest=j+1:=⟨L-9-F rest,by omega⟩;rw[d,dY,List.take_replicate,Ed af];unfold dF;rw[jN,dR,List.map_replicate,(af:L-9-F rest=j)]
 have m:List.drop (L-8+8) (dF rest++dC 0x80::bR k (dC 0))=bR (128-L) (dC 0):=by rw[yJ,nh,oo (by rw[nh];omega),eP];obtain⟨j,d⟩:∃j,L-8+8-F rest=j+1:=⟨L-1-F rest,by omega⟩;rw[d,xl,Lx];congr 1;omega
 rw[g,m];unfold dF;rw[<-jN]
def sg:Tryz.f204.results.toList=[.cell 2 29]:=aB
def Mk:f' ag 29=J aa:=aB
def yD:cQ ag 29=J 32:=aB
def Rx:(gp ag 29).bind V.bP=J (bR 32 (dC 0)):=aB
def amn(H):aL ag Gt H 256 (.ptr (.ec 0) 0)=J (.agg (eO NT.start)):=aB
def GO(l):(V.agg (dF l)).bP=J (dF l):=by
 have:(dF l).all V.dt=aa:=by rw[ff];intro x d;obtain⟨b,-,rfl⟩:=iX.1 d;rfl
 unfold V.bP;simp[this]
def YN(H):wE ag H 60 (.v (.int .i64 64)) (.v (.int .i64 128))=J (.arr (F H.I) 0 64 128,H.push (bR 128 (dC 0))):=aB
def KM(l):(bW l).flatten=dF l:=by rw[MC];rfl
def ahs{H}{eb len ba}{x}{rest}{cs}(s:ek 1 H x (bW rest))(o:H.I[eb]?=J cs)(z:len<=F cs)(h2:len<=ba)(m:F rest<=len):
 xE ag H #[60,60] (.arr eb 0 len ba) x=J (((F rest:Nat):V),H.put eb (dF rest++cs.drop (F rest))):=by
 have p:∃i,ag.info? 5=J i/\i.size=1:=by
  have d:=sL;unfold cQ at d;cases g:ag.info? 5 with
  |none=>rw[g]at d;cases d
  |some i=>rw[g]at d;exact⟨i,O,by simpa using d⟩
 obtain⟨i,v,y⟩:=p;have u:((#[60,60]:Array Nat)[0]?).bind ag.underlying=J (.slice 5):=aB;unfold xE;rw[u];simp only[v,y,s.news,o];rw[aH ⟨af,h2⟩];have q:Nat.min (F (bW rest)) len=F rest:=by rw[bJ];exact Ed m
 rw[q,fK (by rw[bJ];exact bh _),KM];have e:ej cs 0 (dF rest)=dF rest++cs.drop (F rest):=by unfold ej;rw[dG,eP,nT,nh]
 rw[e];rfl
def Q6{R:ah->Prop}{q}{x}{l}(A:∀H,R H->ek 1 H x (bW l))(h0:R q)(v:64<=F l):
 ∃y z,gY ag 60 x aq (J (.v (.int .i64 64))) aq=J y/\gY ag 60 x (J (.v (.int .i64 64))) aq aq=J z/\
  (∀H,R H->ek 1 H y (bW (l.take 64)))/\∀H,R H->ek 1 H z (bW (l.drop 64)):=by
 have D:∀H,R H->∃y,gY ag 60 x aq (J (.v (.int .i64 64))) aq=J y/\ek 1 H y (bW (l.take 64)):=λH d=>by obtain⟨y,g,p⟩:=(A H d).slice (t:=60) (lo:=aq) (hi:=J (.v (.int .i64 64))) (l:=0) (m:=64) bm nu sL (.inr ⟨.i64,O,by rw[bJ];exact v⟩) (.inl ⟨O,O⟩) bm;rw[gP,<-List.map_take]at p;exact⟨y,g,p⟩
 have E:∀H,R H->∃y,gY ag 60 x (J (.v (.int .i64 64))) aq aq=J y/\ek 1 H y (bW (l.drop 64)):=λH d=>by obtain⟨y,g,p⟩:=(A H d).slice (t:=60) (lo:=J (.v (.int .i64 64))) (hi:=aq) (l:=64) (m:=l.length) bm nu sL (.inl ⟨O,by rw[bJ]⟩) (.inr ⟨.i64,O⟩) v;rw[fK (by rw[bJ];exact bh _),<-acB]at p;exact⟨y,g,p⟩
 obtain⟨y,g,-⟩:=D q h0;obtain⟨z,B,-⟩:=E q h0;refine⟨y,z,g,B,λH d=>?_,λH d=>?_⟩
 .obtain⟨C,o,u⟩:=D H d;rw[g]at o;cases o;exact u
 .obtain⟨C,o,u⟩:=E H d;rw[B]at o;cases o;exact u
def XW{l}{i}{k}(m:F l=8)(hi:i<8):As ag 257 (.agg (eO l)) (.v (.int k (i:Nat)))=J (b7 (fb l i)):=by
 have g:=Tryz.underlying257;unfold As;rw[g];simp only[wV];rw[aH ⟨af,by omega⟩];unfold F4;rw[Em];simp only[wV];rw[fe,mr];have d:i<F l:=by omega
 show(eO l)[i]?=_;rw[eF,fb,fg,aY d];rfl
def aaW{b i}(hi:i<8):gY ag 29 (.ptr (.box b) 0) (J ((4*i:Nat):V)) (J ((4*i+4:Nat):V)) aq=J (.arr b (4*i) 4 (32-4*i)):=by
 have m:=Mg;unfold gY;rw[m];have d:gE 32 aq 32=J 32:=rfl;have h2:gE 32 (J ((4*i+4:Nat):V)) 32=J (4*i+4):=by show(if _ then _ else _)=_;rw[aH ⟨af,by omega⟩,fe]
 have g:gE (4*i+4) (J ((4*i:Nat):V)) 0=J (4*i):=by show(if _ then _ else _)=_;rw[aH ⟨af,by omega⟩,fe]
 simp only[sL,d,h2,g];rw[aV cE,aV af,nT,mr,(af:4*i+4-4*i=4)]
def UK{v:fk}{H}:l_ ag H 69 238 (b7 v)=J (.v (.int .u64 (v.toNat:Nat)),H):=by unfold b7;rw[ahA];congr 4;unfold IntKind.wrap;simp[IntKind.signed,IntKind.bits];have:=v.isLt;omega
def aaZ(cs):ej cs 0 cs=cs:=by unfold ej;simp
def Zk{s}(m:F s=8){i}(hi:i<8):AJ (dF (od (s.take i))++bR (32-4*i) (dC 0)) (4*i) 4 (fb s i).toNat=dF (od (s.take (i+1)))++bR (32-4*(i+1)) (dC 0):=by
 have d:F (dF (od (s.take i)))=4*i:=by rw[nh,C0,dJ];omega
 have g:s[i]?=J (fb s i):=by unfold fb;rw[fg,aY af];rfl
 unfold AJ;rw[aot g,vP d,yJ,d,oo af,eP,Lx,(af:32-4*i-(4*i+4-4*i)=32-4*(i+1))];unfold dF;rw[jN]
def ahW(b)(i):zj (iY i NT.start b) ((b.drop (64*i)).take 64)=iY (i+1) NT.start b:=(HK i _ b).symm
def aaQ(b:List UInt8)(x:V)(h:ah)(s:ek 1 h x (bW b))(hb:F b<=1152921504606846975):
 ∃h',W.call 204 [x] h=J (.ret (.agg (dF (jK b))),h')/\Ext h h':=by
 have u28:=nu;have z177:=Rx;have zz:(gp ag 257).bind V.bP=J (eO (bR 8 0#32)):=by rw[abL];exact abP
 have cs8:(V.agg (eO NT.start)).bP=J (eO NT.start):=HQ O;have spz:∀H:ah,b9 ag (H.push (eO (bR 8 0#32))) 257 (.ptr (.box (F H.I)) 0) (.agg (eO NT.start))=J (H.push (eO NT.start)):=λH=>j3 (HQ O) DI O O;have spz2:∀H:ah,∀z0,b9 ag ((H.push z0).push (eO (bR 8 0#32))) 257 (.ptr (.box (F H.I+1)) 0) (.agg (eO NT.start))=J ((H.push z0).push (eO NT.start)):=λH z0=>by rw[<-bV H z0];exact spz _
 have lx:=s.len nu;rw[bJ]at lx;have kS:=aj.mk s;have kSs:=aj.mk (at9 b);clear s;refine iG O Tryz.func204 O ?_;refine dA @sg @bV @amn ?_;generalize tE:(h.push (bR 32 (dC 0))).push (eO NT.start)=H0;generalize m:F h.I+1=sb;have kx:aj (∀p,fY sb h.tn H0 p->ek 1 p x (bW b)):=⟨λp T=>kS.M.mono λc cs A=>by have R:=(bk.1 A).1;refine T.box c cs af ?_;rw[<-tE];exact aX (aX A)⟩;have ja:H0.I[F h.I]?=J (bR 32 (dC 0)):=by rw[<-tE];exact aX (aU _ _)
 have Ct:H0.I[sb]?=J (eO (iY 0 NT.start b)):=by rw[<-tE,<-m];exact nB (by rw[bV])
 have VI:Ext h H0:=by rw[<-tE];exact(Ext.push _ _).trans (.push _ _)
 have ayB:F h.I<sb:=by omega
 have ax0:F H0.I=sb+1:=by rw[<-tE,<-m,bV,bV]
 have kd:=aj.mk ja;have kE:=aj.mk VI;have ks:=aj.mk Ct;clear ja VI Ct tE m z177 zz cs8 spz spz2 kS;refine cJ (λT e H=>∃(i:Nat) (z0:V),64*i<=F b/\T=F b-64*i/\e.get 0=x/\e.get 2=.ptr (.box (F h.I)) 0/\e.get 3=.ptr (.box sb) 0/\e.get 4=.func (.func 245) [.ptr (.box sb) 0] []/\e.get 5=z0/\e.defers=[]/\(∀p,fY sb h.tn H0 p->ek 1 p z0 (bW (b.drop (64*i))))/\H.I[sb]?=J (eO (iY i NT.start b))/\fY sb h.tn H0 H) ?_ (F b) _ _ ?_;rotate_left 1
 .refine⟨0,x,cC _,O,?_,?_,?_,?_,?_,?_,kx.M,ks.M,fY.refl _ _ _⟩<;>(first|assumption|(exact gR))
 clear ks;rintro T e H ⟨i,z0,hi,rfl,g0,g2,g3,g4,g5,hd,B,m,g⟩;have ly:=(B H g).len nu;rw[bJ,fJ]at ly;by_cases A:64<=F b-64*i
 .refine uQ λQ=>?_;obtain⟨y1,y2,q1,q2,q3,q4⟩:=Q6 B g (by rw[fJ];exact A);obtain⟨H2,c1,X,c3⟩:=Mi _ _ sb y1 H (xy i NT.start b O) (by rw[dJ,fJ];omega) m (λp T=>q3 p (g.trans (T.um (fB kE.M.tn g.tn))));rw[ahW]at X;have kM:=aj.mk (g.trans (c3.um (fB kE.M.tn g.tn)));have kq:=aj.mk q4;have k2:=aj.mk X;clear g X c3 q3 q4 B m;refine dA @sg @eY.{0} @eP.{0} ?_;refine⟨F b-64*(i+1),by omega,i+1,y2,by omega,O,br,br,br,br,O,br,?_,k2.M,kM.M⟩;rw[(af:64*(i+1)=64*i+64),<-rB];exact kq.M
 have wj:F b/64=i:=by omega
 have Z:=aj.mk kSs.M;rw[wj]at Z;have mX:F (b.drop (64*i))<64:=by rw[fJ];omega
 have Cr:F b-64*i=F (b.drop (64*i)):=by rw[fJ]
 rw[Cr]at ly A;have h8:=xy i NT.start b O;generalize iY i NT.start b=s1 at *
 generalize b.drop (64*i)=r at *
 clear Cr kSs;have kM:=aj.mk g;have E6:=g.len;have OQ:=B (H.push (bR 128 (dC 0))) (g.push _);have cp:=ahs (len:=64) (ba:=128) OQ (aU _ _) (by rw[nj];decide) bm af;rw[ml]at cp;have e1:IntKind.u64.wrap ((F b:Nat):Int)=((F b:Nat):Int):=by unfold IntKind.wrap;simp[IntKind.signed,IntKind.bits];omega
 have e2:IntKind.u64.wrap (((F b:Nat):Int)*8)=((F b*8:Nat):Int):=by unfold IntKind.wrap;simp[IntKind.signed,IntKind.bits];omega
 have ix:=XX (b:=H.I.length) (off:=0) (ba:=128) (k:=.i64) mX;rw[nT]at ix;have Nv:F (dF r++(bR 128 (dC 0)).drop r.length)=128:=by rw[de,nh,fJ,nj];omega
 have st:b9 ag (H.push (dF r++(bR 128 (dC 0)).drop (F r))) 5 (.ptr (.box (F H.I)) (F r)) (.v (.int .u8 128))=J (H.push ((dF r++(bR 128 (dC 0)).drop (F r)).set (F r) (dC 0x80))):=by have:=Rh (H:=H.push (dF r++(bR 128 (dC 0)).drop (F r))) (v:=0x80) (aU _ _) (k:=r.length) (by rw[Nv];omega);rw[ml]at this;exact this
 have hE:=aig (n:=b.length) mX;have zK:F ((dF r++(bR 128 (dC 0)).drop (F r)).set (F r) (dC 0x80))=128:=by rw[nS,Nv]
 generalize dF r++(bR 128 (dC 0)).drop (F r)=C1 at *
 generalize C1.set (F r) (dC 0x80)=C2 at *
 have kEl:=aj.mk (U1 (n:=b.length) mX);have pe:=λ(off ba:Nat) (ho:off+8<=128)=>Qh (F H.I) off 8 ba (F b*8) C2 (H.push C2) bm af (aU _ _) (by rw[zK];exact ho);simp only[ml]at pe;have ks:=aj.mk m;clear OQ B g m Nv zK hi wj;have hL:(F r<=55/\nx (F r)=64)∨(55<F r/\nx (F r)=128):=by unfold nx;split<;>omega
 rcases hL with⟨hr,hL⟩|⟨hr,hL⟩
 .rw[hL]at hE kEl Z;have p1:=pe 56 72 bm;rw[hE]at p1;have sl:gY ag 60 (.arr (F H.I) 0 64 128) (J (.v (.int .i64 (((64:Nat):Int)-8)))) aq aq=J (.arr (F H.I) 56 8 72):=aB;clear pe hE hL;refine dA @sg @YN @qk ?_;have o:=kEl.M;generalize D:H.push (dF (mz r (F b))++bR (128-64) (dC 0))=H1;generalize hz:F H.I=eb;have Y:H1.I[eb]?=J (dF (mz r (F b))++bR (128-64) (dC 0)):=by rw[<-D,<-hz];exact aU _ _
  have E8:fY sb h.tn H0 H1:=by rw[<-D];exact kM.M.push _
  have eM:H1.I[sb]?=J (eO s1):=by rw[<-D];exact aX ks.M
  have gb:eb≠sb:=by omega
  have hR:∀p,fY sb h.tn H1 p->ek 1 p (.arr eb 0 64 128) (bW ((mz r (F b)).drop (64*0))):=λp T=>by
   rw[ac2,gP];refine⟨zo _,.inr ⟨eb,0,128,_,by rw[bJ,o],by rw[bJ,o];decide,T.box _ _ gb Y,?_,?_⟩⟩
   .rw[KM,bJ,mr,gP,vP (nh _)]
   .rw[bJ,de,nh,o,nj];decide
  have kR:=aj.mk hR;have kB:=aj.mk Y;have y:=aj.mk E8;have kS1:=aj.mk eM;clear Y E8 eM hR D hz kM ks cp st p1 sl ix;refine cJ (λT e H=>∃(i:Nat) (z0:V),64*i<=64/\T=64-64*i/\e.get 2=.ptr (.box (F h.I)) 0/\e.get 3=.ptr (.box sb) 0/\e.get 4=.func (.func 245) [.ptr (.box sb) 0] []/\e.get 6=z0/\e.defers=[]/\(∀p,fY sb h.tn H1 p->ek 1 p z0 (bW ((mz r (F b)).drop (64*i))))/\H.I[sb]?=J (eO (iY i s1 (mz r (F b))))/\fY sb h.tn H1 H) ?_ 64 _ _ ?_;rotate_left 1
  .refine⟨0,.arr eb 0 64 128,cC _,O,?_,?_,?_,?_,?_,kR.M,kS1.M,fY.refl _ _ _⟩<;>(first|assumption|(exact gR))
  clear kR kS1 g0 g2 g3 g4 g5 hd ly A;rintro T e H ⟨i,z0,hi,rfl,g2,g3,g4,g6,hd,B,m,g⟩;have ly:=(B H g).len nu;rw[bJ,fJ,o]at ly;by_cases A:0<64-64*i
  .refine uQ λQ=>?_;obtain⟨y1,y2,q1,q2,q3,q4⟩:=Q6 B g (by rw[fJ,o];omega);obtain⟨H2,c1,X,c3⟩:=Mi _ _ sb y1 H (xy i s1 _ h8) (by rw[dJ,fJ,o];omega) m (λp T=>q3 p (g.trans (T.um (fB kE.M.tn (fB y.M.tn g.tn)))));rw[<-HK]at X;have kM:=aj.mk (g.trans (c3.um (fB kE.M.tn (fB y.M.tn g.tn))));have kq:=aj.mk q4;have k2:=aj.mk X;clear g X c3 q3 q4 B m;refine dA @sg @eY.{0} @eP.{0} ?_;refine⟨64-64*(i+1),by omega,i+1,y2,by omega,O,br,br,br,O,br,?_,k2.M,kM.M⟩;rw[(af:64*(i+1)=64*i+64),<-rB];exact kq.M
  have wj:i=64/64:=by omega
  subst wj;have EX:=xy (64/64) s1 (mz r (F b)) h8;generalize iY (64/64) s1 (mz r (F b))=q at *
  have z:Ext h H:=kE.M.mut (y.M.trans g) af;have d:=(y.M.trans g).box _ _ af kd.M;have C:F q=8:=EX;have lds:aL ag Gt H 257 (.ptr (.box sb) 0)=J (.agg (eO q)):=by have yd:F (eO q)=8:=(by rw[bJ];exact C);rw[fS Hy DI m (by rw[yd];exact bh _),gP,fK (by rw[yd];exact bh _)]
  have N:=aj.mk z;have kdb:=aj.mk d;clear z d m g B y kd kB kE EX;have kSh2:aj (jK b=od q):=⟨Z.M⟩;clear Z;refine bD @sg ?_;refine cJ (λT e H=>∃(i:Nat),i<=8/\T=8-i/\e.get 2=.ptr (.box (F h.I)) 0/\e.get 53=.agg (eO q)/\e.get 54=(i:Int)/\e.defers=[]/\H.I[F h.I]?=J (dF (od (q.take i))++bR (32-4*i) (dC 0))/\Ext h H) ?_ 8 _ _ ?_;rotate_left 1
  .refine⟨0,by decide,O,?_,?_,?_,?_,kdb.M,N.M⟩<;>(first|assumption|(exact gR))
  clear kdb N lds g2 g3 g4 g6 hd ly A;rintro T e H ⟨i,hi,rfl,g2,g53,g54,hd,d,z⟩;by_cases A:i=8
  .subst A;rw[fK af]at d;have e0:dF (od q)++bR (32-4*8) (dC 0)=dF (od q):=iB _;rw[e0,<-kSh2.M]at d;have u:F (dF (jK b))=32:=(by rw[nh,kSh2.M,C0,C]);have l177:aL ag Gt H 29 (.ptr (.box (F h.I)) 0)=J (.agg (dF (jK b))):=(by rw[fS Mk yD d (by rw[u];exact bh _),gP,fK (by rw[u];exact bh _)]);have s177:b9 ag H 29 (.ptr (.box (F h.I)) 0) (.agg (dF (jK b)))=J H:=(by rw[fI (GO _) yD d u (by rw[u];exact bh _),aaZ,ju d]);have N:=aj.mk z;clear d z;refine bD @sg ?_;exact⟨_,O,N.M⟩
  .refine uQ λQ=>?_;have R:i<8:=(by omega);have iv:=XW (k:=.i64) C R;have e4:IntKind.i64.wrap (4*((i:Nat):Int))=((4*i:Nat):Int):=(by rw[jq af af];omega);have e5:IntKind.i64.wrap (((4*i:Nat):Int)+4)=((4*i+4:Nat):Int):=(by rw[jq af af];omega);have sl:=aaW (b:=h.I.length) R;have pe:=Qh (F h.I) (4*i) 4 (32-4*i) (fb q i).toNat _ H bm (by have:=(fb q i).isLt;omega) d (by rw[de,nh,C0,dJ,nj];omega);rw[Zk C R]at pe;have Fo:=(bk.1 d).1;have N:=aj.mk z;clear d z;refine bF @sg @UK ?_;refine⟨8-(i+1),by omega,i+1,by omega,O,br,br,O,br,dM Fo,N.M.gw (bh _) _⟩
 .rw[hL]at hE kEl Z;have p1:=pe 120 8 bm;rw[hE]at p1;have sl0:gY ag 60 (.arr (F H.I) 0 64 128) aq (J (.v (.int .i64 128))) aq=J (.arr (F H.I) 0 128 128):=aB;have sl:gY ag 60 (.arr (F H.I) 0 128 128) (J (.v (.int .i64 (((128:Nat):Int)-8)))) aq aq=J (.arr (F H.I) 120 8 8):=aB;clear pe hE hL;refine dA @sg @YN @qk ?_;have o:=kEl.M;generalize D:H.push (dF (mz r (F b))++bR (128-128) (dC 0))=H1;generalize hz:F H.I=eb;have Y:H1.I[eb]?=J (dF (mz r (F b))++bR (128-128) (dC 0)):=by rw[<-D,<-hz];exact aU _ _
  have E8:fY sb h.tn H0 H1:=by rw[<-D];exact kM.M.push _
  have eM:H1.I[sb]?=J (eO s1):=by rw[<-D];exact aX ks.M
  have gb:eb≠sb:=by omega
  have hR:∀p,fY sb h.tn H1 p->ek 1 p (.arr eb 0 128 128) (bW ((mz r (F b)).drop (64*0))):=λp T=>by
   rw[ac2,gP];refine⟨zo _,.inr ⟨eb,0,128,_,by rw[bJ,o],by rw[bJ,o];decide,T.box _ _ gb Y,?_,?_⟩⟩
   .rw[KM,bJ,mr,gP,vP (nh _)]
   .rw[bJ,de,nh,o,nj];decide
  have kR:=aj.mk hR;have kB:=aj.mk Y;have y:=aj.mk E8;have kS1:=aj.mk eM;clear Y E8 eM hR D hz kM ks cp st p1 sl ix;refine cJ (λT e H=>∃(i:Nat) (z0:V),64*i<=128/\T=128-64*i/\e.get 2=.ptr (.box (F h.I)) 0/\e.get 3=.ptr (.box sb) 0/\e.get 4=.func (.func 245) [.ptr (.box sb) 0] []/\e.get 6=z0/\e.defers=[]/\(∀p,fY sb h.tn H1 p->ek 1 p z0 (bW ((mz r (F b)).drop (64*i))))/\H.I[sb]?=J (eO (iY i s1 (mz r (F b))))/\fY sb h.tn H1 H) ?_ 128 _ _ ?_;rotate_left 1
  .refine⟨0,.arr eb 0 128 128,cC _,O,?_,?_,?_,?_,?_,kR.M,kS1.M,fY.refl _ _ _⟩<;>(first|assumption|(exact gR))
  clear kR kS1 g0 g2 g3 g4 g5 hd ly A;rintro T e H ⟨i,z0,hi,rfl,g2,g3,g4,g6,hd,B,m,g⟩;have ly:=(B H g).len nu;rw[bJ,fJ,o]at ly;by_cases A:0<128-64*i
  .refine uQ λQ=>?_;obtain⟨y1,y2,q1,q2,q3,q4⟩:=Q6 B g (by rw[fJ,o];omega);obtain⟨H2,c1,X,c3⟩:=Mi _ _ sb y1 H (xy i s1 _ h8) (by rw[dJ,fJ,o];omega) m (λp T=>q3 p (g.trans (T.um (fB kE.M.tn (fB y.M.tn g.tn)))));rw[<-HK]at X;have kM:=aj.mk (g.trans (c3.um (fB kE.M.tn (fB y.M.tn g.tn))));have kq:=aj.mk q4;have k2:=aj.mk X;clear g X c3 q3 q4 B m;refine dA @sg @eY.{0} @eP.{0} ?_;refine⟨128-64*(i+1),by omega,i+1,y2,by omega,O,br,br,br,O,br,?_,k2.M,kM.M⟩;rw[(af:64*(i+1)=64*i+64),<-rB];exact kq.M
  have wj:i=128/64:=by omega
  subst wj;have EX:=xy (128/64) s1 (mz r (F b)) h8;generalize iY (128/64) s1 (mz r (F b))=q at *
  have z:Ext h H:=kE.M.mut (y.M.trans g) af;have d:=(y.M.trans g).box _ _ af kd.M;have C:F q=8:=EX;have lds:aL ag Gt H 257 (.ptr (.box sb) 0)=J (.agg (eO q)):=by have yd:F (eO q)=8:=(by rw[bJ];exact C);rw[fS Hy DI m (by rw[yd];exact bh _),gP,fK (by rw[yd];exact bh _)]
  have N:=aj.mk z;have kdb:=aj.mk d;clear z d m g B y kd kB kE EX;have kSh2:aj (jK b=od q):=⟨Z.M⟩;clear Z;refine bD @sg ?_;refine cJ (λT e H=>∃(i:Nat),i<=8/\T=8-i/\e.get 2=.ptr (.box (F h.I)) 0/\e.get 53=.agg (eO q)/\e.get 54=(i:Int)/\e.defers=[]/\H.I[F h.I]?=J (dF (od (q.take i))++bR (32-4*i) (dC 0))/\Ext h H) ?_ 8 _ _ ?_;rotate_left 1
  .refine⟨0,by decide,O,?_,?_,?_,?_,kdb.M,N.M⟩<;>(first|assumption|(exact gR))
  clear kdb N lds g2 g3 g4 g6 hd ly A;rintro T e H ⟨i,hi,rfl,g2,g53,g54,hd,d,z⟩;by_cases A:i=8
  .subst A;rw[fK af]at d;have e0:dF (od q)++bR (32-4*8) (dC 0)=dF (od q):=iB _;rw[e0,<-kSh2.M]at d;have u:F (dF (jK b))=32:=(by rw[nh,kSh2.M,C0,C]);have l177:aL ag Gt H 29 (.ptr (.box (F h.I)) 0)=J (.agg (dF (jK b))):=(by rw[fS Mk yD d (by rw[u];exact bh _),gP,fK (by rw[u];exact bh _)]);have s177:b9 ag H 29 (.ptr (.box (F h.I)) 0) (.agg (dF (jK b)))=J H:=(by rw[fI (GO _) yD d u (by rw[u];exact bh _),aaZ,ju d]);have N:=aj.mk z;clear d z;refine bD @sg ?_;exact⟨_,O,N.M⟩
  .refine uQ λQ=>?_;have R:i<8:=(by omega);have iv:=XW (k:=.i64) C R;have e4:IntKind.i64.wrap (4*((i:Nat):Int))=((4*i:Nat):Int):=(by rw[jq af af];omega);have e5:IntKind.i64.wrap (((4*i:Nat):Int)+4)=((4*i+4:Nat):Int):=(by rw[jq af af];omega);have sl:=aaW (b:=h.I.length) R;have pe:=Qh (F h.I) (4*i) 4 (32-4*i) (fb q i).toNat _ H bm (by have:=(fb q i).isLt;omega) d (by rw[de,nh,C0,dJ,nj];omega);rw[Zk C R]at pe;have Fo:=(bk.1 d).1;have N:=aj.mk z;clear d z;refine bF @sg @UK ?_;refine⟨8-(i+1),by omega,i+1,by omega,O,br,br,O,br,dM Fo,N.M.gw (bh _) _⟩
def aaj(z:V):∀n:Nat,(bR n [z]).flatten=bR n z
 |0=>rfl|n+1=>by rw[D_,kJ,aaj z n,D_];rfl
def asS:Tryz.f247.results.toList=[.tmp 4]:=aB
def azv:Tryz.f205.results.toList=[.tmp 2]:=aB
def agc:BB ag 60 (.ac .nil 0 [])=J (.v (.int .i64 0)):=aB
def auz:gY ag 60 (.ac .nil 0 []) aq (J (.v (.int .i64 0))) aq=J (.ac .nil 0 []):=aB
def ZS4{p:Prop}(h:p:=by
 have h:(match ag.info? Q11 with|some i=>Nat.beq i.size 1&&Nat.ble i.bytes 8&&decide ((i.zero.map λz=>z.cells.size)=J 1)|none=>au)=aa:=aB;split at h
 .rename_i i d;simp only[bQ,decide_eq_true_eq]at h;exact⟨i,d,Nat.eq_of_beq_eq_true h.1.1,Nat.le_of_ble_eq_true h.1.2,h.2⟩
 .cases h):p:=h
section
open Go renaming kk5->Q11
def CC:∃i,ag.info? 5=J i/\i.size=1/\i.bytes<=8/\(i.zero.map λz=>z.cells.size)=J 1:=ZS4
end
def zr5:(gp ag 5).bind V.bP=J [dC 0]:=aB
def axE{H}{n}(h0:0<n)(m:n<=1099511627776):gC ag H #[60,3] (.ac .nil 0 []) ((n:Nat):V)=J (.arr (F H.I) 0 n n,H.push (bR n [dC 0]).flatten):=by obtain⟨i,d,h2,g,o⟩:=CC;have:=kL m g;exact Tk nu rG d zr5 h0 af af af h2.symm
def ZS5{p:Prop}(h:p:=by
 have g:=Q12;have a:=Q13 (H:=H) h0 m;have p:IntKind.i64.wrap ((0:Int)-0)=0:=by rfl
 have q:IntKind.i64.wrap (((n:Nat):Int)-0)=((n:Nat):Int):=by rw[RZ,jq af af]
 have d:gY ag Q14 (.arr (F H.I) 0 n n) aq (J ((0:Nat):V)) aq=J (.arr (F H.I) 0 0 n):=aup g Q15 bm bm af h0;have d:gY ag Q14 (.arr (F H.I) 0 n n) aq (J (.v (.int .i64 0))) aq=J (.arr (F H.I) 0 0 n):=d;have o:(0:Int)<(n:Nat):=by omega
 refine da O Q16 O ?_;exact Nt @Q17 @HP @Q18 (ar @Q19 (ar @gi.{0} (ar @uu @RZ)))):p:=h
section
open Go.Proofs.Tryz renaming underlying60->Q12,func247->Q16
open Go.Proofs.YtcbhpkjbiehcpaaGreatDoor renaming axE->Q13,sL->Q15,asS->Q17,agc->Q18,auz->Q19
open Go renaming kk60->Q14
def axW(n:Nat)(h0:0<n)(m:n<=1099511627776)(H:ah):W.call 247 [.ac .nil 0 [],((n:Nat):V)] H=J (.ret (.arr (F H.I) 0 0 n),H.push (bR n [dC 0]).flatten):=ZS5
end
def axX(H:ah):W.call 247 [.ac .nil 0 [],((0:Nat):V)] H=J (.ret (.ac .nil 0 []),H):=by
 have d:=nu;refine da O Tryz.func247 O ?_;have g:IntKind.i64.wrap ((0:Int)-0)=0:=by rfl
 have m:IntKind.i64.wrap (((0:Nat):Int)-0)=0:=by rfl
 exact Nt @asS @HP @agc (ar @auz (ar @gi.{0} (ar @uu @RZ)))
def axz:f' ag 60=J au:=aB
def azF:cQ ag 60=J 1:=aB
def axw{H}{b len ba}{cs}{new}{x}(s:ek 1 H x new)(o:H.I[b]?=J cs)(h2:len+F new<=ba)(p:ba<=F cs):
 gC ag H #[60,60] (.arr b 0 len ba) x=J (.arr b 0 (len+F new) ba,H.put b (ej cs len new.flatten)):=by
 obtain⟨i,g,d,-,m⟩:=CC;have:=Ti (off:=0) nu nu g af (by rw[d];exact m) (by rw[d];exact s.news) o h2 (by rw[d];omega)
 rwa [d,mr,nT]at this
def axC{H}{x}(s:ek 1 H x []):gC ag H #[60,60] (.ac .nil 0 []) x=J (.ac .nil 0 [],H):=by
 obtain⟨i,g,d,-,m⟩:=CC;have o:jT H i.size x=J []:=by rw[d];exact s.news
 unfold gC;simp only[je,jy,nR,jO,nu,g,o];rw[aH ⟨af,by rw[d];exact m⟩];simp
def ZS6{p:Prop}(h:p:=by
 have u28:=Q29;have u233:=Q30;have aE:=Q31;have sE:=Q32;have R:∀(i:Nat) x,xs[i]?=J x->(xs.map λx=>[x])[i]?=J [x]:=λi x o=>by rw[eF,o];rfl
 have jR:∀i,F (d.take i).flatten<=1099511627776:=λi=>by
  refine fB ?_ hb
  conv=>rhs;rw[<-xq i d,ux,de]
  omega
 have N:∀(i:Nat) g,d[i]?=J g->(d.take (i+1)).flatten=(d.take i).flatten++g:=λi g B=>by rw[ga B,ux];simp
 have kS:=aj.mk hs;have D:=aj.mk hl;have kr:=aj.mk R;have kst:=aj.mk N;have kle:=aj.mk jR;have X:F (xs.map λx=>[x])=F xs:=by simp
 clear hs R N jR hl;generalize hM:(xs.map λx=>[x])=Z at *
 refine cA O Q33 O ?_;refine bD @Q34 ?_;refine cJ (λz1 e h'=>∃i:Nat,i<=F xs/\z1=F xs-i/\e.get 0=.ac k 1 Z/\e.get 9=.ac k 1 Z/\e.get 10=(F xs:Nat)/\e.get 11=(i:Int)/\e.get 3=(F (d.take i).flatten:Nat)/\e.get 2=.ac .nil 0 []/\e.defers=[]/\h'=H) ?_ (F xs) _ _ ?_;rotate_left 1
 .refine⟨0,cC _,O,?_,?_,?_,?_,?_,?_,?_,O⟩<;>(first|assumption|(simp only[gW,reduceIte,aT,aN,X]<;>rfl))
 rintro z1 e h' ⟨i,B,rfl,g0,g9,g10,g11,g3,g2,hd,rfl⟩;by_cases z:i<F xs
 .obtain⟨x,o⟩:∃x,xs[i]?=J x:=⟨_,aY z⟩;obtain⟨g,m⟩:∃g,d[i]?=J g:=⟨_,aY (by have:=D.M;omega)⟩;have q:=kS.M i x g o m;have ls:=q.len u28;have A:=kr.M i x o;have WL:(i:Int)<(F Z:Int):=by omega
  have z0:=kst.M i g m;have q1:=kle.M (i+1);rw[z0,de]at q1;have ksum:=aj.mk (show(F (d.take (i+1)).flatten)=F (d.take i).flatten+F g by rw[z0,de]);generalize F (d.take i).flatten=n1 at *
  have e1:IntKind.i64.wrap (((n1:Nat):Int)+((F g:Nat):Int))=((n1+F g:Nat):Int):=by rw[jq af af];omega
  have nn:¬(((n1+F g:Nat):Int)<0):=by omega
  have ld:aL ag Gt h' Q35 (.elem 1 Z i 0)=J x:=by rw[ru aE A];rfl
  clear z0 q1 q;refine bF @Q34 @bj ?_;exact⟨F xs-(i+1),by omega,i+1,by omega,O,by trivial,by trivial,by trivial,by simp,by rw[ksum.M],by trivial,by trivial,by trivial⟩
 have:i=F xs:=by omega
 subst this;rw[show d.take (F xs)=d by rw[D.M];exact gy]at g3;have hn:=kle.M (F xs);rw[show d.take (F xs)=d by rw[D.M];exact gy]at hn;generalize hN:F d.flatten=n at *
 rcases LR n with h0|h0
 .subst h0;have gn:=Q36 h';have Y:d.flatten=[]:=List.eq_nil_of_length_eq_zero hN;refine bD @Q34 ?_;refine cJ (λz1 e u=>∃i:Nat,i<=F xs/\z1=F xs-i/\e.get 25=.ac k 1 Z/\e.get 26=(F xs:Nat)/\e.get 27=(i:Int)/\e.get 6=.ac .nil 0 []/\e.defers=[]/\u=h') ?_ (F xs) _ _ ?_;rotate_left 1
  .refine⟨0,cC _,O,?_,?_,?_,?_,?_,O⟩<;>(first|assumption|(simp only[gW,reduceIte,aT,aN,X]<;>rfl))
  clear g0 g9 g10 g11 g3 g2 hd gn;rintro z1 e u ⟨i,B,rfl,g25,g26,g27,g6,hd,rfl⟩;by_cases z:i<F xs
  .obtain⟨x,o⟩:∃x,xs[i]?=J x:=⟨_,aY z⟩;obtain⟨g,m⟩:∃g,d[i]?=J g:=⟨_,aY (by have:=D.M;omega)⟩;have q:=kS.M i x g o m;have akK:g=[]:=by
    have:=dy m;cases g with|nil=>rfl|cons a l=>exact absurd (acF.2 ⟨_,this,gt⟩) (by rw[Y];exact qR)
   subst akK;have an:=Q37 q;have A:=kr.M i x o;have WL:(i:Int)<(F Z:Int):=(by omega);have ld:aL ag Gt u Q35 (.elem 1 Z i 0)=J x:=(by rw[ru aE A];rfl);clear q;refine bF @Q34 @bj ?_;exact⟨F xs-(i+1),by omega,i+1,by omega,O,by trivial,by trivial,by simp,by trivial,by trivial,by trivial⟩
  .have:i=F xs:=(by omega);subst this;refine bD @Q34 ?_;exact⟨_,_,O,_,O,Ext.refl _,by(try rw[Y]);exact ek.ac (λr R=>by cases R) (λz0=>absurd O z0)⟩
 .have gn:=Q38 n h0 hn h';refine bD @Q34 ?_;rw[aaj];have Cq:∀(i:Nat) g,d[i]?=J g->∀r∈g,F r=1:=λi g B=>by obtain⟨x,o⟩:∃x,xs[i]?=J x:=⟨_,aY (by rw[D.M];exact(bk.1 B).1)⟩;exact(kS.M i x g o B).1
  have p:∀i,∀r∈(d.take i).flatten,F r=1:=λi r R=>by obtain⟨g,h1,h2⟩:=acF.1 R;obtain⟨j,hj⟩:=List.mem_iff_getElem?.1 (List.mem_of_mem_take h1);exact Cq j g hj r h2
  have pM:∀i,F (d.take i).flatten.flatten=F (d.take i).flatten:=λi=>by rw[nA (p i),mr]
  have E:∀i,F (d.take i).flatten<=n:=λi=>by
   rw[<-hN]
   conv=>rhs;rw[<-xq i d,ux,de]
   omega
  have kfl:=aj.mk pM;have kmo:=aj.mk E;have kr2:=aj.mk p;clear Cq pM E p gn;refine cJ (λz1 e u=>∃i:Nat,i<=F xs/\z1=F xs-i/\e.get 25=.ac k 1 Z/\e.get 26=(F xs:Nat)/\e.get 27=(i:Int)/\e.get 6=.arr (F h'.I) 0 (F (d.take i).flatten) n/\e.defers=[]/\u.I[F h'.I]?=J ((d.take i).flatten.flatten++bR (n-F (d.take i).flatten) (Q39 0))/\Ext h' u) ?_ (F xs) _ _ ?_;rotate_left 1
  .refine⟨0,cC _,O,?_,?_,?_,?_,?_,?_,Ext.push _ _⟩<;>(first|assumption|exact aU _ _|(simp only[gW,reduceIte,aT,aN,X]<;>rfl))
  clear g0 g9 g10 g11 g3 g2 hd;rintro z1 e u ⟨i,B,rfl,g25,g26,g27,g6,hd,v,T⟩;by_cases z:i<F xs
  .obtain⟨x,o⟩:∃x,xs[i]?=J x:=⟨_,aY z⟩;obtain⟨g,m⟩:∃g,d[i]?=J g:=⟨_,aY (by have:=D.M;omega)⟩;have q:=(kS.M i x g o m).ext T;have z0:=kst.M i g m;have m1:=kmo.M (i+1);have f0:=kfl.M i;have C:F (d.take (i+1)).flatten=F (d.take i).flatten+F g:=(by rw[z0,de]);rw[C]at m1;have akL:F g.flatten=F g:=(by rw[nA q.1,mr]);have ap:=Q40 q v m1 (by rw[de,nj,f0];omega);have Cv:ej ((d.take i).flatten.flatten++bR (n-F (d.take i).flatten) (Q39 0)) (F (d.take i).flatten) g.flatten=(d.take (i+1)).flatten.flatten++bR (n-F (d.take (i+1)).flatten) (Q39 0):=(by unfold ej;rw[vP f0,yJ,oo (by rw[f0];omega),eP,f0,Lx,z0,ux,de,akL];congr 2;omega);rw[Cv]at ap;have A:=kr.M i x o;have WL:(i:Int)<(F Z:Int):=(by omega);have ld:aL ag Gt u Q35 (.elem 1 Z i 0)=J x:=(by rw[ru aE A];rfl);have kX:=aj.mk T;have Fo:=(bk.1 v).1;have ks:=aj.mk C;clear q T v Cv z0 f0 C;refine bF @Q34 @bj ?_;refine⟨F xs-(i+1),by omega,i+1,by omega,O,by trivial,by trivial,by simp,by rw[ks.M],by trivial,?_,kX.M.gw (bh _) _⟩;exact dM Fo
  .have:i=F xs:=(by omega);subst this;have ht:d.take (F xs)=d:=(by rw[D.M];exact gy);have f0:=kfl.M (F xs);have p:=kr2.M (F xs);rw[ht]at v g6 f0 p;rw[hN]at v g6;rw[sW,List.replicate_zero,iB]at v;have kB:=aj.mk v;have kX:=aj.mk T;clear v T;refine bD @Q34 ?_;exact⟨_,_,O,_,O,kX.M,ek.box p hN.symm kB.M⟩):p:=h
section
open Go.Proofs.Tryz renaming underlying60->Q29,underlying260->Q30,func205->Q33
open Go.Proofs.YtcbhpkjbiehcpaaGreatDoor renaming axz->Q31,azF->Q32,azv->Q34,axX->Q36,axC->Q37,axW->Q38,dC->Q39,axw->Q40
open Go renaming kk60->Q35
def ahk(k:Tok)(xs:List V)(d:List (List (List V)))(hl:F xs=F d)(H:ah)(hs:∀(i:Nat) x g,xs[i]?=J x->d[i]?=J g->ek 1 H x g)(hb:F d.flatten<=1099511627776)(fF:F xs<=1000):
 ∃r H',W.call 205 [.ac k 1 (xs.map λx=>[x])] H=J (r,H')/\∃y,r=.ret y/\Ext H H'/\ek 1 H' y d.flatten:=ZS6
end
def asE:Tryz.f207.results.toList=[.tmp 4]:=aB
def azo:Tryz.f141.results.toList=[.tmp 2]:=aB
def agb:BB ag 23 (.ac .nil 0 [])=J (.v (.int .i64 0)):=aB
def auy:gY ag 23 (.ac .nil 0 []) aq (J (.v (.int .i64 0))) aq=J (.ac .nil 0 []):=aB
section
open Go renaming kk3->Q11
def Ar:∃i,ag.info? 3=J i/\i.size=1/\i.bytes<=8/\(i.zero.map λz=>z.cells.size)=J 1:=ZS4
end
def zr3:(gp ag 3).bind V.bP=J [im 0]:=aB
def axD{H}{n}(h0:0<n)(m:n<=1099511627776):gC ag H #[23,3] (.ac .nil 0 []) ((n:Nat):V)=J (.arr (F H.I) 0 n n,H.push (bR n [im 0]).flatten):=by obtain⟨i,d,h2,g,o⟩:=Ar;have:=kL m g;exact Tk dp rG d zr3 h0 af af af h2.symm
def axy:f' ag 23=J au:=aB
def iA:cQ ag 23=J 1:=aB
def axv{H}{b len ba}{cs}{new}{x}(s:ek 1 H x new)(o:H.I[b]?=J cs)(h2:len+F new<=ba)(p:ba<=F cs):
 gC ag H #[23,23] (.arr b 0 len ba) x=J (.arr b 0 (len+F new) ba,H.put b (ej cs len new.flatten)):=by
 obtain⟨i,g,d,-,m⟩:=Ar;have:=Ti (off:=0) dp dp g af (by rw[d];exact m) (by rw[d];exact s.news) o h2 (by rw[d];omega)
 rwa [d,mr,nT]at this
def axB{H}{x}(s:ek 1 H x []):gC ag H #[23,23] (.ac .nil 0 []) x=J (.ac .nil 0 [],H):=by
 obtain⟨i,g,d,-,m⟩:=Ar;have o:jT H i.size x=J []:=by rw[d];exact s.news
 unfold gC;simp only[je,jy,nR,jO,dp,g,o];rw[aH ⟨af,by rw[d];exact m⟩];simp
def asz:Tryz.f138.results.toList=[.cell 4 29]:=aB
def ahC(l)(h):l_ ag h 9 60 (.v (.string (bs l)))=J (.ac (.free h.tn) 1 (bW l),h.app .nil):=by have d:ag.underlying 9=J .string:=Bn;have h2:ag.underlying 60=J (.slice 5):=nu;have g:ag.underlying 5=J (.int .u8):=Tryz.underlying5;obtain⟨i,m,o,-⟩:=CC;unfold l_;simp only[d,h2,g,m,o,if_true];simp[bs,ah.fresh,ah.app]
def afs(x y)(d:x.dt=aa)(g:y.dt=aa):fC ag 260 2 [(0,x),(1,y)]=J (.ac .aP 1 [[x],[y]]):=by cases x<;>first|(cases d;done)|(cases y<;>first|(cases g;done)|kernel_rfl)
def ek.cell{sz}{h}{x}{U}(s:ek sz h x U):x.dt=aa:=by rcases s.2 with⟨k,o,rfl,-⟩|⟨b,g,d,m,rfl,-⟩<;>rfl
def DB(b):F (jK b)=32:=by unfold jK;rw[C0,xy _ _ _ O]
def auj(d):gY ag 29 (.ptr (.box d) 0) aq aq aq=J (.arr d 0 32 32):=aB
def avO(d b:List UInt8)(x:V)(h:ah)(s:ek 1 h x (bW b))(hb:F b<=1099511620000)(ht:F d<=1099511620000):
 ∃h',W.call 138 [.v (.string (bs d)),x] h=J (.ret (.agg (dF (lK d b))),h')/\Ext h h':=by
 have Y:=Rx;have B:Ext h ((h.push (bR 32 (dC 0))).app .nil):=(Ext.push _ _).trans (Ext.app (Ext.refl _) (.inl O));have E:((h.push (bR 32 (dC 0))).app .nil).I=(h.push (bR 32 (dC 0))).I:=ey _ _;obtain⟨g,c2,u⟩:=aaQ d (.ac (.free (h.push (bR 32 (dC 0))).tn) 1 (bW d)) ((h.push (bR 32 (dC 0))).app .nil) (ek.ac (zo _) λ_=>rfl) af;have d0:g.I[F h.I]?=J (bR 32 (dC 0)):=u.box _ _ (by rw[E];exact aU _ _);have tl:F (dF (jK d))=32:=by rw[nh,DB]
 have st1:b9 ag (g.push (bR 32 (dC 0))) 29 (.ptr (.box (F g.I)) 0) (.agg (dF (jK d)))=J (g.push (dF (jK d))):=j3 (GO _) yD tl O;have z:ek 1 (g.push (dF (jK d))) x (bW b):=((s.ext B).ext u).ext (Ext.push _ _);have A:ek 1 (g.push (dF (jK d))) (.arr (F g.I) 0 32 32) (bW (jK d)):=ek.box (zo _) (by rw[bJ,DB]) (by rw[KM];exact aU _ _);obtain⟨r3,C,T,z0,rfl,x3,y⟩:=ahk .aP [.arr (F g.I) 0 32 32,x] [bW (jK d),bW b] O (g.push (dF (jK d))) (λi z1 rs p m=>by
  rcases i with _|_|i
  .injection p with p;injection m with m;subst p;subst m;exact A
  .injection p with p;injection m with m;subst p;subst m;exact z
  .cases p) (by simp[DB];omega) cE
 have N:[bW (jK d),bW b].flatten=bW (jK d++b):=by simp[bW]
 rw[N]at y;have bl:=afs _ x (ek.cell A) (ek.cell z);obtain⟨q,D,R⟩:=aaQ (jK d++b) z0 C y (by rw[de,DB];omega);have v:Ext g q:=(Ext.push _ _).trans (x3.trans R);have d4:q.I[F h.I]?=J (bR 32 (dC 0)):=v.box _ _ d0;have o:F (dF (lK d b))=32:=by rw[nh];exact DB _
 have st2:b9 ag q 29 (.ptr (.box (F h.I)) 0) (.agg (dF (lK d b)))=J (q.put (F h.I) (dF (lK d b))):=by rw[fI (GO _) yD d4 o cE,vA (by rw[o];simp)]
 have Z:aL ag Gt (q.put (F h.I) (dF (lK d b))) 29 (.ptr (.box (F h.I)) 0)=J (.agg (dF (lK d b))):=by rw[fS Mk yD (dM (bk.1 d4).1) (by rw[o];exact bh _),gP,fK (by rw[o];exact bh _)]
 replace D:W.call 204 [z0] C=J (.ret (.agg (dF (lK d b))),q):=D;have X:=aj.mk (((B.trans u).trans v).gw (bh _) (dF (lK d b)));simp only[dR,sV]at T;clear s z A y B E u x3 R v d0 d4 N tl o;refine iG O Tryz.func138 O ?_;refine dA @asz @ahC @auj ?_;exact⟨_,O,X.M⟩
def QN:Tryz.f69.results.toList=[.tmp 4]:=aB
def XV{b n}{k}(g:n<32):dU ag 29 (.ptr (.box b) 0) (.v (.int k (n:Nat)))=J (.ptr (.box b) n):=by have d:ag.underlying 29=J (.array 32 5):=Mg;unfold dU;simp only[d,sL];rw[aH ⟨af,by omega⟩];simp
def Yh{H}{b i}{l}(d:H.I[b]?=J (dF l))(hi:i<F l):aL ag Gt H 5 (.ptr (.box b) i)=J (dC (e7 l i)):=by rw[fx Hz d,Hg,eF,aY hi];unfold e7;rw[fg,aY hi];rfl
def UJ(n)(h):l_ ag h 5 3 (.v (.int .u8 n))=J (((IntKind.i64.wrap n:Int):V),h):=aB
def S1(b):∀i,i<=F b->lX b i=(b.take i).foldl (λn c=>n*256+c.toNat) 0
 |0,_=>rfl
 |i+1,d=>by
  rw[lX,S1 b i af];have:b[i]?=J (e7 b i):=by unfold e7;rw[fg,aY af];rfl
  rw[ga this,ot];rfl
def mask(b:List UInt8):List UInt8:=b.set 0 (e7 b 0&&&127)
def YI{b}{i}(d:0<F b):e7 (mask b) i=if i=0 then e7 b 0&&&127 else e7 b i:=by
 unfold mask e7;rw[fg,mq];split
 .rename_i h;subst h;simp[d]
 .rename_i h;rw[aV (λg=>h g.symm),fg]
def Te(c:UInt8):(c&&&127).toNat=c.toNat%128:=by rw[UInt8.toNat_and];exact acS c.toNat 7
def Pw{b}(m:0<F b):∀i,lX (mask b) (i+1)=lX b (i+1)%(128*256^i)
 |0=>by show 0*256+(e7 (mask b) 0).toNat=(0*256+(e7 b 0).toNat)%128;rw[YI m,aH O,Te];omega
 |i+1=>by
  rw[lX,Pw m i,YI m,aV af,lX.eq_2 b (i+1)];have:=GN (e7 b (i+1));generalize lX b (i+1)=g at *
  generalize (e7 b (i+1)).toNat=r at *
  rw[yS,<-Nat.mul_assoc];have q:0<128*256^i:=LW bm (LX bm);generalize 128*256^i=d at *
  have o:=lT g q;have h2:=Nat.div_add_mod g d;have p:g*256+r=d*256*(g/d)+(g%d*256+r):=by rw[Nat.mul_right_comm,<-Nat.add_assoc,<-jm,h2]
  rw[p,Nat.mul_add_mod,nq (a:=g%d*256+r) (b:=d*256) (by have:(g%d+1)*256<=d*256:=Nat.mul_le_mul_right _ o;rw[jm]at this;omega)]
def anr{b}(d:0<F b){i}(hi:i<8):lX (mask b) i<36028797018963968:=by
 cases i with
 |zero=>show 0<_;decide|succ i=>
  rw[Pw d];have g:=lT (lX b (i+1)) (show 0<128*256^i from LW bm (LX bm));have h2:256^i<=256^6:=ac6 bm af;have m:256^6=281474976710656:=by decide
  omega
def hash_eq{b}(d:8<=F b):lX (mask b) 8%Q=qo b:=by unfold qo;rw[Pw af 7,S1 b 8 d]
def aud{t}{x y}{n}(d:n<36028797018963968):df ag .shl t x y ((n:Nat):V) (.v (.int .u64 8))=J ((n*256:Nat):V):=by rw[Mw bm];congr 3;show IntKind.i64.wrap (((n:Nat):Int)*256)=_;rw[jq af af];omega
def ori{t}{x y}{n m}(v:n<36028797018963968)(u:m<256):df ag .or t x y ((n*256:Nat):V) ((m:Nat):V)=J ((n*256+m:Nat):V):=by
 rw[Mv];congr 3;have d:BitVec.ofInt IntKind.i64.bits ((n*256:Nat):Int)=BitVec.ofNat 64 (n*256):=by apply BitVec.eq_of_toNat_eq;show(BitVec.ofInt 64 ((n*256:Nat):Int)).toNat=(BitVec.ofNat 64 (n*256)).toNat;rw[BitVec.toNat_ofInt,BitVec.toNat_ofNat];omega
 have g:BitVec.ofInt IntKind.i64.bits ((m:Nat):Int)=BitVec.ofNat 64 m:=by apply BitVec.eq_of_toNat_eq;show(BitVec.ofInt 64 ((m:Nat):Int)).toNat=(BitVec.ofNat 64 m).toNat;rw[BitVec.toNat_ofInt,BitVec.toNat_ofNat];omega
 have o:(BitVec.ofNat 64 (n*256)|||BitVec.ofNat 64 m).toNat=n*256+m:=by
  rw[BitVec.toNat_or,BitVec.toNat_ofNat,BitVec.toNat_ofNat,nq (af:n*256<2^64),nq (af:m<2^64)];have q:n<<<8=n*256:=by rw[Nat.shiftLeft_eq]
  rw[<-q,<-Nat.shiftLeft_add_eq_or_of_lt (af:m<2^8)]
 have p:(BitVec.ofInt IntKind.i64.bits ((n*256:Nat):Int)|||BitVec.ofInt IntKind.i64.bits ((m:Nat):Int)).toNat=n*256+m:=by rw[d,g];exact o
 rw[p,jq af af]
def aec{t}{x y}(c):df ag .and t x y (dC c) (.v (.int .u8 127))=J (dC (c&&&127)):=by
 unfold dC;rw[qW];congr 3;have m:=GN c;have d:BitVec.ofInt IntKind.u8.bits ((c.toNat:Nat):Int)=BitVec.ofNat 8 c.toNat:=by apply BitVec.eq_of_toNat_eq;show(BitVec.ofInt 8 ((c.toNat:Nat):Int)).toNat=(BitVec.ofNat 8 c.toNat).toNat;rw[BitVec.toNat_ofInt,BitVec.toNat_ofNat];omega
 have g:(BitVec.ofInt IntKind.u8.bits ((c.toNat:Nat):Int)&&&BitVec.ofInt IntKind.u8.bits 127).toNat=c.toNat%128:=by rw[d];show(BitVec.ofNat 8 c.toNat&&&127#8).toNat=_;rw[BitVec.toNat_and,BitVec.toNat_ofNat,nq (af:c.toNat<2^8)];exact acS c.toNat 7
 rw[g,Nd af af,Te]
def anq(l):(dF l).set 0 (dC (e7 l 0&&&127))=dF (mask l):=by unfold mask dF;rw[acC]
def ajk(m b:List UInt8)(x:V)(h:ah)(s:ek 1 h x (bW b))(hb:F b<=1099511620000)(ht:F m<=1099511620000):
 ∃h',W.call 69 [.v (.string (bs m)),x] h=J (.ret (im (qo (lK m b):Nat)),h')/\Ext h h':=by
 obtain⟨d,c1,Y⟩:=avO m b x h s hb ht;have y:F (lK m b)=32:=DB _;have p:F (dF (lK m b))=32:=by rw[nh,y]
 have C:=hash_eq (b:=lK m b) af;generalize lK m b=g at *
 have q:0<F g:=by omega
 have z:=Rx;have T:b9 ag (d.push (bR 32 (dC 0))) 29 (.ptr (.box (F d.I)) 0) (.agg (dF g))=J (d.push (dF g)):=j3 (GO _) yD p O;have E:dU ag 29 (.ptr (.box (F d.I)) 0) (.v (.int .i64 0))=J (.ptr (.box (F d.I)) 0):=XV (n:=0) bm;have l0:aL ag Gt (d.push (dF g)) 5 (.ptr (.box (F d.I)) 0)=J (dC (e7 g 0)):=Yh (aU _ _) q;have X:b9 ag (d.push (dF g)) 5 (.ptr (.box (F d.I)) 0) (dC (e7 g 0&&&127))=J (d.push (dF (mask g))):=by rw[Rh (aU _ _) (by rw[p];decide),anq,ml]
 have v:F (mask g)=32:=by unfold mask;rw[nS,y]
 have hX:=aj.mk (Y.trans (Ext.push d (dF (mask g))));have B:=aU d (dF (mask g));have o:=λi D=>anr q (i:=i) D;have kB:=aj.mk B;have N:=aj.mk o;have ke:=aj.mk C;have R:=aj.mk v;clear s p y B o C v Y q;unfold im;refine iG O Tryz.func69 O ?_;refine bF @QN @aec ?_;refine cJ (λz0 e H=>∃i:Nat,i<=8/\z0=8-i/\e.get 5=.ptr (.box (F d.I)) 0/\e.get 14=(i:Int)/\e.get 4=(lX (mask g) i:Nat)/\e.defers=[]/\H=d.push (dF (mask g))) ?_ 8 _ _ ?_;rotate_left 1
 .refine⟨0,by decide,O,?_,?_,?_,?_,O⟩<;>(first|assumption|(exact gR))
 clear z T E l0 X c1;rintro z0 e H ⟨i,D,rfl,g5,g14,g4,hd,rfl⟩;by_cases h8:i=8
 .subst h8;have e1:(((lX (mask g) 8:Nat):Int)).tmod 1073741789=((qo g:Nat):Int):=by rw[<-ke.M];exact qL _ _
  generalize lX (mask g) 8=z1 at *
  refine bD @QN ?_;exact⟨_,O,hX.M⟩
 .have o:i<8:=by omega
  have A:=N.M i o;have u1:=GN (e7 (mask g) i);have ix:=XV (b:=d.I.length) (n:=i) (k:=.i64) af;have ld:aL ag Gt (d.push (dF (mask g))) 5 (.ptr (.box (F d.I)) i)=J (.v (.int .u8 ((e7 (mask g) i).toNat:Nat))):=Yh kB.M (by have:=R.M;omega);have ew:IntKind.i64.wrap (((e7 (mask g) i).toNat:Nat):Int)=(((e7 (mask g) i).toNat:Nat):Int):=jq af af;have s1:=λt x Z=>aud (t:=t) (x:=x) (y:=Z) A;have s2:=λt x Z=>ori (t:=t) (x:=x) (y:=Z) A u1;have u:=aj.mk (show lX (mask g) (i+1)=lX (mask g) i*256+(e7 (mask g) i).toNat from O);generalize lX (mask g) i=z1 at *
  generalize (e7 (mask g) i).toNat=r at *
  refine bF @QN @UJ ?_;exact⟨8-(i+1),by omega,i+1,by omega,O,by trivial,O,by rw[u.M],by trivial,by trivial⟩
end Go.Proofs.YtcbhpkjbiehcpaaGreatDoor
end
section
namespace Go.AE
structure Grown(n0:Nat)(h h':ah)(t:Tok):Prop where
 box:∀(b:Nat) (cs:List V),h.I[b]?=J cs->h'.I[b]?=J cs
 loop:∀(l:Nat) (r:ij),h.aI[l]?=J r->h'.aI[l]?=J r
 can:dm n0 h' t
 ok:du h'=aa
 tn:h.tn<=h'.tn
 dead:∀n,n<n0->n∈h'.dead->n∈h.dead
section
variable {n0:Nat} {h0 h h' h2:ah} {t k:Tok}
def Grown.refl(g:dm n0 h k)(m:du h=aa):Grown n0 h h k:=⟨λ_ _ d=>d,λ_ _ d=>d,g,m,bh _,λ_ _ d=>d⟩
def Grown.trans(g:Grown n0 h h' t)(d:Grown n0 h' h2 k):Grown n0 h h2 k:=
 ⟨λb m p=>d.box b m (g.box b m p),λb m p=>d.loop b m (g.loop b m p),d.can,d.ok,fB g.tn d.tn,λn o p=>g.dead n o (d.dead n o p)⟩
def Grown.ext(g:Grown n0 h h' t)(x:Ext h0 h)(q:h0.tn<=n0):Ext h0 h':=
 ⟨λb d m=>g.box b d (x.box b d m),λl r p=>g.loop l r (x.loop l r p),fB x.tn g.tn,λn u o=>x.dead n u (g.dead n (mQ u q) o),λ_=>g.ok⟩
def Bs(g:du h=aa)(o:dm n0 h k):du (h.app k)=aa:=by
 unfold du at *
 rw[ff]at *
 intro n d;rcases o with rfl|rfl|⟨p,rfl,-,m⟩
 .exact cD (LU (of_decide_eq_true (g n d)))
 .exact cD (LU (of_decide_eq_true (g n d)))
 .rcases hh.1 d with rfl|q
  .exact cD (LU (qV m))
  .exact cD (LU (of_decide_eq_true (g n q)))
def Grown.one(g:dm n0 h k)(m:du h=aa)(q:n0<=h.tn):Grown n0 h (h.app k) (.free h.tn):=by
 refine⟨λb p o=>by rw[ey];exact o,λb p o=>by rw[Br];exact o,g.next m q,Bs m g,by rw[Et];omega,λn o d=>?_⟩;rcases g with rfl|rfl|⟨y,rfl,v,u⟩
 .exact d
 .exact d
 .rcases hh.1 d with rfl|d<;>omega
def Grown.push(g:Grown n0 h h' t)(cs:List V):Grown n0 h (h'.push cs) t:=⟨λb cs d=>aX (g.box b cs d),g.loop,g.can,g.ok,g.tn,g.dead⟩
def Grown.app(g:Grown n0 h h' t)(d:n0<=h.tn):Grown n0 h (h'.app t) (.free h'.tn):=g.trans (Grown.one g.can g.ok (fB d g.tn))
variable {P:bL} {t0 t1 elem:aO} {i:TypeInfo} {sz:Nat} {es new:List (List V)} {x:V}
def yZ(h0:P.underlying t0=J (.slice elem))(h1:(∃e,P.underlying t1=J (.slice e))∨P.underlying t1=J .string)(hi:P.info? elem=J i)(m:0<i.size)(y:(i.zero.map λz=>z.cells.size)=J i.size)
 (v:jT h i.size x=J new) (g:new≠[]) (p:(F es+F new)*i.bytes<=140737488355328) (u:F es+F new<=9223372036854775807) (d:sz=i.size∨(es=[]/\k=.nil)) (q:dm n0 h k):
 gC P h #[t0,t1] (.ac k sz es) x=J (.ac (.free h.tn) i.size (es++new),h.app k):=by
 unfold gC;rcases h1 with⟨e,h1⟩|h1
 all_goals
  simp only[je,jy,nR,jO,h0,h1,hi,v];rw[aH ⟨m,y⟩,aH (d.imp_right λA=>A.1),aV g,aH ⟨p,u⟩];rcases q with rfl|rfl|⟨B,rfl,-,o⟩
  .rfl
  .rfl
  .have d:sz=i.size:=by
    rcases d with d|⟨-,d⟩
    .exact d
    .cases d
   simp only[o,d,decide_true,Bool.and_self,if_true];rfl
def Tj(h0:P.underlying t0=J (.slice elem))(g:(∃e,P.underlying t1=J (.slice e))∨P.underlying t1=J .string)(hi:P.info? elem=J i)(d:0<i.size)(p:(i.zero.map λz=>z.cells.size)=J i.size)
 (o:jT h i.size x=J []) (m:sz=i.size∨es=[]):gC P h #[t0,t1] (.ac k sz es) x=J (.ac k sz es,h):=by
 unfold gC
 grind
end
end Go.AE
end
section
namespace Go.AE
open Go.RowKit (Below)
mutual
def et(h:ah):V->V
 | .ac k sz es=>.ac (cK k) sz es
 | .arr b g len _=>match h.I[b]? with
  |some d=>if g+len<=F d then .ac .held 1 (((d.drop g).take len).map λc=>[c]) else .bad
  |none=>.bad
 | .tuple d=>.tuple (jb h d)
 | .agg d=>.agg (jb h d)
 |x=>x
def jb(h:ah):List V->List V
 | []=>[]
 |x::r=>et h x::jb h r
end
def wC(R:Rec)(g:a_)(args:List V):Option V:=
 if aM 0 0 0 (bE args)=aa then
  match R.call g (bE args) ⟨[],[],0,[]⟩ with
  |some (.ret d,h2)=>if aK 0 0 0 (et h2 d)=aa then J (et h2 d) else aq
  |_=>aq
 else aq
def zu(R:Rec)(g:a_)(args:List V)(h:ah):Option (V × ah):=(wC R g args).map (·,h)
def Gz:∀l:List V,(l.map λc=>[c]).flatten=l
 | []=>rfl
 |x::l=>by rw[dR,kJ,Gz l];rfl
section
variable {P:bL} {G:Nat->Option (List V)} {ok:a_->Nat->Code->Bool} {w0 w w':World} {K K1 K2:bA} {h h2:ah}
mutual
def aZ.i'(d:∀g j c,K1.ic g j=J c->K2.ic g j=J c):∀{x:V} {c:aQ},aZ K1 x c->aK 0 0 0 x=aa->aZ K2 x c
 |_,_,.bad c,_=>.bad c
 |_,_,.v x B,_=>.v x B
 |_,_,.nil sz,_=>.nil sz
 |_,_,.gH sz a,_=>.gH sz a
 |_,_,.ac k sz es g m Y p cells T A o y D v,h=>by
  rw[aK,bQ]at h;refine .ac k sz es g m Y p cells T A (aR.i' d o (by rw[pq];grind)) (λj c z=>d _ _ _ (y j c z)) ⟨D.1,?_⟩ v;have u:=h.1;have h2:=D.2;cases k with|free i=>simp[pX]at u|_=>exact h2
 |_,_,.arr _ _ _ _ _ _ _ _ _ _ _ _,h=>by simp[aK]at h
 |_,_,.agg q C o,h=>.agg q C (aR.i' d o (by rw[aK]at h;exact h))
 |_,_,.tuple q C o,h=>.tuple q C (aR.i' d o (by rw[aK]at h;exact h))
 |_,_,.box _ _ _ _,h=>by simp[aK]at h
 |_,_,.ec g m,_=>.ec g m
 |_,_,.elem sz es i m g Z z0 cells A o y R X v,h=>.elem sz es i m g Z z0 cells A (aR.i' d o (by rw[pq];rw[aK]at h;exact h)) (λj c z=>d _ _ _ (y j c z)) R X v
 |_,_,.func E first p N q u h2,h=>.func E first p N q (aR.i' d u (by rw[aK,bQ]at h;grind)) (aR.i' d h2 (by rw[aK,bQ]at h;grind))
 |_,_,.yield _ _ _,h=>by simp[aK]at h
 |_,_,.iface t x c B,h=>.iface t x c (aZ.i' d B (by rw[aK]at h;exact h))
def aR.i'(d:∀g j c,K1.ic g j=J c->K2.ic g j=J c):∀{xs:List V} {cs:List aQ},aR K1 xs cs->aM 0 0 0 xs=aa->aR K2 xs cs
 |_,_,.nil,_=>.nil
 |_,_,.cons x c xs cs o m,h=>.cons x c xs cs (aZ.i' d o (by rw[aM,bQ]at h;grind)) (aR.i' d m (by rw[aM,bQ]at h;grind))
end
mutual
def aZ.nY(s1:bZ K1 G ok w h2 w')(d:∀g j c,K1.ic g j=J c->K2.ic g j=J c)(y:∀g j c,K1.base<=g->w'.cell? ⟨g,j,aq⟩=J c->K2.ic g j=J c):
 ∀{x:V} {c:aQ},aZ K1 x c->aK 0 0 0 (et h2 x)=aa->aZ K2 (et h2 x) c
 |_,_,.bad c,_=>.bad c
 |_,_,.v x Z,_=>.v x Z
 |_,_,.nil sz,_=>.nil sz
 |_,_,.gH sz a,_=>.gH sz a
 |_,_,.ac k sz es g m z0 p cells X z v C E B,h=>by
  have R:fZ 0 0 0 es=aa:=by simp only[et,aK,bQ]at h;exact h.2
  have N:aR K2 es.flatten cells:=aR.i' d v (by rw[pq];exact R);cases k with|nil=>exact E.2.elim|aP=>exact .ac .aP sz es g m z0 p cells X z N (λj c u=>d _ _ _ (C j c u)) ⟨E.1,E.2⟩ B|free i=>exact .ac .held sz es g m z0 p cells X z N (λj c u=>d _ _ _ (C j c u)) ⟨E.1,br⟩ B|held=>exact .ac .held sz es g m z0 p cells X z N (λj c u=>d _ _ _ (C j c u)) ⟨E.1,br⟩ B
 |_,_,.arr b g m len p o A hb hl qs ho z,h=>by
  simp only[et]at h ⊢;cases T:h2.I[b]? with
  |none=>exact .bad _|some q=>
   rw[T]at h;simp only at h ⊢;split at h
   .rename_i D;rw[aH D];have R:fZ 0 0 0 (((q.drop m).take len).map λc=>[c])=aa:=(by simp only[aK,bQ]at h;exact h.2);obtain⟨q1,q2,q3,cells,e,q4,q5⟩:=s1.box b g q hb T;have WK:=q5.le;by_cases h0:p=0
    .have:len=0:=(by omega);subst this;exact .ac .held 1 [] g o 0 A [] O (λ_ h=>by cases h) .nil (λ_ _ h=>by grind) ⟨cC _,br⟩ O
    .have Y:o=m:=(by simp_all);subst Y;have v:aR K1 ((q.drop o).take len) (((cells.toList.take (F q)).drop o).take len):=(q5.1.drop o).take len;have qu:F ((q.drop o).take len)=len:=(by rw[dJ,fJ];omega);refine .ac .held 1 _ g o len A (((cells.toList.take (F q)).drop o).take len) (by simp_all) (λr z=>?_) ?_ (λj c u=>?_) ⟨af,br⟩ ?_
     .grind
     .rw[Gz];rw[<-pq,Gz]at R;exact aR.i' d v R
     .refine y _ _ _ q1 ?_;have wm:j<len:=(by have:=(bk.1 u).1;rw[dJ]at this;omega);rw[o0,aH wm,rD,o0,aH af]at u;rw[cell_of q4];simp_all
     grind
   .rename_i D;rw[aV D];exact .bad _
 |_,_,.agg q vs v,h=>.agg _ vs (aR.nY s1 d y v (by simpa only[et,aK] using h))
 |_,_,.tuple q vs v,h=>.tuple _ vs (aR.nY s1 d y v (by simpa only[et,aK] using h))
 |_,_,.box b g m hb,h=>by simp[et,aK]at h
 |_,_,.ec g m,_=>.ec g m
 |_,_,.elem sz es i m g z1 z2 cells z v C hi hp B,h=>.elem sz es i m g z1 z2 cells z (aR.i' d v (by rw[pq];simpa only[et,aK] using h)) (λj c u=>d _ _ _ (C j c u)) hi hp B
 |_,_,.func fn first p fs q h1 h2,h=>by simp only[et,aK,bQ]at h;exact .func fn first p fs q (aR.i' d h1 h.1) (aR.i' d h2 h.2)
 |_,_,.yield l g hl,h=>by simp[et,aK]at h
 |_,_,.iface t x c Z,h=>by simp only[et,aK]at h;exact .iface t x c (aZ.i' d Z h)
def aR.nY(o:bZ K1 G ok w h2 w')(m:∀g j c,K1.ic g j=J c->K2.ic g j=J c)(d:∀g j c,K1.base<=g->w'.cell? ⟨g,j,aq⟩=J c->K2.ic g j=J c):
 ∀{xs:List V} {cs:List aQ},aR K1 xs cs->aM 0 0 0 (jb h2 xs)=aa->aR K2 (jb h2 xs) cs
 |_,_,.nil,_=>.nil
 |_,_,.cons x c xs cs q p,h=>by simp only[jb,aM,bQ]at h;exact .cons _ c _ cs (aZ.nY o m d q h.1) (aR.nY o m d p h.2)
end
def bA.oh(K:bA)(n:Nat)(w:World):bA:={K with ic:=λd j=>if d<n then K.ic d j else w.cell? ⟨d,j,aq⟩}
def bA.Js(s:bZ K G ok w0 h w):K.Le (K.oh w.heap.size w'):=by
 refine⟨O,λg j c d=>?_,λ_ _ h=>h,λ_ _ h=>h,bh _,λ_ _=>rfl,λ_ h=>h,λ_ _=>rfl,λg j c d=>?_⟩
 .simp only[bA.oh,aH (s.wD d),d]
 .simp only[bA.oh]at d;split at d
  .simp_all
  .exact .inr (by have:=s.size;omega)
def bZ.oh(s:bZ K G ok w0 h w)(b:Below w.heap.size w w'):bZ (K.oh w.heap.size w') G ok w0 h w':=by
 have g:=s.grown b;have le:K.Le (K.oh w.heap.size w'):=bA.Js s;refine⟨g.fG,g.size,λd j c o=>?_,λd y T=>?_,g.jd,g.nQ,λD d y z o=>?_,g.mM,g.oW,λl d r X Y=>?_,g.tn,λt E=>?_,g.oj,g.md,g.all⟩
 .simp only[bA.oh]at o;split at o
  .exact g.ic d j c o
  omega
 .obtain⟨cells,m,p⟩:=g.ec d y T;exact⟨cells,m.mono le,λj c A=>le.ic _ _ _ (p j c A)⟩
 .obtain⟨m,p,u,cells,e,v,Z⟩:=g.box D d y z o;obtain⟨-,-,-,q,N,B,-⟩:=s.box D d y z o;refine⟨m,λj=>?_,u,cells,e,v,Z.mono le (bk.1 z).1⟩;simp only[bA.oh,aH (pO B)]
  grind
 .obtain⟨m,R,C,z1,p,u,v⟩:=g.loop l d r X Y;exact⟨m,R,C,z1,p,u.mono le,v⟩
 .obtain⟨m,p,u,v⟩:=g.tok t E;obtain⟨-,-,-,q,N,z0,B,-⟩:=s.tok t E;refine⟨m,p,λj A=>?_,v⟩;simp only[bA.oh,aH (pO B)];exact u j A
def bA.alone(K:bA)(n:Nat):bA:={K with base:=n,β:=[],γ:=[],tn:=0,md:=[]}
def bZ.alone(s:bZ K G ok w0 h w)(q:∀g cs,G g=J cs->aM 0 0 0 cs=aa):bZ (K.alone w.heap.size) G ok w ⟨[],[],0,[]⟩ w:=by
 refine⟨Below.refl _ _,bh _,s.ic,λg cs o=>?_,O,λb p g d=>by simp[bA.alone]at d,λb g cs d=>by simp_all,O,λb p g d=>by simp[bA.alone]at d,λl g r z=>by simp_all,O,λt m=>?_,λt A m=>?_,λr u=>by simp[bA.alone]at u,O⟩
 .obtain⟨cells,v,y⟩:=s.ec g cs o;exact⟨cells,aR.i' (K1:=K) (K2:=K.alone w.heap.size) (λ_ _ _ h=>h) v (q g cs o),y⟩
 .simp[alive]at m
 .simp[alive]at m
def ZS7{p:Prop}(h:p:=by
 refine⟨B,λargs h x h' m K w v hv u cs=>?_⟩;unfold Q41 Q42 at m;split at m
 .rename_i hf;split at m
  .rename_i z1 h2 d;split at m
   .rename_i A;simp only[gc,d_,dz]at m;obtain⟨rfl,rfl⟩:=m;obtain⟨-,y⟩:=(KR hp (o w)).call g _ _ _ _ d;have s0:=bZ.alone u Y;obtain⟨K1,w',X,le,z,N,C,z0,R,E⟩:=y (K.alone w.heap.size) w v (aR.i' (K1:=K) (K2:=K.alone w.heap.size) (λ_ _ _ h=>h) hv.hold hf) s0 cs;have Z:Below w.heap.size w w':=(by have:=z.fG;rwa [le.base]at this);refine⟨.returned z0,w',X,⟨z0,_,O,bA.Js u,Q43 (K2:=K.oh w.heap.size w') z (λg j c d=>?_) (λg j c D d=>?_) R A,bZ.oh u Z⟩,N,C,E⟩
    .rcases le.new g j c d with q|q
     .have:g<w.heap.size:=u.wD q;simp only[bA.oh,aH this];exact q
     .have q:w.heap.size<=g:=q;simp only[bA.oh,aV (af:¬g<w.heap.size)];exact z.ic g j c d
    .have q:w.heap.size<=g:=(by rw[le.base]at D;exact D);simp only[bA.oh,aV (af:¬g<w.heap.size)];exact d
   grind
  grind
 grind):p:=h
section
open Go.AE renaming zu->Q41,wC->Q42
open Go.AE.aZ renaming nY->Q43
def MG{aS:a_->Option (List V->ah->Option (V × ah))}(hp:Prog P)(Y:∀g cs,G g=J cs->aM 0 0 0 cs=aa)(o:∀T g p,aS g=J p->lV P G T g p){g:a_}(B:∃fn,P.funcs[g]?=J fn/\fn.body.isSome=aa)(T:World):
 lV P G T g (zu (whole P G aS) g):=ZS7
end
def my(R:Rec)(L:List a_)(g:a_):Option (List V->ah->Option (V × ah)):=if L.contains g=aa then J (zu R g) else aq
def tf{aS:a_->Option (List V->ah->Option (V × ah))}(v:Prog P)(q:∀g cs,G g=J cs->aM 0 0 0 cs=aa)(m:∀o g p,aS g=J p->lV P G o g p){L:List a_}(u:∀g∈L,∃fn,P.funcs[g]?=J fn/\fn.body.isSome=aa):
 ∀o g p,my (whole P G aS) L g=some p->lV P G o g p:=by
 intro o g p d;unfold my at d;split at d
 .rename_i y;injection d with d;subst d;exact MG v q m (u g (by simp_all)) o
 grind
def b8{R:Rec}{L:List a_}{g:a_}{args u:List V}{x y:V}{d:ah}(q:L.contains g=aa)(m:bE args=u)(p:aM 0 0 0 u=aa)(o:R.call g u ⟨[],[],0,[]⟩=J (.ret y,d))(z:et d y=x)(v:aK 0 0 0 x=aa):
 ∀h,(whole P G (my R L)).call g args h=J (.ret x,h):=by
 intro h;subst m;subst z;rw[sM];unfold mf my;rw[aH q];simp only[zu,wC,aH p,o,aH v,gc]
end
end Go.AE
end
section
namespace Go.AE
def PM(P:bL)(s d:aO):Bool:=
 match P.underlying s,P.underlying d with
 |some (.int _),J (.int _)=>aa
 |_,_=>au
def ME(P:bL)(ops:Array Oper)(L:List a_)(k:Nat):Bool:=
 match ops[k]? with
 |some d=>d.guard.isNone&&match d.op with
  | .call {callee:=.value (.func f),.. }=>L.contains f
  | .call {callee:=.builtin .max,.. }=>aa
  | .call {callee:=.builtin .min,.. }=>aa
  | .convert s g _=>PM P s g
  |_=>au
 |none=>au
def MH(P:bL)(ops:Array Oper)(L:List a_):List Nat:=(bT ops.size).filter (ME P ops L)
section
variable {P:bL} {G:Nat->Option (List V)} {aS:a_->Option (List V->ah->Option (V × ah))} {Q:Xt->Env->ah->Prop} {e:Env} {h:ah} {L:List a_}
def mN(aS:a_->Option (List V->ah->Option (V × ah)))(L:List a_):Prop:=∀d∈L,∃g:List V->Option V,aS d=J λargs h=>(g args).map (·,h)
def tg{R:Rec}:mN (my R L) L:=λd g=>⟨wC R d,by unfold my;rw[aH (by simp_all)];rfl⟩
def anX{s d:aO}{x:V}(m:PM P s d=aa):∃q:Option V,∀g,l_ P g s d x=q.map (·,g):=by
 unfold PM at m;split at m
 .rename_i p u o h2;unfold l_;simp only[o,h2];cases x<;>first|exact⟨aq,λg=>rfl⟩|exact⟨_,λg=>rfl⟩
 grind
def aeE{d:ah}{ts:Array aO}{ty:aO}{xs:List V}:iQ P d .max ts ty xs=(match flatAll xs with|some l=>(dQ P (Builtin.max_ ts ty l.toArray)).bind lH|none=>aq).map (·,d):=by rcases xs with _|⟨x,_|⟨g,xs⟩⟩<;>(unfold iQ;simp only[];cases flatAll _<;>rfl)
def aeF{d:ah}{ts:Array aO}{ty:aO}{xs:List V}:iQ P d .min ts ty xs=(match flatAll xs with|some l=>(dQ P (Builtin.min_ ts ty l.toArray)).bind lH|none=>aq).map (·,d):=by rcases xs with _|⟨x,_|⟨g,xs⟩⟩<;>(unfold iQ;simp only[];cases flatAll _<;>rfl)
def HO{o:Oper}(C:o.guard=aq)(E:xB o.op=aa)(v:∀u:Env,∃q:Option V,∀g,ev P G (whole P G aS) u g o=q.map λx=>(.ret x,u,g)){ops:Array Oper}{B:Env}{D:ah}
 (m:cB P G (whole P G aS) ops (bT ops.size) e h=J (.normal,B,D)) {k:Nat} (p:ops[k]?=J o):vZ P G (whole P G aS) ops e h k:=by
 have d:k<ops.size:=(Array.getElem?_eq_some_iff.1 p).1;obtain⟨-,A,st⟩:=trace m;obtain⟨z,-⟩:=st k d;obtain⟨q,y⟩:=v (dj P G (whole P G aS) ops e h k).1;unfold ii at z;simp only[p,fh,C,y]at z;cases N:q with|none=>simp_all|some x=>exact⟨o,x,_,_,p,E,A k (Nat.le_of_lt d),λR g=>⟨_,_,A R g,by simp_all⟩⟩
def Uc{ops:Array Oper}(B:mN aS L){A:Env}{C:ah}(m:cB P G (whole P G aS) ops (bT ops.size) e h=J (.normal,A,C)){k:Nat}(o:ME P ops L k=aa):vZ P G (whole P G aS) ops e h k:=by
 unfold ME at o;split at o
 .rename_i z v;simp only[bQ,Option.isNone_iff_eq_none]at o;obtain⟨u,o⟩:=o;split at o
  .rename_i f args q d;obtain⟨D,y⟩:=B f (by simp_all);refine HO u (by rw[d];rfl) (λg=>⟨D (args.toList.map g.eval),λp=>?_⟩) m v;have:ev P G (whole P G aS) g p z=(kZ P (whole P G aS) g p {callee:=.value (.func f),args,argTypes:=q}).map λ(r,h1)=>(r,g,h1):=(by unfold ev;rw[d]);rw[this,TW,sM];unfold mf;rw[y];simp only[L'];rfl
  .rename_i args q d;refine HO u (by rw[d];rfl) (λg=>⟨match flatAll (args.toList.map g.eval) with|some l=>(dQ P (Builtin.max_ q z.type l.toArray)).bind lH|none=>aq,λp=>?_⟩) m v
   .unfold ev;simp only[d];show(iQ P p .max q z.type (args.toList.map g.eval)).map _=_;rw[aeE,L'];rfl
  .rename_i args q d;refine HO u (by rw[d];rfl) (λg=>⟨match flatAll (args.toList.map g.eval) with|some l=>(dQ P (Builtin.min_ q z.type l.toArray)).bind lH|none=>aq,λp=>?_⟩) m v
   .unfold ev;simp only[d];show(iQ P p .min q z.type (args.toList.map g.eval)).map _=_;rw[aeF,L'];rfl
  .rename_i s E x d;refine HO u (by rw[d];rfl) (λg=>?_) m v;obtain⟨D,y⟩:=anX (P:=P) (x:=g.eval x) o;refine⟨D,λp=>?_⟩;unfold ev;simp only[d,dP,y,L'];rfl
  grind
 grind
def jY{id:Nat}{ops:Array Oper}(ps:List (Nat × Nat))(u:mN aS L)(v:BK ops (MH P ops L) ps=aa)(A:∀p∈ps,jZ P G (whole P G aS) ops e h p.1 p.2=aa)
 (g:cO P G (whole P G aS) ops ops.toList e h (uJ Q)):bM (whole P G aS) (.region id ops aa) e h Q:=by
 have m:=g;obtain⟨B,o,z,q,h2⟩:=m;cases B with
 |normal=>
  have d:cB P G (whole P G aS) ops (bT ops.size) e h=J (.normal,o,z):=by rw[oR (bh _),<-Array.length_toList,gy];exact q
  exact QT (Na v (λk y=>Uc u d (rE.1 y).2) A) g
 |_=>exact h2.elim
def dW{id:Nat}{ops:Array Oper}(d:mN aS L)(g:BK ops (MH P ops L) []=aa)
 (o:cO P G (whole P G aS) ops ops.toList e h (uJ Q)):bM (whole P G aS) (.region id ops aa) e h Q:=jY [] d g (λp m=>nomatch m) o
end
end Go.AE
end
section
namespace Go.AE
structure gj(S:List Nat)(n0:Nat)(h h':ah):Prop where
 box:∀(c:Nat) (cs:List V),c∉S->h.I[c]?=J cs->h'.I[c]?=J cs
 len:h.I.length<=h'.I.length
 loop:∀(l:Nat) (r:ij),h.aI[l]?=J r->h'.aI[l]?=J r
 tn:h.tn<=h'.tn
 dead:∀n,n<n0->n∈h'.dead->n∈h.dead
 ok:du h=aa->du h'=aa
section
variable {S S':List Nat} {n0:Nat} {h0 h h' h2:ah}
def gj.refl:gj S n0 h h:=⟨λ_ _ _ d=>d,bh _,λ_ _ d=>d,bh _,λ_ _ d=>d,λd=>d⟩
def gj.trans(m:gj S n0 h h')(k:gj S n0 h' h2):gj S n0 h h2:=
 ⟨λc d g q=>k.box c d g (m.box c d g q),fB m.len k.len,λl r p=>k.loop l r (m.loop l r p),fB m.tn k.tn,λn o p=>m.dead n o (k.dead n o p),λp=>k.ok (m.ok p)⟩
def gj.mono(m:gj S n0 h h')(o:∀b∈S,b∈S'):gj S' n0 h h':=⟨λc d g=>m.box c d λp=>g (o c p),m.len,m.loop,m.tn,m.dead,m.ok⟩
def gj.put{b:Nat}(o:b∈S)(cs:List V):gj S n0 h (h.put b cs):=
 ⟨λc m g d=>by rw[cS (λ(e:c=b)=>g (by simp_all))];exact d,by rw[jV];omega,λ_ _ d=>d,bh _,λ_ _ d=>d,λd=>d⟩
def gj.gw(m:gj S n0 h h'){b:Nat}(p:F h.I<=b)(cs:List V):gj S n0 h (h'.put b cs):=
 ⟨λc d g o=>by have:=(bk.1 o).1;rw[cS af];exact m.box c d g o,by rw[jV];exact m.len,m.loop,m.tn,m.dead,m.ok⟩
def gj.push(m:gj S n0 h h')(cs:List V):gj S n0 h (h'.push cs):=
 ⟨λc d g o=>aX (m.box c d g o),by rw[bV];exact Nat.le_succ_of_le m.len,m.loop,m.tn,m.dead,m.ok⟩
def gj.CQ(m:gj S n0 h h')(r:ij):gj S n0 h (h'.loop r):=⟨m.box,m.len,λl g d=>YC (m.loop l g d),m.tn,m.dead,m.ok⟩
def gj.fV(m:gj S n0 h h'){l:Nat}(g:F h.aI<=l)(r:ij):gj S n0 h (h'.fV l r):=
 ⟨m.box,m.len,λk o d=>by have:=(bk.1 d).1;rw[aaN af];exact m.loop k o d,m.tn,m.dead,m.ok⟩
def gj.F2(x:Ext h h')(p:n0<=h.tn):gj S n0 h h':=⟨λc d _ g=>x.box c d g,x.len,x.loop,x.tn,λn o m=>x.dead n (mQ o p) m,x.ok⟩
def gj.um{d:Nat}(m:gj S d h h')(p:n0<=d):gj S n0 h h':=⟨m.box,m.len,m.loop,m.tn,λn o g=>m.dead n (mQ o p) g,m.ok⟩
def Ext.PD(x:Ext h0 h)(m:gj S h0.tn h h')(q:∀b∈S,F h0.I<=b):Ext h0 h':=
 ⟨λc d o=>m.box c d (λu=>by simp_all) (x.box c d o),λl r o=>m.loop l r (x.loop l r o),fB x.tn m.tn,λn g p=>x.dead n g (m.dead n g p),λo=>m.ok (x.ok o)⟩
def Grown.PD{t:Tok}(g:Grown n0 h h' t):gj S n0 h h':=⟨λc m _ q=>g.box c m q,by
 rcases eg (F h'.I) (F h.I) with d|o
 .have p:=g.box (F h'.I) _ (aY d);simp_all
 omega,g.loop,g.tn,g.dead,λ_=>g.ok⟩
end
section
variable {P:bL} {G:Nat->Option (List V)} {aS:a_->Option (List V->ah->Option (V × ah))} {H:ah} {l:Nat} {rec:ij} {args:List V}
def asc{Post:ah->Prop}(p:H.aI[l]?=J rec)(A:rec.params.size=F args)(g:rec.state=.ready)(y:rec.pending=aq)
 (v:bM (whole P G aS) rec.assign (oe l rec args) H (λo m d=>o=.normal/\d=H/\bM (whole P G aS) rec.body m (H.busy l rec) (λo _ h2=>o=.normal/\h2.aI=(H.busy l rec).aI/\Post {h2 with aI:=H.aI}))):
 ∃H',(whole P G aS).round l args H=J (.ret (.v (.bool aa)),H')/\H'.aI=H.aI/\Post H':=by
 obtain⟨o,m,d,C,rfl,rfl,T,u,h2,D,rfl,E,N⟩:=v;have q:=(bk.1 p).1;have R:(d.busy l rec).aI[l]?=J {rec with state:=.busy}:=by show(d.aI.set l _)[l]?=_;simp[q]
 refine⟨{h2 with aI:=d.aI},J9 p A ⟨_,m,d,C,O,rec,p,g,.normal,u,h2,D,{rec with state:=.busy},by simp_all,O,?_⟩,O,N⟩;have z:{rec with state:=LoopState.ready,pending:=aq}=rec:=by cases rec;cases g;cases y;rfl
 have B:h2.aI.set l rec=d.aI:=by
  rw[E];show(d.aI.set l _).set l rec=_;rw[D'];apply oq;intro k;rw[mq];split
  .simp_all
  .rfl
 simp_all
def Qt{Post:ah->Prop}(u:H.aI[l]?=J rec)(v:rec.params.size=F args)(d:rec.state=.ready)(q:rec.pending=aq)
 (p:bM (whole P G aS) rec.assign (oe l rec args) H (λo g m=>o=.normal/\m=H/\bM (whole P G aS) rec.body g (H.busy l rec) (λo _ h2=>o=.normal/\h2.aI=(H.busy l rec).aI/\Post {h2 with aI:=H.aI}))):
 ∃H',(whole P G aS).round l args H=J (.ret (.v (.bool aa)),H')/\Post H':=by
 obtain⟨H',y,_,z⟩:=asc u v d q p;simp_all
end
end Go.AE
end
section
namespace Go.NT
def avx{α:Type}{f}:∀{l:List α},(∀i∈l,f i=0)->cU (l.map f)=0:=by
 intro l
 induction l with
 |nil=>intro _;rfl|cons x l g=>intro h;simp only[dR,cU];rw[h x gt,g λi d=>h i (gr _ d)];rfl
def abn{α:Type}{f g}:∀{l:List α},(∀i∈l,f i=g i)->cU (l.map f)=cU (l.map g):=by
 intro l
 induction l with
 |nil=>intro _;rfl|cons x l m=>intro h;simp only[dR,cU];rw[h x gt,m λi d=>h i (gr _ d)]
def avw{α:Type}{f}{p}:∀{l:List α},(∀i∈l,p i=au->f i=0)->cU ((l.filter p).map f)=cU (l.map f):=by
 intro l
 induction l with
 |nil=>intro _;rfl|cons x l d=>
  intro h;have d:=d λi m=>h i (gr _ m);cases g:p x
  .rw[yK (by simp[g]),d];simp only[dR,cU];rw[h x gt g];omega
  .rw[yL g];simp only[dR,cU,d]
def abm{α:Type}{f g}:∀{l:List α},cU (l.map λi=>f i+g i)=cU (l.map f)+cU (l.map g):=by
 intro l
 induction l with
 |nil=>rfl|cons x l d=>simp only[dR,cU,d];omega
def Rk{α:Type}{f}{c}:∀{l:List α},cU (l.map λi=>c*f i)=c*cU (l.map f):=by
 intro l
 induction l with
 |nil=>simp[cU]|cons x l d=>simp only[dR,cU,d,Int.mul_add]
def abo{α g:Type}{f:α->g->Int}:∀{l:List α} {m:List g},cU (l.map λi=>cU (m.map λj=>f i j))=cU (m.map λj=>cU (l.map λi=>f i j)):=by
 intro l m
 induction l with
 |nil=>simp only[sV,cU];exact(avx λ_ _=>rfl).symm|cons x l d=>simp only[dR,cU,d];rw[<-abm]
def GF{α:Type}{f g}{q}:∀{l:List α},(∀i∈l,q∣f i-g i)->q∣cU (l.map f)-cU (l.map g):=by
 intro l
 induction l with
 |nil=>intro _;simp[cU]|cons x l m=>
  intro h;simp only[dR,cU];have e:f x+cU (l.map f)-(g x+cU (l.map g))=(f x-g x)+(cU (l.map f)-cU (l.map g)):=by omega
  rw[e];exact vN (h x gt) (m λi d=>h i (gr _ d))
def anp{α m:Type}{l:List α}{f}{g:Nat->m}(h:∀i x,l[i]?=J x->f x=g i):l.map f=(bT (F l)).map g:=by
 apply He
 .simp
 .intro i d h2;rw[qQ,qQ,LJ];exact h i _ (aY (by simpa using d))
def Rp(U)(target):F (fX U target)=F target:=by unfold fX;simp
def abE{U}{target a}(h:a∈fX U target):∃k,k<F target/\a=U.map (λr=>al r k)++[al target k]:=by unfold fX at h;obtain⟨k,d,rfl⟩:=iX.1 h;exact⟨k,hy.1 d,O⟩
def aeB{U:List (List Int)}{k i}{t}(hi:i<F U):al (U.map (λr=>al r k)++t) i=al (U.getD i []) k:=by unfold al;rw[fg,List.getElem?_append_left (by simpa using hi),eF,aY hi,mB hi];rfl
def aeC{U:List (List Int)}{k}{x}:al (U.map (λr=>al r k)++[x]) (F U)=x:=by unfold al;rw[fg,List.getElem?_append_right cE];simp
section
variable {U:List (List Int)} {target l:List Int}
def Rq(m:∀r∈U,∀x∈r,okF x)(o:∀x∈target,okF x):(∀a∈fX U target,F a=F U+1)/\∀a∈fX U target,∀x∈a,okF x:=by
 refine⟨λa d=>?_,λa d x p=>?_⟩
 .obtain⟨k,-,rfl⟩:=abE d;simp
 .obtain⟨k,u,rfl⟩:=abE d;rcases List.mem_append.1 p with q|q
  .obtain⟨r,g,rfl⟩:=iX.1 q;exact ph (m r g) k
  .rw[iL]at q;subst q;exact ph o k
def combine_sat(N:∀r∈U,∀x∈r,okF x)(T:∀x∈target,okF x)(h:oE U target=J l):
 l.length=F U/\(∀x∈l,okF x)/\∀k,k<F target->Qi∣cU ((bT (F U)).map λi=>al l i*al (U.getD i []) k)-al target k:=by
 obtain⟨t1,t2⟩:=Rq N T;unfold oE at h;dsimp only at h;split at h
 .rename_i d;simp only[d_]at h;subst h;have g:∀i a,F (iy (fX U target) U.length).2<=i->(iy (fX U target) (F U)).1[i]?=J a->al a (F U)=0:=λi a y B=>by rw[ff]at d;have:a∈(iy (fX U target) (F U)).1.drop (F (iy (fX U target) U.length).2):=(by refine dy (i:=i-F (iy (fX U target) U.length).2) ?_;rw[rD];rw[show(F (iy (fX U target) U.length).2)+(i-F (iy (fX U target) U.length).2)=i by omega];exact B);simpa using d a this
  have R:=auB t1 t2 g;have Y:=(Ga t1 t2 (af:F U<=F U+1)).1;refine⟨Kx _ _,?_,λk C=>?_⟩
  .have z:∀(o:List (Nat × Nat)) (v:List Int),(∀x∈v,okF x)->∀x∈o.foldl (λv A=>v.set A.1 (al ((iy (fX U target) (F U)).1.getD A.2 []) (F U))) v,okF x:=by
    intro o
    induction o with
    |nil=>intro v u;exact u|cons A o X=>
     intro v u;refine X _ λx p=>?_;rcases vO p with q|q
     .exact u x q
     .rw[q];refine ph (λZ m=>?_) _;rcases eg A.2 (F (iy (fX U target) U.length).1) with q2|q2
      .rw[mB q2]at m;exact Y.ok _ (jf q2) Z m
      .rw[fg,List.getElem?_eq_none q2]at m;simp at m
   unfold oi;exact z _ _ λx p=>by rw[R_ p];exact yo
  .have D:U.map (λr=>al r k)++[al target k]∈fX U target:=(by unfold fX;exact iX.2 ⟨k,hy.2 C,O⟩);have:=R _ D;unfold Sat res dot at this;rw[Kx,aeC]at this;have e:((bT (F U)).map λi=>al (oi (iy (fX U target) (F U)) (F U)) i*al (U.map (λr=>al r k)++[al target k]) i)=(bT (F U)).map λi=>al (oi (iy (fX U target) (F U)) (F U)) i*al (U.getD i []) k:=
    yN λi y=>by rw[aeB (hy.1 y)]
   rw[e]at this;exact this
 .cases h
end
def auG{n}{d}{l}:F (pV n d l)=n:=by unfold pV;rw[EQ (λg=>al l g.2)];simp
def auI{n i}{d}{l}(h:i∉d):al (pV n d l) i=0:=by unfold pV;rw[Ik (λm=>al l m.2) _ _ λm g e=>h (by subst e;obtain⟨o,p⟩:=m;have:=List.mem_zipIdx g;simp only at this ⊢;rw[this.2.2];exact jf _)];unfold al;rw[fg,acu];split<;>rfl
def auF{l}:∀(ps:List (Nat × Nat)) (y:List Int),(ps.map jz).Nodup->(∀p∈ps,p.1<F y)->∀p∈ps,al (ps.foldl (λy p=>y.set p.1 (al l p.2)) y) p.1=al l p.2:=by
 intro ps
 induction ps with
 |nil=>intro y _ _ p d;cases d
 |cons v ps q=>
  intro y g o p d;rw[dR,acG]at g;rcases hh.1 d with rfl|d
  .rw[A',Ik (λp=>al l p.2) _ _ λu m e=>g.1 (iX.2 ⟨u,m,e⟩),HE (o p gt),aH O]
  .exact q _ g.2 (λp d=>by rw[nS];exact o p (gr _ d)) p d
def zip_fst(d:List Nat):d.zipIdx.map jz=d:=by apply He<;>simp
def Q8{n j i}{d}{l}(p:d.Nodup)(g:∀i∈d,i<n)(m:d[j]?=J i):al (pV n d l) i=al l j:=by
 unfold pV;have o:(i,j)∈d.zipIdx:=by rw[List.mem_zipIdx_iff_getElem?];exact m
 exact auF d.zipIdx (bR n 0) (by rw[zip_fst];exact p) (λu q=>by
  rw[nj];refine g _ ?_;have:u.1∈d.zipIdx.map jz:=iX.2 ⟨u,q,O⟩
  rwa [zip_fst]at this) (i,j) o
def auH{n}{p}{l}(v:∀x∈l,okF x):∀x∈pV n p l,okF x:=by
 have u:∀(d:List (Nat × Nat)) (o:List Int),(∀x∈o,okF x)->∀x∈d.foldl (λo z=>o.set z.1 (al l z.2)) o,okF x:=by
  intro d
  induction d with
  |nil=>intro o m;exact m|cons z d y=>
   intro o m;refine y _ λx g=>?_;rcases vO g with q|q
   .exact m x q
   .rw[q];exact ph v _
 exact u _ _ λx g=>by rw[R_ g];exact yo
def PV{ae am}{i}:i∈eE ae am↔i<F ae/\al ae i∈am:=by unfold eE;rw[rE,hy,ack]
def aoy(ae am):(eE ae am).Nodup:=List.nodup_range.filter _
def pD{U}{ae}(h:cI U ae=0):F U=F ae/\F U<=64/\(∀r∈U,F r=cr U/\0<F r/\F r<=64/\∀x∈r,okF x)/\∀x∈ae,0<=x/\x<=63:=by
 unfold cI at h;split at h
 .cases h
 .rename_i m;simp only[Bool.or_eq_true,decide_eq_true_eq,List.any_eq_true,not_or,not_exists,not_and,Nat.not_lt]at m;split at h
  .cases h
  .rename_i h2;have h2:F U=F ae:=(by simpa using h2);split at h
   .rename_i p;rw[ff]at p;have g:∀i (d:i<F U),F U[i]=F (U.getD 0 [])/\0<F U[i]/\(∀x∈U[i],okF x)/\0<=al ae i/\al ae i<=63:=λi d=>by
     have:=p i (hy.2 d);simp only[mB d,bQ,decide_eq_true_eq,ff]at this;obtain⟨⟨⟨a,b⟩,c,v⟩,f⟩:=this;refine⟨b,?_,λx o=>?_,c,v⟩
     .rcases LR (F U[i]) with q|q
      .rw[List.length_eq_zero_iff]at q;rw[q]at a;cases a
      .exact q
     .have:=f x o;unfold cG at this;simpa [okF] using this
    refine⟨h2,m.1,λr u=>?_,λx o=>?_⟩
    .obtain⟨i,d,rfl⟩:=xo.1 u;obtain⟨a,b,c,-⟩:=g i d;refine⟨?_,b,m.2 _ u,c⟩;unfold cr;rw[aV af];exact a
    .obtain⟨i,d,rfl⟩:=xo.1 o;have:=(g i af).2.2.2
     rwa [fL d]at this
   .cases h
def pm{U}{ae}(h:cI U ae=0):0<cr U/\cr U<=64:=by
 obtain⟨-,-,d,-⟩:=pD h;unfold cr;split
 .omega
 .rename_i g;have:=d (U.getD 0 []) (by rw[mB af];exact jf _);exact⟨this.2.1,this.2.2.1⟩
def Rm{n}(h:0<n):F (fW n)=n:=by unfold fW;simp;omega
def avT{n k}:al (fW n) k=if k=0 then 1 else 0:=by
 unfold fW al;cases k with|zero=>rfl|succ k=>rw[List.getD_cons_succ,fg,acu];split<;>rfl
def avU{n}:∀x∈fW n,okF x:=by
 intro x d;unfold fW at d;rcases hh.1 d with rfl|q
 .unfold okF;decide
 .rw[R_ q];exact yo
def xw{U}{ae am y}(h:fm U ae am=(y,aa,0)):
 cI U ae=0/\dL (-1) am=aa/\F y=F U/\(∀x∈y,okF x)/\(∀i,al ae i∉am->al y i=0)/\
  ∀k,k<cr U->Qi∣cU ((bT (F U)).map λi=>al y i*al (U.getD i []) k)-(if k=0 then 1 else 0):=by
 unfold fm at h;split at h
 .simp at h
 .rename_i m;have m:cI U ae=0:=by simpa using m
  obtain⟨C,p2,Y,p4⟩:=pD m;split at h
  .simp at h
  .rename_i X;split at h
   .simp at h
   .rename_i l T;simp only[dz,and_true]at h;subst h;have z:∀i∈eE ae am,i<F U:=λi d=>(by rw[C];exact(PV.1 d).1);have q:∀r∈(eE ae am).map (λi=>U.getD i []),∀x∈r,okF x:=λr q=>(by obtain⟨i,d,rfl⟩:=iX.1 q;rw[mB (z i d)];exact(Y _ (jf _)).2.2.2);obtain⟨D,E,u⟩:=combine_sat q avU T;rw[bJ]at D u;have g:∀i,i∉eE ae am->al (pV (F U) (eE ae am) l) i=0:=λi d=>auI d;refine⟨m,by simpa using X,auG,auH E,λi d=>g i λZ=>d (PV.1 Z).2,λk R=>?_⟩;have:=u k (by rw[Rm (pm m).1];exact R);rw[avT]at this;have e:cU ((bT (F U)).map λi=>al (pV (F U) (eE ae am) l) i*al (U.getD i []) k)=cU ((bT (F (eE ae am))).map λi=>al l i*al (((eE ae am).map λi=>U.getD i []).getD i []) k):=(by have N:eE ae am=(bT (F U)).filter λi=>am.contains (al ae i):=(by unfold eE;rw[C]);have v:=avw (f:=λi=>al (pV (F U) (eE ae am) l) i*al (U.getD i []) k) (p:=λi=>am.contains (al ae i)) (l:=bT (F U)) λi d B=>(by rw[g i λZ=>?_,Int.zero_mul];rw[ack.2 (PV.1 Z).2]at B;cases B);rw[<-N]at v;rw[<-v];congr 1;refine anp λj i o=>?_;have A:=(bk.1 o).1;rw[Q8 (aoy ae am) z o,mB (t:=(eE ae am).map λi=>U.getD i []) (by simpa using A),qQ];rw[(bk.1 o).2]);rw[e];exact this
end Go.NT
end
section
namespace Go.NT
def Gn:Nat:=4
def vL:elem Gn=aa:=by decide+kernel
def ahm{a b}(h:Qi∣a-b):a%Qi=b%Qi:=ab4.2 (Int.emod_eq_zero_of_dvd h)
def M6{a b}(h:a%Qi=b%Qi):Qi∣a-b:=Int.dvd_of_emod_eq_zero (ab4.1 h)
def ZM{a b}(h:Qi∣a-b):cN Gn a=cN Gn b:=P2 (ahm h)
def aiN{α:Type}{f:α->Nat}{a}:∀{l:List α} (_:∀p∈l,f p=cN Gn (a p)) (k:Int),l.foldl (λx p=>x*f p%P) (cN Gn k)=cN Gn (k+cU (l.map a)):=by
 intro l
 induction l with
 |nil=>intro _ k;simp[cU]|cons p l g=>
  intro h k;rw[A',h p gt,<-P1 vL,g (λm d=>h m (gr _ d))];simp only[dR,cU]
  grind
def ZP{α:Type}{f:α->Nat}{a}{l:List α}(h:∀p∈l,f p=cN Gn (a p)):l.foldl (λx p=>x*f p%P) 1=cN Gn (cU (l.map a)):=by have:=aiN h 0;rw[apy,Hc]at this;omega
def lj(a b:List Int):Int:=(bT (F a)).foldl (λx j=>cX x (cV (al a j) (al b j))) 0
def Nn{α:Type}{f}:∀{l:List α} (x:Int),Qi∣l.foldl (λx j=>cX x (f j)) x-(x+cU (l.map f)):=by
 intro l
 induction l with
 |nil=>intro x;simp[cU]|cons j l g=>
  intro x;have d:=g (cX x (f j));simp only[A',dR,cU];have h2:Qi∣cX x (f j)-(x+f j):=M6 (by rw[zC,DS _ (DR _)]);have:=vN d h2
  grind
def Vi{α:Type}{f:α->Int}{l:List α}{x}(d:okF x):okF (l.foldl (λx j=>cX x (f j)) x):=by
 rcases List.eq_nil_or_concat l with rfl|⟨g,a,rfl⟩
 .exact d
 .rw[List.concat_eq_append,ot];exact Ia _ _
def ahS(a b):okF (lj a b):=Vi yo
def Ij(a b):Qi∣cV a b-a*b:=M6 (by rw[tw,DS _ (DR _)])
def U5(a b):Qi∣cX a b-(a+b):=M6 (by rw[zC,DS _ (DR _)])
def BM{a b c}(h:Qi∣a-b)(k:Qi∣b-c):Qi∣a-c:=by
 have:=vN h k
 grind
def UT(a b):Qi∣lj a b-cU ((bT (F a)).map λj=>al a j*al b j):=by have d:=Nn (f:=λj=>cV (al a j) (al b j)) (l:=bT (F a)) 0;rw[Hc]at d;exact BM d (GF λj _=>Ij _ _)
def qI(d row:List Int):Nat:=(bT (F d)).foldl (λx j=>x*cN (al d j).toNat (al row j)%P) 1
def kj(U:List (List Int))(s:List Int):List Int:=U.map λr=>lj r s
def bU(s:List Int):List Int:=s.map λn=>((cN Gn n:Nat):Int)
def Tp{s}{j}(d:j<F s):al (bU s) j=((cN Gn (al s j):Nat):Int):=by
 unfold bU;have:j<F (s.map λn=>((cN Gn n:Nat):Int)):=by simpa using d
 rw[fL this,fL d,qQ]
def apK{s row}(m:F row=F s):qI (bU s) row=cN Gn (lj row s):=by
 unfold qI;have d:F (bU s)=F s:=by unfold bU;simp
 rw[d,ZP (a:=λj=>al row j*al s j) λj g=>by rw[Tp (hy.1 g),fe,<-P4 vL,G9]];refine(ZM ?_).symm;have:=UT row s;simp_all
def ahi{s}:(bU s).all cq=aa:=by
 rw[ff];intro x d;obtain⟨n,-,rfl⟩:=iX.1 d;have:=C9 vL n;unfold cq;rw[fe,this,GZ];have h:=(elem_iff.1 this).1
 grind
def awI{U}{ae am y s}(h:fm U ae am=(y,aa,0))(E:F s=cr U):
 Qi∣cU ((bT (F U)).map λi=>al y i*al (kj U s) i)-al s 0:=by
 obtain⟨o,-,C,h2,D,v⟩:=xw h;obtain⟨N,R,B,T⟩:=pD o;have z:=pm o;have q:Qi∣cU ((bT (F U)).map λi=>al y i*al (kj U s) i)-cU ((bT (F U)).map λi=>cU ((bT (cr U)).map λk=>al s k*(al y i*al (U.getD i []) k))):=by
  refine GF λi d=>?_;have d:=hy.1 d;have g:=UT U[i] s;rw[(B _ (jf d)).1]at g;have e:al (kj U s) i=lj U[i] s:=by unfold kj;rw[fL (by simp_all),qQ]
  rw[e,mB d];have:cU ((bT (cr U)).map λk=>al s k*(al y i*al U[i] k))=al y i*cU ((bT (cr U)).map λk=>al U[i] k*al s k):=by rw[<-Rk];exact abn λk _=>by grind
  rw[this,<-G_];exact DQ g
 refine BM q ?_;rw[abo];have u:Qi∣cU ((bT (cr U)).map λk=>cU ((bT (F U)).map λi=>al s k*(al y i*al (U.getD i []) k)))-cU ((bT (cr U)).map λk=>if k=0 then al s 0 else 0):=by
  refine GF λk A=>?_;have:=v k (hy.1 A);rw[Rk];have e:(if k=0 then al s 0 else 0)=al s k*(if k=0 then 1 else 0):=by
   split
   .simp_all
   .omega
  rw[e,<-G_];exact DQ this
 refine BM u ?_;rw[abs (p:=0) _ z.1 λi _ m=>aV m,aH O,Int.sub_self];simp_all
def oU(ae:List Int)(d:Int):List Nat:=(bT (F ae)).filter λi=>decide (al ae i=d)
def gh(U:List (List Int))(ae:List Int)(l:List Pr):List Int:=(fm U ae (l.map Pr.bN)).1
def jM(y:List Int)(s:List (Int × Int)):Int:=s.foldl (λa d=>cX a (cV (al y d.1.toNat) d.2)) 0
def AO(U:List (List Int))(d:List Int)(p:Int × Int):Bool:=cG p.2&&decide (cN Gn p.2=qI d (U.getD p.1.toNat []))
def lu(U:List (List Int))(ae d:List Int)(g:Int)(s:List (Int × Int)):Bool:=decide (s.map jz=(oU ae g).map λ(i:Nat)=>(i:Int))&&s.all (AO U d)
def tY(l:List Pr)(d:Int):Option Pr:=l.find? λg=>decide (g.bN=d)
def ft(c0:Int)(aC:List UInt8)(l:List Pr):Nat:=yA (jt c0 aC l) c0 aC
def yl(U:List (List Int))(ae:List Int)(g:List Int)(aC:List UInt8)(l:List Pr)(m:Int)(s:List (Int × Int))(d f:Int):Int × Int:=
 match tY l m with
 |none=>(0,1)
 |some x=>
  if !(cG d&&cG f) then (0,1)
  else if !lu U ae g m s then (0,340)
  else if ¬((cN Gn d:Nat):Int)=x.d∨¬((cN Gn f:Nat):Int)=x.e then (0,420)
  else (cX (cX d (cV f (gJ (al g 0) aC l m))) (cV (ft (al g 0) aC l) (jM (gh U ae l) s)),0)
def ol(d:Int)(aC:List UInt8)(e s:Int):Bool:=cq d&&cG e&&cG s&&decide (e=((yA ((cN Gn s*cN d.toNat (-e)%P:Nat):Int) d aC:Nat):Int))
def ajW(b):qo b<Q:=lT _ bm
def ws{x}:cG x=aa↔okF x:=by unfold cG okF;simp
def V_(d)(v):cG ((q_ d v:Nat):Int)=aa:=by rw[ws];have:=ajW (lK d (cH v));unfold q_ okF;rw[yT];omega
def awF{x n s}{aC}{e}(d:e=yA ((cN Gn n:Nat):Int) ((cN Gn x:Nat):Int) aC)(q:okF s)(h:Qi∣s-(n+e*x)):ol ((cN Gn x:Nat):Int) aC e s=aa:=by
 unfold ol;have g:=C9 vL x;have m:cq ((cN Gn x:Nat):Int)=aa:=by unfold cq;rw[fe,g,GZ];have h:=(elem_iff.1 g).1;exact cD af
 have o:cG ((e:Nat):Int)=aa:=by rw[d];exact V_ _ _
 have p:cN Gn s*cN (cN Gn x) (-(e:Int))%P=cN Gn n:=by
  rw[<-P4 vL,<-P1 vL];refine ZM ?_;have:s+x * -(e:Int)-n=s-(n+e*x):=by rw[Int.mul_neg,G9 x];omega
  rw[this];exact h
 rw[m,o,ws.2 q,fe,p,<-d];simp
end Go.NT
end
section
namespace Go.NT
def jC(f:Nat->Int)(a:List Int)(c k:Nat):List Int:=(bT (F a)).map λj=>if c<=j/\j<k then f j else al a j
section
variable {f:Nat->Int} {a own:List Int} {c k j r w:Nat} {t:List (List Int)}
def qi:F (jC f a c k)=F a:=by unfold jC;simp
def BF(d:j<F a):al (jC f a c k) j=if c<=j/\j<k then f j else al a j:=by rw[fL (by rw[qi];exact d)];unfold jC;simp_all
def UI:jC f a c c=a:=by refine vu qi λj d=>?_;rw[qi]at d;rw[BF d,aV af]
def UH(m:c<=k)(g:k<F a):(jC f a c k).set k (f k)=jC f a c (k+1):=by
 refine vu (by rw[nS,qi,qi]) λj d=>?_;rw[nS,qi]at d;rw[HE (by rw[qi];exact g),BF d,BF d]
 grind
def ahw{n:Int}(g:c<=F a):jC (λj=>cV (al a j) n) a c (F a)=gX c a n:=by
 unfold gX;refine vu (by rw[qi,de,bJ,dJ,fJ];omega) λj d=>?_;rw[qi]at d;rw[BF d,Bt g];by_cases o:j<c
 .omega
 .rw[aH af,aV o];have m:j-c<F ((a.drop c).map (cV · n)):=by rw[bJ,fJ];omega
  rw[fL m,qQ,List.getElem_drop,fL d];simp_all
def pj(c:Nat)(own:List Int)(r j:Nat)(t:List (List Int)):List (List Int):=t.mapIdx λi a=>if i<j/\i≠r then tt c a own else a
def Uu:F (pj c own r j t)=F t:=by unfold pj;simp
def uK(i:Nat):(pj c own r j t)[i]?=t[i]?.map λa=>if i<j/\i≠r then tt c a own else a:=by unfold pj;simp_all
def agS:pj c own r 0 t=t:=by apply oq;intro i;rw[uK];simp_all
def agQ:pj c own r (r+1) t=pj c own r r t:=by
 apply oq;intro i;rw[uK,uK]
 grind
def agP:(pj c own r j t)[j]?=t[j]?:=by rw[uK];simp_all
def agO:(pj c own r j t)[r]?=t[r]?:=by rw[uK];simp_all
def agR{a:List Int}(d:t[j]?=J a)(m:j≠r):(pj c own r j t).set j (tt c a own)=pj c own r (j+1) t:=by
 apply oq;intro i;rw[mq,Uu];have g:=(bk.1 d).1;split
 .rename_i e;subst e
  try rw[aH g]
  rw[uK,d,gc,aH ⟨Nat.lt_succ_self _,m⟩]
 .rename_i e;rw[uK,uK]
  grind
def Ie{j:Nat}(p:r<=j)(v:j<=F t)(y:∀k,r<=k->k<j->al (t.getD k []) c=0)(o:j<F t->al (t.getD j []) c≠0):ny t r c=if j=F t then aq else J j:=by
 cases d:ny t r c with
 |none=>
  by_cases e:j=F t
  .simp_all
  .exact absurd (U9 d af p) (o af)
 |some k=>
  obtain⟨z,A,B⟩:=zF d;have q:j<=k:=by
   rcases eg k j with h|h
   .grind
   .exact h
  rw[aV af];unfold ny at d;rw[List.find?_eq_some_iff_getElem]at d;obtain⟨-,i,u,g,m⟩:=d;rw[LJ]at g;subst g;rcases eg j i with h|h<;>grind
def au1{pv:List Nat}{k:Nat}{b o:List Int}(u:ny t (F pv) c=J k)(d:t[k]?=J b)(g:t[F pv]?=J o):
 vC (t,pv) c=(pj c (gX c b (e8 (al b c))) (F pv) (F t) (((t.set (F pv) b).set k o).set (F pv) (gX c b (e8 (al b c)))),pv++[c]):=by
 have v:=(bk.1 d).1;have y:=(bk.1 g).1;have p:t.getD k []=b:=by rw[fg,d];rfl
 have q:t.getD (F pv) []=o:=by rw[fg,g];rfl
 unfold vC;simp only[u,p,q];congr 1;generalize gX c b (e8 (al b c))=s;have m:((t.set (F pv) b).set k o).set (F pv) s=(t.set k o).set (F pv) s:=by
  by_cases e:k=F pv
  .simp_all
  .rw[List.set_comm _ _ (λz=>e z.symm),D']
 rw[m];apply oq;intro i;rw[List.getElem?_mapIdx,uK]
 grind
end
end Go.NT
end
section
namespace Go.NT
def LP(l:List Pr)(ld le:Int->Int):Prop:=∀d∈l,d.d=((cN Gn (ld d.bN):Nat):Int)/\d.e=((cN Gn (le d.bN):Nat):Int)
def V'(d)(v):okF ((q_ d v:Nat):Int):=ws.1 (V_ d v)
def P6(x)(d)(v):qH x (q_ d v)=cN x ((q_ d v:Nat):Int):=by unfold cN;rw[BX (V' d v),fe]
def anV{aC}{l}{p}{d e}(g:p.d=((cN Gn d:Nat):Int))(m:p.e=((cN Gn e:Nat):Int))(c0):
 tT c0 aC l p=cN Gn (d+e*((gJ c0 aC l p.bN:Nat):Int)):=by
 unfold tT;rw[g,m,fe,fe];unfold gJ;rw[P6,<-P4 vL,<-P1 vL]
def apf{aC}{l}{ld le}(h:LP l ld le)(c0):
 jt c0 aC l=cN Gn (cU (l.map λp=>ld p.bN+le p.bN*((gJ c0 aC l p.bN:Nat):Int))):=by
 unfold jt;exact ZP λp d=>anV (h p d).1 (h p d).2 c0
def m_(ae d:List Int)(k:Int):List (Int × Int):=(oU ae k).map λi=>((i:Nat),al d i)
def AX(y d:List Int)(L:List Nat):Int:=cU (L.map λi=>al y i*al d i)
def awX(y ae d)(k):Qi∣jM y (m_ ae d k)-AX y d (oU ae k):=by
 unfold jM m_ AX;rw[List.foldl_map];have g:=Nn (f:=λi:Nat=>cV (al y i) (al d i)) (l:=oU ae k) 0;rw[Hc]at g;have e:(λ(a:Int) (i:Nat)=>cX a (cV (al y (((i:Nat):Int)).toNat) (al d i)))=λa i=>cX a (cV (al y i) (al d i)):=by funext a i;simp_all
 simp only[e];exact BM g (GF λi _=>Ij _ _)
def avv{α:Type}{f}{p}:∀{l:List α},cU ((l.filter p).map f)=cU (l.map λi=>if p i=aa then f i else 0):=by
 intro l
 induction l with
 |nil=>rfl|cons x l g=>
  cases d:p x
  .rw[yK (by grind),g];simp only[dR,cU,d];simp
  .rw[yL d];simp only[dR,cU,d,g];simp
def avy{n v}:∀{am:List Int},am.Nodup->cU (am.map λk=>if decide (n=k)=aa then v else 0)=if n∈am then v else 0:=by
 intro am
 induction am with
 |nil=>intro _;rfl|cons k l d=>
  intro h;obtain⟨g,h2⟩:=acG.1 h;simp only[dR,cU,d h2]
  grind
def asm{ae y d}{am:List Int}(m:am.Nodup)(h0:∀i,al ae i∉am->al y i=0):
 cU (am.map λk=>AX y d (oU ae k))=cU ((bT (F ae)).map λi=>al y i*al d i):=by
 have g:(λk=>AX y d (oU ae k))=λk=>cU ((bT (F ae)).map λi=>if decide (al ae i=k)=aa then al y i*al d i else 0):=by funext k;exact avv
 rw[g,abo];refine abn λi _=>?_;rw[avy m];simp_all
def PX:∀{d:Int} {am:List Int},dL d am=true->(∀n∈am,d<n/\n<=63)/\am.Nodup:=by
 intro d am
 induction am generalizing d with
 |nil=>simp_all|cons n l g=>
  intro h;rw[dL] at h
  grind
def qG(U:List (List Int))(ae g:List Int)(aC:List UInt8)(l:List Pr)(k d f:Int)(s:List (Int × Int)):Int:=
 cX (cX d (cV f (gJ (al g 0) aC l k))) (cV (ft (al g 0) aC l) (jM (gh U ae l) s))
def Zw{U}{ae g}{aC}{l}{k d f}{s}:okF (qG U ae g aC l k d f s):=Ia _ _
def aoS(U)(ae g)(aC)(l)(k d f)(m):
 Qi∣qG U ae g aC l k d f (m_ ae m k)-(d+f*((gJ (al g 0) aC l k:Nat):Int)+((ft (al g 0) aC l:Nat):Int)*AX (gh U ae l) m (oU ae k)):=by
 unfold qG;generalize ((gJ (al g 0) aC l k:Nat):Int)=b;generalize ((ft (al g 0) aC l:Nat):Int)=c;have p:=awX (gh U ae l) ae m k;generalize jM (gh U ae l) (m_ ae m k)=w at *
 generalize AX (gh U ae l) m (oU ae k)=y at *
 have h2:=U5 (cX d (cV f b)) (cV c w);have q:=U5 d (cV f b);have u:=Ij f b;have v:=Ij c w;have o:Qi∣c*(w-y):=DQ p;rw[G_]at o;have:=vN (vN (vN h2 q) (vN u v)) o
 grind
def aoX{U}{ae y s}{aC}{l}{ld le:Int->Int}(d:fm U ae (l.map Pr.bN)=(y,aa,0))(z:F s=cr U):
 Qi∣cU ((l.map Pr.bN).map λk=>qG U ae (bU s) aC l k (ld k) (le k) (m_ ae (kj U s) k)) -
  (cU ((l.map Pr.bN).map λk=>ld k+le k*((gJ (al (bU s) 0) aC l k:Nat):Int))+((ft (al (bU s) 0) aC l:Nat):Int)*al s 0):=by
 obtain⟨v,A,D,h2,o,N⟩:=xw d;obtain⟨C,-,-,-⟩:=pD v;have u:=(PX A).2;have m:=GF (q:=Qi) (l:=l.map Pr.bN) (f:=λk=>qG U ae (bU s) aC l k (ld k) (le k) (m_ ae (kj U s) k))
  (g:=λk=>ld k+le k*((gJ (al (bU s) 0) aC l k:Nat):Int)+((ft (al (bU s) 0) aC l:Nat):Int)*AX (gh U ae l) (kj U s) (oU ae k))
  λk _=>aoS U ae (bU s) aC l k (ld k) (le k) (kj U s)
 refine BM m ?_;rw[abm,Rk];have B:gh U ae l=y:=by unfold gh;rw[d]
 rw[B,asm u o,<-C];have p:=awI d z;have R:Qi∣((ft (al (bU s) 0) aC l:Nat):Int)*(cU ((bT (F U)).map λi=>al y i*al (kj U s) i)-al s 0):=DQ p
 grind
def ahg{s}(h:0<F s):al (bU s) 0=((cN Gn (al s 0):Nat):Int):=Tp h
def adV(z):Qi∣z.foldl cX 0-cU z:=by have:=Nn (f:=λx:Int=>x) (l:=z) 0;simp_all
def adW(z:List Int):okF (z.foldl cX 0):=Vi (f:=λx:Int=>x) yo
def Kw{U}{ae y s}{aC}{l}{ld le}(o:fm U ae (l.map Pr.bN)=(y,aa,0))(A:F s=cr U)(v:LP l ld le):
 ol (al (bU s) 0) aC ((ft (al (bU s) 0) aC l:Nat):Int) (((l.map Pr.bN).map λk=>qG U ae (bU s) aC l k (ld k) (le k) (m_ ae (kj U s) k)).foldl cX 0)=aa:=by
 obtain⟨z,-⟩:=xw o;have d:0<F s:=by have:=(pm z).1;omega
 have u:=aoX (aC:=aC) (ld:=ld) (le:=le) o A;have h2:=adV ((l.map Pr.bN).map λk=>qG U ae (bU s) aC l k (ld k) (le k) (m_ ae (kj U s) k));have m:=BM h2 u;have q:=apf (aC:=aC) v (al (bU s) 0);have e:(l.map Pr.bN).map (λk=>ld k+le k*((gJ (al (bU s) 0) aC l k:Nat):Int))=l.map λg=>ld g.bN+le g.bN*((gJ (al (bU s) 0) aC l g.bN:Nat):Int):=by rw[List.map_map];rfl
 rw[e]at m;have p:ft (al (bU s) 0) aC l=yA ((jt (al (bU s) 0) aC l:Nat):Int) (al (bU s) 0) aC:=rfl;rw[q]at p;generalize ft (al (bU s) 0) aC l=c at *
 generalize cU (l.map λg=>ld g.bN+le g.bN*((gJ (al (bU s) 0) aC l g.bN:Nat):Int))=n at *
 rw[ahg d]at *
 exact awF p (adW _) m
def aaU{U}{s}{i}(h:i<F U):al (kj U s) i=lj (U.getD i []) s:=by unfold kj;rw[fL (by simp_all),qQ,mB h]
def aoA{U}{ae s}(g:cI U ae=0)(q:F s=cr U)(k):lu U ae (bU s) k (m_ ae (kj U s) k)=aa:=by
 obtain⟨o,u,v,y⟩:=pD g;unfold lu m_;rw[bQ];refine⟨by simp_all,?_⟩;rw[ff];intro z m;obtain⟨i,d,rfl⟩:=iX.1 m;have d:i<F U:=by rw[o];unfold oU at d;exact hy.1 (rE.1 d).1
 unfold AO;simp only[fe];have p:qI (bU s) (U.getD i [])=cN Gn (lj (U.getD i []) s):=apK (by simp_all);rw[aaU d,ws.2 (ahS _ _),Bool.true_and];simp_all
def aoK{l}{d}(h:jU d l=true){p}(g:p∈l):tY l p.bN=some p:=by
 induction l generalizing d with
 |nil=>grind
 |cons u l q=>
  rw[jU] at h;simp only[bQ,decide_eq_true_eq] at h;unfold tY;rw[List.find?_cons];rcases hh.1 g with rfl|g
  .simp
  .have m:∀{l:List Pr} {d:Int},jU d l=aa->∀p∈l,d<p.bN:=by
    intro l
    induction l with
    |nil=>simp_all|cons u l q=>
     intro d h p g;rw[jU] at h
     grind
   have:=m h.2 p g;have o:decide (u.bN=p.bN)=au:=cR af;rw[o];exact q h.2 g
def ani{U}{ae s}{aC}{l}{g}(u:cI U ae=0)(v:F s=cr U)(q:jU g l=aa){x}(y:x∈l){d f}(o:x.d=((cN Gn d:Nat):Int))(p:x.e=((cN Gn f:Nat):Int))(z:okF d)(m:okF f):
 yl U ae (bU s) aC l x.bN (m_ ae (kj U s) x.bN) d f=(qG U ae (bU s) aC l x.bN d f (m_ ae (kj U s) x.bN),0):=by
 unfold yl;rw[aoK q y];simp only[ws.2 z,ws.2 m,aoA u v,o,p];simp[qG]
end Go.NT
end
section
namespace Go.Proofs.YtcbhpkjbiehcpaaGreatDoor
open Go.AE Go.NT
def aqX(a n:Int)(h:ah):W.call 203 [im a,im n] h=J (.ret (.tuple [im (eR a n),im (lm a)]),h):=by
 have ca:=aaB a;unfold eR lm;by_cases d:cq a=aa
 .rw[aH d,aH d];rw[d]at ca;obtain⟨x,rfl,u,v,p⟩:=EI d;have ce:=aim n;have m:=Nm n;have o:=zI n;have q:=aaq (cN x n) x (fmod n).toNat (by have:Q=1073741789:=rfl;omega) (mS.start p (by have:Q=1073741789:=rfl;omega));rw[o]at q;simp only[fe];clear d u v p m o;unfold im at *
  refine da O adm O ?_;exact jP @aar
 .have g:cq a=au:=by simpa using d
  rw[aV d,aV d];rw[g]at ca;unfold im at *
  refine da O adm O ?_;exact jP @aar
def amu{h}{b}{i}(hi:i<F b):aL ag Gt h 5 (.elem 1 (bW b) i 0)=J (dC (e7 b i)):=by rw[ru Hz (row:=iF (e7 b i)) (by rw[eF,aY hi];unfold e7;rw[fg,aY hi];rfl)];rfl
def asT:Tryz.f213.results.toList=[.tmp 2]:=aB
def aub{t}{x y}{n}(d:n<=4611686018427387903):df ag .shl t x y (.v (.int .u64 (n:Nat))) (.v (.int .u64 1))=J (.v (.int .u64 ((2*n:Nat):Int))):=by rw[Mw bm];congr 3;show IntKind.u64.wrap (((n:Nat):Int)*2)=_;unfold IntKind.wrap;simp[IntKind.signed,IntKind.bits];omega
def aue{t}{x y}{n}(d:n<=4611686018427387903):df ag .shr t x y ((n:Nat):V) (.v (.int .u64 63))=J (.v (.int .i64 0)):=by rw[Bv bm];congr 3;show((n:Nat):Int).fdiv (2^63)=_;rw[RQ _ bm];omega
def awZ{t}{x y}{n}(g:n<=4611686018427387903):df ag .xor t x y (.v (.int .u64 ((2*n:Nat):Int))) (.v (.int .u64 0))=J (.v (.int .u64 ((2*n:Nat):Int))):=by
 rw[TA];congr 3;have d:(BitVec.ofInt IntKind.u64.bits ((2*n:Nat):Int)^^^BitVec.ofInt IntKind.u64.bits 0).toNat=2*n:=by show(BitVec.ofInt 64 ((2*n:Nat):Int)^^^0#64).toNat=2*n;rw[BitVec.xor_zero,BitVec.toNat_ofInt];omega
 rw[d];unfold IntKind.wrap;simp[IntKind.signed,IntKind.bits];omega
def wZ{n}(d:n<18446744073709551616):IntKind.u64.wrap ((n:Nat):Int)=((n:Nat):Int):=by unfold IntKind.wrap;simp[IntKind.signed,IntKind.bits];omega
def awo(n)(g:n<=4611686018427387903)(h):W.call 213 [((n:Nat):V)] h=J (.ret (.v (.int .u64 (iE n:Nat))),h):=by
 have e:iE (n:Int)=2*n:=by unfold iE;rw[aH af,fe]
 rw[e];have m:=wZ (n:=n) af;have o:IntKind.u64.wrap 0=0:=rfl;have p:=λt x d=>aub (t:=t) (x:=x) (y:=d) g;have q:=λt x d=>aue (t:=t) (x:=x) (y:=d) g;have u:=λt x d=>awZ (t:=t) (x:=x) (y:=d) g;refine da O Tryz.func213 O ?_;exact f_ @asT @qk
def L1:List a_:=[80,81,75,66,130,202,67,69,162,111,203,193,242,231,222,213,261,262]
noncomputable def P_:a_->Option (List V->ah->Option (V × ah)):=my W L1
noncomputable abbrev W1:=whole ag Gt P_
def Bx:mN P_ L1:=tg
def fy{t}(k):pX t (cK k)=aa:=by cases k<;>rfl
def rh:∀b:List UInt8,ef (bW b)=bW b
 | []=>rfl
 |c::b=>by show bE (iF c)::ef (bW b)=_;rw[rh b];rfl
def mA{n l t}:∀b:List UInt8,fZ n l t (bW b)=aa
 | []=>rfl
 |c::b=>by show(aM n l t (iF c)&&fZ n l t (bW b))=aa;rw[mA b];rfl
def tJ:∀l:List Int,ef (aF l)=aF l
 | []=>rfl
 |c::b=>by show bE (wt c)::ef (aF b)=_;rw[tJ b];rfl
def jG{n l t}:∀b:List Int,fZ n l t (aF b)=aa
 | []=>rfl
 |c::b=>by show(aM n l t (wt c)&&fZ n l t (aF b))=aa;rw[jG b];rfl
section
variable (a b n x:Int)
def adN:∀h,W1.call 80 [im a,im b] h=J (.ret (im (cX a b)),h):=b8 (L:=L1) O O O (adU a b _) O rfl
def anC:∀h,W1.call 81 [im a,im b] h=J (.ret (im (cV a b)),h):=b8 (L:=L1) O O O (PC a b _) O rfl
def alK:∀h,W1.call 222 [im n] h=J (.ret (.tuple [im (if fmod n=0 then 0 else e8 n),im (if fmod n=0 then 90 else 0)]),h):=b8 (L:=L1) O O O (alM n _) O rfl
def awx:∀h,W1.call 66 [im x] h=J (.ret (.v (.bool (cq x))),h):=b8 (L:=L1) O O O (KQ x _) O rfl
def ajl:∀h,W1.call 67 [im a,im b] h=J (.ret (.tuple [im (oI a b),im (tC a b)]),h):=b8 (L:=L1) O O O (ajp a b _) O rfl
def ajr:∀h,W1.call 75 [im a,im n] h=J (.ret (.tuple [im (eR a n),im (lm a)]),h):=by obtain⟨h',d,-⟩:=ajv a n ⟨[],[],0,[]⟩;exact b8 (L:=L1) O O O d O rfl
def aqm:∀h,W1.call 130 [im a,im b] h=J (.ret (im (cX a b)),h):=b8 (L:=L1) O O O (aqr a b _) O rfl
def arP:∀h,W1.call 202 [im a,im b] h=J (.ret (im (cV a b)),h):=b8 (L:=L1) O O O (Qq a b _) O rfl
def aq8:∀h,W1.call 231 [im n] h=J (.ret (.tuple [im (if fmod n=0 then 0 else e8 n),im (if fmod n=0 then 90 else 0)]),h):=b8 (L:=L1) O O O (ard n _) O rfl
def atw:∀h,W1.call 111 [im x] h=J (.ret (.v (.bool (cq x))),h):=b8 (L:=L1) O O O (aaB x _) O rfl
def aqR:∀h,W1.call 203 [im a,im n] h=J (.ret (.tuple [im (eR a n),im (lm a)]),h):=b8 (L:=L1) O O O (aqX a n _) O rfl
end
def awn(n)(d:n<=4611686018427387903):∀h,W1.call 213 [((n:Nat):V)] h=J (.ret (.v (.int .u64 (iE n:Nat))),h):=b8 (L:=L1) O O O (awo n d _) O rfl
def ajg(d b)(k)(g:F b<=1099511620000)(o:F d<=1099511620000):∀h,W1.call 69 [.v (.string (bs d)),.ac k 1 (bW b)] h=J (.ret (im (qo (lK d b):Nat)),h):=by obtain⟨h',m,-⟩:=ajk d b (.ac (cK k) 1 (bW b)) ⟨[],[],0,[]⟩ (ek.ac (zo _) λ_=>rfl) g o;exact b8 (L:=L1) (u:=[.v (.string (bs d)),.ac (cK k) 1 (bW b)]) O (by rw[bE,bE,aA.eq_1,rh];rfl) (by simp[aM,aK,fy,mA]) m O rfl
def sv(s:List UInt8):V:=.v (.string (bs s))
def aG(k n:Int)(s:List UInt8)(t:Tok)(sz:Nat)(U:List (List V)):List V:=[im k,im n,sv s,.ac t sz U]
inductive cW:Vl->List V->Prop
 |int (n:Int) (hn:0<=n/\n<=4611686018427387903):cW (.int n) (aG 1 n [] .nil 0 [])
 |aC (s:List UInt8) (hs:s.length<=1099511620000):cW (.aC s) (aG 2 0 s .nil 0 [])
 |ac (l:List Vl) (k:Tok) (sz:Nat) (U:List (List V)) (hl:U.length=l.length) (hs:U≠[]->sz=4) (hm:U.length<=1000000) (h:∀(i:Nat) v r,l[i]?=J v->U[i]?=J r->cW v r):cW (.ac l) (aG 3 0 [] k sz U)
def cW.len{v}{r}(h:cW v r):F r=4:=by cases h<;>rfl
def jl{k n}{s}{t}{sz}{U}:(V.agg (aG k n s t sz U)).bP=J (aG k n s t sz U):=rfl
def cW.cells{v}{r}(h:cW v r):(V.agg r).bP=J r:=by cases h<;>rfl
def Gp:Tryz.f210.results.toList=[.tmp 2,.tmp 3]:=aB
def Mn:f' ag 118=J aa:=aB
def nP:cQ ag 118=J 4:=aB
def Tc:f' ag 116=J au:=aB
def ag9:f' ag 9=J au:=aB
def ag4:f' ag 4=J au:=aB
def avH:cQ ag 262=J 4:=aB
section
variable {H:ah} {b:Nat} {k n:Int} {s:List UInt8} {t:Tok} {sz:Nat} {U:List (List V)}
def qC(d:H.I[b]?=J (aG k n s t sz U)):aL ag Gt H 3 (.ptr (.box b) 0)=J ((k:Int):V):=by rw[fx eH d];rfl
def tO(d:H.I[b]?=J (aG k n s t sz U)):aL ag Gt H 3 (.ptr (.box b) 1)=J ((n:Int):V):=by rw[fx eH d];rfl
def rq(d:H.I[b]?=J (aG k n s t sz U)):aL ag Gt H 9 (.ptr (.box b) 2)=J (.v (.string (bs s))):=by rw[fx ag9 d];rfl
def j_(d:H.I[b]?=J (aG k n s t sz U)):aL ag Gt H 116 (.ptr (.box b) 3)=J (.ac t sz U):=by rw[fx Tc d];rfl
def nF{r:List V}(g:F r=4)(d:H.I[b]?=J r):aL ag Gt H 118 (.ptr (.box b) 0)=J (.agg r):=by rw[fS Mn nP d af,gP,<-g,gy]
end
def eQ:(∀b,eo ag 118 (.ptr (.box b) 0) 0=J (.ptr (.box b) 0))/\(∀b,eo ag 118 (.ptr (.box b) 0) 1=J (.ptr (.box b) 1))/\(∀b,eo ag 118 (.ptr (.box b) 0) 2=J (.ptr (.box b) 2))/\∀b,eo ag 118 (.ptr (.box b) 0) 3=J (.ptr (.box b) 3):=⟨λ_=>aB,λ_=>aB,λ_=>aB,λ_=>aB⟩
def b4(a b c:Bool):List V:=[(au:V),((a:Bool):V),((b:Bool):V),((c:Bool):V)]
def Mr(a b c):iP ag 262 [(1,((a:Bool):V)),(2,((b:Bool):V)),(3,((c:Bool):V))]=J (.agg (b4 a b c)):=aB
def aw6:(gp ag 262).bind V.bP=J (b4 au au au):=aB
def uo:(gp ag 118).bind V.bP=J (aG 0 0 [] .nil 0 []):=aB
def Q9(H:ah)(a b c):b9 ag (H.push (b4 au au au)) 262 (.ptr (.box (F H.I)) 0) (.agg (b4 a b c))=J (H.push (b4 a b c)):=j3 O avH O rfl
def O1{b n}{k}(m:n<4):dU ag 262 (.ptr (.box b) 0) (.v (.int k (n:Nat)))=J (.ptr (.box b) n):=by have g:ag.underlying 262=J (.array 4 4):=Tryz.underlying262;have d:cQ ag 4=J 1:=aB;unfold dU;simp only[g,d];rw[aH ⟨af,by omega⟩];simp
def O5{b}:dU ag 262 (.ptr (.box b) 0) (.v (.int .i64 1))=J (.ptr (.box b) 1)/\dU ag 262 (.ptr (.box b) 0) (.v (.int .i64 2))=J (.ptr (.box b) 2)/\dU ag 262 (.ptr (.box b) 0) (.v (.int .i64 3))=J (.ptr (.box b) 3):=⟨O1 (n:=1) bm,O1 (n:=2) bm,O1 (n:=3) bm⟩
def ldb{H}{b}{x y z}(d:H.I[b]?=J (b4 x y z)):aL ag Gt H 4 (.ptr (.box b) 1)=J ((x:Bool):V)/\aL ag Gt H 4 (.ptr (.box b) 2)=J ((y:Bool):V)/\aL ag Gt H 4 (.ptr (.box b) 3)=J ((z:Bool):V):=by refine⟨?_,?_,?_⟩<;>(rw[fx ag4 d];rfl)
def O_{H:ah}{x}{p q r}:aL ag Gt ((H.push x).push (b4 p q r)) 4 (.ptr (.box (F (H.push x).I)) 1)=J ((p:Bool):V)/\aL ag Gt ((H.push x).push (b4 p q r)) 4 (.ptr (.box (F (H.push x).I)) 2)=J ((q:Bool):V)/\aL ag Gt ((H.push x).push (b4 p q r)) 4 (.ptr (.box (F (H.push x).I)) 3)=J ((r:Bool):V):=ldb (aU _ _)
def Ri{H:ah}{v}{r}(d:cW v r):b9 ag (H.push (aG 0 0 [] .nil 0 [])) 118 (.ptr (.box (F H.I)) 0) (.agg r)=J (H.push r):=j3 d.cells nP d.len rfl
def FM{H}{U}{i}{r}(d:F r=4)(g:U[i]?=J r):aL ag Gt H 118 (.elem 4 U i 0)=J (.agg r):=by rw[CO Mn nP g af,gP,<-d,gy]
def MW:∀l m:List Vl,gF (l++m)=max (gF l) (gF m)
 | [],m=>by simp[gF]
 |v::l,m=>by rw[eY,gF,gF,MW l m,Nat.max_assoc]
def MX{l:List Vl}{i}{v}(h:l[i]?=J v):gF (l.take (i+1))=max (gF (l.take i)) (gf v):=by rw[ga h,MW];simp[gF]
def MY(l)(i):gF (l.take i)<=gF l:=by have:=MW (l.take i) (l.drop i);rw[xq]at this;omega
def UN{l}{i:Nat}{v}(h:l[i]?=J v):gf v<=gF l:=by have d:=MX h;have h2:=MY l (i+1);omega
def aiP{v:Vl}{r:List V}(m:cW v r):gf v<=100->∀h,∃h',W1.call 210 [.agg r] h=J (.ret (.tuple [((gf v:Nat):V),(aa:V)]),h')/\Ext h h':=by
 have u9:=Bn;have u94:=mw;have z1:=aw6
 induction m with
 |int n hn=>
  intro _ h;refine iG O SS O ?_;show bM _ _ _ _ (xI _ _ _ _ (.ret (.tuple [.v (.int .i64 0),(aa:V)])) _)
  repeat' (first|simp(maxSteps:=9999999) (disch:=first|exact dZ|fail) only[gW,reduceIte,aT,aN,Gp,Mr,Q9,jl,qC,tO,rq,j_,O5,eQ,O_,gi,uu,decide_true, *]|refine dX ?_ ?_<;>(intro _;try omega))
  all_goals exact⟨_,O,(Ext.push _ _).trans (Ext.push _ _)⟩
 |aC s y=>
  intro _ h;refine iG O SS O ?_;show bM _ _ _ _ (xI _ _ _ _ (.ret (.tuple [.v (.int .i64 0),(aa:V)])) _)
  repeat' (first|simp(maxSteps:=9999999) (disch:=first|exact dZ|fail) only[gW,reduceIte,aT,aN,Gp,Mr,Q9,jl,qC,tO,rq,j_,O5,eQ,O_,gi,uu,decide_true, *]|refine dX ?_ ?_<;>(intro _;try omega))
  all_goals exact⟨_,O,(Ext.push _ _).trans (Ext.push _ _)⟩
 |ac l k sz U B y hm g C=>
  intro u h;have E:=aj.mk u;have kr:=aj.mk g;have N:=aj.mk C;have kh:=aj.mk y;have R:=aj.mk B;refine iG O SS O ?_;clear g C y u B;by_cases h0:(F U:Int)=0
  all_goals
   repeat' (first|simp(maxSteps:=9999999) (disch:=first|exact dZ|fail) only[gW,reduceIte,aT,aN,Gp,Mr,Q9,jl,qC,tO,rq,j_,O5,eQ,O_,uu,decide_true, *]|refine dX ?_ ?_<;>(intro _;try omega))
   refine cJ (λz0 e H=>∃i:Nat,i<=F U/\z0=F U-i/\e.get 55=.ac k sz U/\e.get 56=(F U:Nat)/\e.get 57=(i:Int)/\e.get 2=(gF (l.take i):Nat)/\e.defers=[]/\Ext h H) ?_ (F U) _ _ ?_;rotate_left 1
   .refine⟨0,cC _,O,?_,?_,?_,?_,?_,(Ext.push _ _).trans (Ext.push _ _)⟩<;>(first|assumption|(simp only[gW,reduceIte,aT,aN]<;>first|rfl|(rw[h0])))
   rintro z0 e H ⟨i,hi,rfl,g55,g56,g57,Z,u,A⟩;have z:=aj.mk A;clear A;by_cases q:i<F U
   .obtain⟨r,g⟩:∃r,U[i]?=J r:=⟨_,aY q⟩;obtain⟨v,m⟩:∃v,l[i]?=J v:=⟨_,aY (by have:=R.M;omega)⟩;have d:=kr.M i v r m g;have h4:sz=4:=kh.M (by rintro rfl;simp at q);subst h4;have p:gf (.ac l)=gF l+1:=rfl;have hdv:=UN m;have hdt:=MY l i;have o:=E.M;obtain⟨H2,c1,X⟩:=N.M i v r m g af (H.push r);have ld:=FM (H:=H) d.len g;have st:=Ri (H:=H) d;have l2:aL ag Gt (H.push r) 118 (.ptr (.box (F H.I)) 0)=J (.agg r):=nF d.len (aU _ _);have zz:=uo;have s96:=nP;have D:=aj.mk (z.M.trans ((Ext.push H r).trans X));have T:=aj.mk (MX m);have IU:(i:Int)<(F U:Int):=(by omega);clear z d m g X p o;have hmx:(if ((gF (l.take i):Nat):Int)<((gf v:Nat):Int) then ((gf v:Nat):Int) else ((gF (l.take i):Nat):Int))=((max (gF (l.take i)) (gf v):Nat):Int):=by split<;>omega
    repeat' (first|simp(maxSteps:=9999999) (disch:=first|exact dZ|fail) only[gW,reduceIte,aT,aN,Gp,bj,AB, *]|refine dX ?_ ?_<;>(intro _;try omega))
    all_goals exact⟨F U-(i+1),by omega,i+1,by omega,O,by trivial,by trivial,by simp,by rw[T.M],by trivial,D.M⟩
   .have:i=F U:=(by omega);subst this;have o:=E.M;have Y:l.take (F U)=l:=(by rw[R.M];exact gy);rw[Y]at Z;have p:gf (.ac l)=gF l+1:=rfl;rw[p]at o ⊢;have e2:((gF l+1:Nat):Int)=((gF l:Nat):Int)+1:=by omega
    repeat' (first|simp(maxSteps:=9999999) (disch:=first|exact dZ|fail) only[gW,reduceIte,aT,aN,Gp, *]|refine dX ?_ ?_<;>(intro _;try omega))
    all_goals exact⟨_,O,z.M⟩
def QG:Tryz.f212.results.toList=[.tmp 4]:=aB
def Mp{H}{k}{n0 sz}{es new}{x}{t1}(o:(∃e,ag.underlying t1=J (.slice e))∨ag.underlying t1=J .string)(v:jT H 1 x=J (bW new))(g:new≠[])(q:F es+F new<=8796093022208)(u:sz=1∨(es=[]/\k=.nil))(p:dm n0 H k):
 gC ag H #[60,t1] (.ac k sz (bW es)) x=J (.ac (.free H.tn) 1 (bW (es++new)),H.app k):=by
 obtain⟨i,y,d,z,A⟩:=CC;have B:=kL q z;have:=yZ (t0:=60) (n0:=n0) (i:=i) (sz:=sz) (es:=bW es) (new:=bW new) nu o y af (by rw[d];exact A) (by rw[d];exact v) (by simpa using g)
  (by rw[bJ,bJ];omega) (by rw[bJ,bJ];omega) (u.imp (λm=>m.trans d.symm) λm=>⟨by rw[m.1];rfl,m.2⟩) p
 rw[this,d];simp[bW]
def Ep{H}{k N}{n0 sz}{es}{c}(m:F es<8796093022208)(g:sz=1∨(es=[]/\k=.nil))(d:dm n0 H k):
 gC ag H #[60,60] (.ac k sz (bW es)) (.ac N 1 [[dC c]])=J (.ac (.free H.tn) 1 (bW (es++[c])),H.app k):=
 Mp (new:=[c]) (.inl ⟨_,nu⟩) O cE (by simp;omega) g d
def y_(c):fC ag 60 1 [(0,dC c)]=J (.ac .aP 1 [[dC c]]):=aB
def aoo(c):c%256|||128=c%128+128:=by
 have h:∀d:Fin 256,(d.val|||128)=d.val%128+128:=by decide+kernel
 have:=h ⟨c%256,lT _ bm⟩;simp only at this;rw[this];omega
def aop{t}{x y}(c):df ag .or t x y (.v (.int .u8 (IntKind.u8.wrap (c:Nat)))) (.v (.int .u8 128))=J (dC (UInt8.ofNat (c%128+128))):=by
 have o:IntKind.u8.wrap ((c:Nat):Int)=((c%256:Nat):Int):=by unfold IntKind.wrap;simp[IntKind.signed,IntKind.bits]
 have m:(UInt8.ofNat (c%128+128)).toNat=c%128+128:=by have:(UInt8.ofNat (c%128+128)).toNat=(c%128+128)%256:=UInt8.toNat_ofNat';omega
 unfold dC;rw[o,Mv,m];congr 3;have d:BitVec.ofInt IntKind.u8.bits ((c%256:Nat):Int)=BitVec.ofNat 8 (c%256):=by apply BitVec.eq_of_toNat_eq;show(BitVec.ofInt 8 ((c%256:Nat):Int)).toNat=(BitVec.ofNat 8 (c%256)).toNat;rw[BitVec.toNat_ofInt,BitVec.toNat_ofNat];omega
 have g:(BitVec.ofInt IntKind.u8.bits ((c%256:Nat):Int)|||BitVec.ofInt IntKind.u8.bits 128).toNat=c%128+128:=by rw[d];show(BitVec.ofNat 8 (c%256)|||128#8).toNat=_;rw[BitVec.toNat_or,BitVec.toNat_ofNat,nq (af:c%256<2^8)];exact aoo c
 rw[g,Nd af af]
def auf{t}{x y}{n}:df ag .shr t x y (.v (.int .u64 (n:Nat))) (.v (.int .u64 7))=J (.v (.int .u64 ((n/128:Nat):Int))):=by rw[Bv bm];congr 3;show((n:Nat):Int).fdiv (2^7)=_;rw[RQ _ bm];simp
def iK:∀(k u:Nat),F (fN k u)<=k+1
 |0,u=>by simp[fN]
 |k+1,u=>by
  rw[fN];split
  .simp
  .have:=iK k (u/128);simp;omega
def PN(u:Nat)(Y:u<18446744073709551616)(es:List UInt8)(k:Tok)(sz n0:Nat)(h:ah)(X:du h=aa)(R:dm n0 h k)(T:n0<=h.tn)(v:sz=1∨(es=[]/\k=.nil))(hl:F es<=1099511627776):
 ∃r h',W1.call 212 [.ac k sz (bW es),.v (.int .u64 (u:Nat))] h=J (r,h')/\∃t,r=.ret (.ac t 1 (bW (es++fN 9 u)))/\Grown n0 h h' t:=by
 have q:=aj.mk (Grown.refl R X);clear R X;refine cA O Tryz.func212 O ?_;refine bD @QG ?_;refine cJ (λm e H=>∃(j:Nat) (t:Tok) (d:List UInt8) (s:Nat),j<=9/\m<2*128^j/\d++fN j m=es++fN 9 u/\F d+j=F es+9/\(s=1∨(d=[]/\t=.nil))/\e.get 0=.ac t s (bW d)/\e.get 1=.v (.int .u64 (m:Nat))/\e.defers=[]/\Grown n0 h H t) ?_ u _ _ ?_;rotate_left 1
 .exact⟨9,k,es,sz,bh _,by simpa using Y,O,O,v,by exact gR,by exact gR,by exact gR,q.M⟩
 clear q Y;rintro m e H ⟨j,t,d,s,hj,C,o,fw,v,g0,g1,hd,B⟩;have q:=aj.mk B;have z:=aj.mk B.can;clear B;by_cases p:m<128
 .have g:=Y5 (k:=j) p;rw[g]at o;have Z:dC (UInt8.ofNat m)=.v (.int .u8 ((m:Nat):Int)):=by have:(UInt8.ofNat m).toNat=m%256:=UInt8.toNat_ofNat';unfold dC;rw[this,nq af]
  have E:¬((128:Int)<=((m:Nat):Int)):=by omega
  have A:=Ep (N:=.aP) (c:=UInt8.ofNat m) (af:F d<8796093022208) v z.M;rw[o]at A;have D:=y_ (UInt8.ofNat m);rw[Z]at A D;clear C p g o Z;refine bF @QG @EE ?_;exact⟨_,_,O,_,O,q.M.app T⟩
 .obtain⟨y,rfl⟩:∃y,j=y+1:=⟨j-1,by
   rcases j with _|j
   .omega
   .omega⟩
  have g:=Y6 (k:=y) (af:128<=m);rw[g]at o;have E:(128:Int)<=((m:Nat):Int):=by omega
  have D:=y_ (UInt8.ofNat (m%128+128));have A:=Ep (N:=.aP) (c:=UInt8.ofNat (m%128+128)) (af:F d<8796093022208) v z.M;have kq:=aj.mk o;have km:=aj.mk C;clear g o C;refine cg @QG @EE @aop @auf ?_;refine⟨m/128,by omega,y,.free H.tn,d++[UInt8.ofNat (m%128+128)],1,by omega,?_,?_,by simp;omega,.inl O,by trivial,by trivial,by trivial,q.M.app T⟩
  .have:=km.M;rw[yS]at this;omega
  .rw[jx];exact kq.M
def asN:Tryz.f146.results.toList=[.tmp 0]:=aB
def QF:Tryz.f211.results.toList=[.tmp 4]:=aB
def QH:Tryz.f214.results.toList=[.tmp 4]:=aB
def Dr:Tryz.f215.results.toList=[.tmp 5]:=aB
def gT:V:=.v .nilFunc
def ul(a:Nat):List V:=[gT,.func (.func 211) [] [],.func (.func 214) [] [],.func (.func 215) [] [.ptr (.box a) 0]]
def avE:cQ ag 181=J 1:=aB
def ad1:f' ag 181=J au:=aB
def ad2:f' ag 184=J au:=aB
def avF:cQ ag 184=J 1:=aB
def aeM:iP ag 236 []=J (.agg [gT,gT,gT,gT]):=aB
def aw2:(gp ag 184).bind V.bP=J [.v (.pointer aq)]:=aB
def Jq{b n}{k}(g:n<4):dU ag 236 (.ptr (.box b) 0) (.v (.int k (n:Nat)))=J (.ptr (.box b) n):=by have d:ag.underlying 236=J (.array 4 183):=Tryz.underlying236;have sz:cQ ag 183=J 1:=aB;unfold dU;simp only[d,sz];rw[aH ⟨af,by omega⟩];simp
def ixw{b}:dU ag 236 (.ptr (.box b) 0) (.v (.int .i64 1))=J (.ptr (.box b) 1)/\dU ag 236 (.ptr (.box b) 0) (.v (.int .i64 2))=J (.ptr (.box b) 2)/\dU ag 236 (.ptr (.box b) 0) (.v (.int .i64 3))=J (.ptr (.box b) 3):=⟨Jq (n:=1) bm,Jq (n:=2) bm,Jq (n:=3) bm⟩
def zB{r}{o}:eo ag 183 (.ptr r o) 0=J (.ptr r o):=aB
def stw{h:ah}{c q}{k}{f}{a b}(d:F c=4)(g:k<4):b9 ag ((h.push c).push q) 181 (.ptr (.box (F h.I)) k) (.func f a b)=J ((h.push (c.set k (.func f a b))).push q):=by rw[fI (xs:=[.func f a b]) O avE (aX (aU _ _)) O af];congr 1;rw[apV (by rw[bV];omega),ml];congr 2;unfold ej;rw[yQ,aH af];simp
def Yf{H}{a b}(d:H.I[a]?=J [.ptr (.box b) 0]):aL ag Gt H 184 (.ptr (.box a) 0)=J (.ptr (.box b) 0):=by rw[fx ad2 d];rfl
def amm{h:ah}{c}:aL ag Gt ((h.push c).push [.ptr (.box (F h.I)) 0]) 184 (.ptr (.box (F (h.push [gT,gT,gT,gT]).I)) 0)=J (.ptr (.box (F h.I)) 0):=by refine Yf ?_;rw[bV,<-bV h c];exact aU _ _
def auM{H:ah}{b}:b9 ag (H.push [.v (.pointer aq)]) 184 (.ptr (.box (F H.I)) 0) (.ptr (.box b) 0)=J (H.push [.ptr (.box b) 0]):=j3 O avF O rfl
def awV(h:ah):W1.call 146 [] h=J (.ret (.ptr (.box (F h.I)) 0),(h.push (ul (F h.I+1))).push [.ptr (.box (F h.I)) 0]):=by
 have p:=aw2;have d:(V.agg [gT,gT,gT,gT]).bP=J [gT,gT,gT,gT]:=rfl;have e:ul (F h.I+1)=(([gT,gT,gT,gT].set 1 (.func (.func 211) [] [])).set 2 (.func (.func 214) [] [])).set 3 (.func (.func 215) [] [.ptr (.box (F (h.push [gT,gT,gT,gT]).I)) 0]):=by rw[bV];rfl
 rw[e];have g:F [gT,gT,gT,gT]=4:=rfl;have m:F ([gT,gT,gT,gT].set 1 (.func (.func 211) [] []))=4:=rfl;have o:F (([gT,gT,gT,gT].set 1 (.func (.func 211) [] [])).set 2 (.func (.func 214) [] []))=4:=rfl;refine da O Tryz.func146 O ?_;exact iH @asN @aeM @auM (ar @amm (ar @ixw (ar @zB @stw)))
def GS:Vl->a_
 | .int _=>211
 | .aC _=>214
 | .ac _=>215
def GR(a:Nat):Vl->List V
 | .ac _=>[.ptr (.box a) 0]
 |_=>[]
def qa:fC ag 60 1 [(0,.v (.int .u8 1))]=J (.ac .aP 1 [[dC 1]])/\fC ag 60 1 [(0,.v (.int .u8 2))]=J (.ac .aP 1 [[dC 2]])/\fC ag 60 1 [(0,.v (.int .u8 3))]=J (.ac .aP 1 [[dC 3]]):=⟨y_ 1,y_ 2,y_ 3⟩
def awT(n:Nat)(C:n<=4611686018427387903)(es:List UInt8)(k:Tok)(sz n0:Nat)(H:ah)(q:du H=aa)(p:dm n0 H k)(h0:n0<=H.tn)(y:sz=1∨(es=[]/\k=.nil))(X:F es<=1099511627000):
 ∃A H',W1.call 211 [.ac k sz (bW es),.agg (aG 1 (n:Nat) [] .nil 0 [])] H=J (A,H')/\∃t,A=.ret (.ac t 1 (bW (es++cH (.int (n:Nat)))))/\Grown n0 H H' t:=by
 have g:Grown n0 H (H.push (aG 1 (n:Nat) [] .nil 0 [])) k:=(Grown.refl p q).push _;have R:=Ep (H:=H.push (aG 1 (n:Nat) [] .nil 0 [])) (N:=.aP) (c:=1) (af:F es<8796093022208) y g.can;have d:=g.app h0;have z:iE ((n:Nat):Int)<18446744073709551616:=by unfold iE;rw[aH af];omega
 obtain⟨Y,E,B,t3,rfl,o⟩:=PN (iE ((n:Nat):Int)) z (es++[1]) _ 1 n0 _ d.ok d.can (fB h0 d.tn) (.inl O) (by simp;omega);have D:=aj.mk (d.trans o);have m:es++[1]++fN 9 (iE ((n:Nat):Int))=es++cH (.int (n:Nat)):=by rw[cH];simp
 rw[m]at B;clear g d o q p y m z;refine cA O Tryz.func211 O ?_;have T:=awn n C;refine cg @QF @qa @jl (ar @tO (ar @eQ @ey)) ?_;refine jY [(2,4)] Bx aB (λZ u=>?_) ?_
 .simp only[iL]at u;subst u;refine nO (x:=.ptr (.box (F H.I)) 1) (v:=((n:Nat):V)) aB O O O aB (by simp[dh,iz]) ?_ ?_<;>(simp only[dY,dG];exact iH @QF @qa @jl (ar @tO (ar @eQ (ar @ey @and_self))))
 refine cg @QF @qa @jl (ar @tO (ar @eQ @ey)) ?_;exact⟨_,_,O,_,O,D.M⟩
def Y4(H)(s):jT H 1 (.v (.string (bs s)))=J (bW s):=by unfold jT;simp[bs]
def Th{H}{k}{n0}{es s}(p:F es+F s<=8796093022208)(d:dm n0 H k)(m:du H=aa)(q:n0<=H.tn):
 ∃t H',gC ag H #[60,9] (.ac k 1 (bW es)) (.v (.string (bs s)))=J (.ac t 1 (bW (es++s)),H')/\Grown n0 H H' t:=by
 by_cases o:s=[]
 .subst o;obtain⟨i,u,g,y,v⟩:=CC;refine⟨k,H,?_,Grown.refl d m⟩;rw[Tj nu (.inr Bn) u af (by rw[g];exact v) (by rw[g];exact Y4 H []) (.inl g.symm),iB]
 .exact⟨_,_,Mp (.inr Bn) (Y4 H s) o p (.inl O) d,Grown.one d m q⟩
def abi(s):dw ag 9 (.v (.string (bs s)))=J ((F s:Nat):V):=by rw[Yu Bn,zn]
def awU(s:List UInt8)(X:F s<=1099511620000)(es:List UInt8)(k:Tok)(sz n0:Nat)(H:ah)(B:du H=aa)(A:dm n0 H k)(h0:n0<=H.tn)(D:sz=1∨(es=[]/\k=.nil))(hl:F es<=1099511627000):
 ∃E H',W1.call 214 [.ac k sz (bW es),.agg (aG 2 0 s .nil 0 [])] H=J (E,H')/\∃t,E=.ret (.ac t 1 (bW (es++cH (.aC s))))/\Grown n0 H H' t:=by
 have p:Grown n0 H (H.push (aG 2 0 s .nil 0 [])) k:=(Grown.refl A B).push _;have Z:=Ep (H:=H.push (aG 2 0 s .nil 0 [])) (N:=.aP) (c:=2) (af:F es<8796093022208) D p.can;have d:=p.app h0;obtain⟨r3,R,c3,t3,rfl,g⟩:=PN (F s) af (es++[2]) _ 1 n0 _ d.ok d.can (fB h0 d.tn) (.inl O) (by simp;omega);have y:=d.trans g;have nl:=iK 9 (F s);obtain⟨t4,Y,q,z⟩:=Th (es:=es++[2]++fN 9 (F s)) (s:=s) (by simp;omega) g.can g.ok (fB h0 (fB d.tn g.tn));have T:=aj.mk (y.trans z);have u:es++[2]++fN 9 (F s)++s=es++cH (.aC s):=by rw[cH];simp
 rw[u]at q;have m:(H.push (aG 2 0 s .nil 0 [])).I[F H.I]?=J (aG 2 0 s .nil 0 []):=aU _ _;have o:((H.push (aG 2 0 s .nil 0 [])).app k).I[F H.I]?=J (aG 2 0 s .nil 0 []):=by rw[ey];exact m
 have b3:R.I[F H.I]?=J (aG 2 0 s .nil 0 []):=g.box _ _ o;have l1:=rq o;have l3:=rq b3;have l0:=rq m;have sl:=abi s;have hw:=wZ (n:=s.length) af;clear p d g y z B A D u m o b3 nl;refine cA O Tryz.func214 O ?_;refine cg @QH @qa @jl (ar @eQ @qk) ?_;refine jY [(2,4),(2,9),(7,9)] Bx aB (λz0 C=>?_) ?_
 .simp only[hh,qR,or_false]at C;rcases C with rfl|rfl|rfl
  all_goals
   refine nO (x:=.ptr (.box (F H.I)) 2) (v:=.v (.string (bs s))) aB O O O aB (by simp[dh,iz]) ?_ ?_<;>(simp only[dY,dG];exact iH @QH @qa @jl (ar @eQ (ar @qk @and_self)))
 refine cg @QH @qa @jl (ar @eQ @qk) ?_;exact⟨_,_,O,_,O,T.M⟩
def Ax:Vl->Nat
 | .int _=>1
 | .aC _=>2
 | .ac _=>3
def Pb{H}{x}{v}{r}(g:cW v r)(d:H.I[x]?=J r):aL ag Gt H 3 (.ptr (.box x) 0)=J ((Ax v:Nat):V):=by cases g<;>exact qC d
def FL{b}{v}:dU ag 236 (.ptr (.box b) 0) ((Ax v:Nat):V)=J (.ptr (.box b) (Ax v)):=by exact Jq (by cases v<;>simp[Ax])
def O'{H}{a b}{v}(d:H.I[b]?=J (ul a)):aL ag Gt H 181 (.ptr (.box b) (Ax v))=J (.func (.func (GS v)) [] (GR a v)):=by rw[fx ad1 d];cases v<;>rfl
def U0{l:List Vl}{i}{v}(h:l[i]?=J v):gK (l.take (i+1))=gK (l.take i)++cH v:=by rw[ga h,UY];simp[gK]
def UZ(l)(i):F (gK (l.take i))<=F (gK l):=by have:=UY (l.take i) (l.drop i);rw[xq]at this;rw[this,de];omega
mutual
def QY(v:Vl):∀r,cW v r->gI r r=aa:=by
 intro r h;cases h with|int n p=>simp[aG,gI,dh,iz,im,sv,sF,nf]|aC s m=>simp[aG,gI,dh,iz,im,sv,sF,nf]|ac l k sz U d m o g=>have:=QZ l U d g;simp[aG,gI,dh,iz,im,sv,this];cases k<;>simp[sF]
def QZ(l:List Vl):∀U:List (List V),F U=F l->(∀(i:Nat) v r,l[i]?=J v->U[i]?=J r->cW v r)->nf U U=aa:=by
 intro U d h
 match l,U,d,h with
 | [],[],_,_=>rfl
 |v::l,r::U,d,h=>rw[nf,QY v r (h 0 v r O O),QZ l U (by simpa using d) λi v r m g=>h (i+1) v r (by simpa using m) (by simpa using g)];rfl
end
def awS{v:Vl}{r:List V}(R:cW v r):∀(a b:Nat) (es:List UInt8) (k:Tok) (sz n0:Nat) (H:ah),H.I[a]?=J [.ptr (.box b) 0]->H.I[b]?=J (ul a)->du H=aa->dm n0 H k->n0<=H.tn->(sz=1∨(es=[]/\k=.nil))->F es+F (cH v)<=1099511627000->
 ∃Y H',W1.call (GS v) (.ac k sz (bW es)::.agg r::GR a v) H=J (Y,H')/\∃t,Y=.ret (.ac t 1 (bW (es++cH v)))/\Grown n0 H H' t:=by
 induction R with
 |int n hn=>intro a b es k sz n0 H _ _ D C h0 E u;obtain⟨z0,rfl⟩:∃z0:Nat,n=z0:=⟨n.toNat,by omega⟩;exact awT z0 af es k sz n0 H D C h0 E af
 |aC s z=>intro a b es k sz n0 H _ _ D C h0 E u;exact awU s z es k sz n0 H D C h0 E af|ac l g d U y z hm p ih=>
  intro a b es k sz n0 H ha hb D C h0 E u;have sr:=QZ l U y p;have kr:=aj.mk p;have kih:=aj.mk ih;have ksl:=aj.mk z;have kll:=aj.mk y;have Z:cH (.ac l)=3::(fN 9 (F l)++gK l):=by rw[cH]
  rw[Z]at u ⊢;have g1:Grown n0 H (H.push (aG 3 0 [] g d U)) k:=(Grown.refl C D).push _;have ap:=Ep (H:=H.push (aG 3 0 [] g d U)) (N:=.aP) (c:=3) (af:F es<8796093022208) E g1.can;have A:=g1.app h0;simp only[eZ,de]at u;obtain⟨r3,H3,c3,t3,rfl,B⟩:=PN (F l) af (es++[3]) _ 1 n0 _ A.ok A.can (fB h0 A.tn) (.inl O) (by simp;omega);have g4:=A.trans B;have b0:(H.push (aG 3 0 [] g d U)).I[F H.I]?=J (aG 3 0 [] g d U):=aU _ _;have b1:((H.push (aG 3 0 [] g d U)).app k).I[F H.I]?=J (aG 3 0 [] g d U):=by rw[ey];exact b0
  have b3:H3.I[F H.I]?=J (aG 3 0 [] g d U):=B.box _ _ b1;have l0:=j_ b0;have l1:=j_ b1;have l3:=j_ b3;have u94:=mw;have hw:=wZ (n:=l.length) af;have IU:((F U:Nat):Int)=((F l:Nat):Int):=by rw[y]
  have T:=aj.mk g4;have kha:=aj.mk ha;have khb:=aj.mk hb;have kl2:=aj.mk u;have sv0:dh (.ac g d U) (.ac g d U)=aa:=by rw[dh,sr,GZ];cases g<;>simp[sF]
  clear g1 A B g4 D C E b0 b1 b3 p ih z y sr ha hb u;show ∃Y H',W1.call 215 [.ac k sz (bW es),.agg (aG 3 0 [] g d U),.ptr (.box a) 0] H=J (Y,H')/\_;refine cA O Tryz.func215 O ?_;refine cg @Dr @qa @jl (ar @eQ @qk) ?_;refine jY [(2,4)] Bx aB (λz1 hp=>?_) ?_
  .simp only[iL]at hp;subst hp;refine nO (x:=.ptr (.box (F H.I)) 3) (v:=.ac g d U) aB O O O aB (sv0) ?_ ?_<;>(simp only[dY,dG];exact iH @Dr @qa @jl (ar @eQ (ar @qk @and_self)))
  refine cg @Dr @qa @jl (ar @eQ @qk) ?_;refine cJ (λz0 e q=>∃(i:Nat) (t:Tok),i<=F l/\z0=F l-i/\e.get 0=.ac t 1 (bW (es++[3]++fN 9 (F l)++gK (l.take i)))/\e.get 2=.ptr (.box a) 0/\e.get 17=.ac g d U/\e.get 18=(F l:Nat)/\e.get 19=(i:Int)/\e.defers=[]/\Grown n0 H q t) ?_ (F l) _ _ ?_;rotate_left 1
  .refine⟨0,t3,cC _,O,?_,?_,?_,?_,?_,?_,T.M⟩<;>(first|assumption|(simp only[gW,reduceIte,aT,aN,dG,gK,iB]<;>first|rfl|(rw[IU])))
  clear c3 ap l0 l1 l3 T hw;rintro z0 e q ⟨i,t,hi,rfl,g0,A,g17,g18,g19,hd,hG⟩;have T:=aj.mk hG;clear hG;by_cases dD:i<F l
  .obtain⟨v,R⟩:∃v,l[i]?=J v:=⟨_,aY dD⟩;obtain⟨r,p⟩:∃r,U[i]?=J r:=⟨_,aY af⟩;have m:=kr.M i v r R p;have h4:d=4:=ksl.M (by rintro rfl;simp at p);subst h4;have o:=T.M.push r;have X:=U0 R;have el:=UZ l (i+1);rw[X,de]at el;have u:=kl2.M;have nl:=iK 9 (F l);obtain⟨r2,H2,c2,t2,rfl,B⟩:=kih.M i v r R p a b (es++[3]++fN 9 (F l)++gK (l.take i)) t 1 n0 (q.push r) (o.box _ _ kha.M) (o.box _ _ khb.M) o.ok o.can (fB h0 o.tn) (.inl O) (by simp;omega);rw[show es++[3]++fN 9 (F l)++gK (l.take i)++cH v=es++[3]++fN 9 (F l)++gK (l.take (i+1)) by rw[X];simp]at c2;have kG2:=aj.mk (o.trans B);have ld:=FM (H:=q) m.len p;have st:=Ri (H:=q) m;have l2:aL ag Gt (q.push r) 118 (.ptr (.box (F q.I)) 0)=J (.agg r):=nF m.len (aU _ _);have l5:=Pb m (aU q r);have l6:=Yf (o.box _ _ kha.M);have l7:=O' (v:=v) (o.box _ _ khb.M);have ik:=FL (b:=b) (v:=v);have zz:=uo;have s96:=nP;have ayj:(i:Int)<(F U:Int):=(by omega);generalize GS v=fv at *
   generalize GR a v=cv at *
   generalize Ax v=kv at *
   clear o B X el u nl R p m T;refine cg @Dr @bj @eQ @zB ?_;refine dW Bx aB ?_;refine cg @Dr @bj @eQ (ar @zB (ar @eP.{0} @eY.{0})) ?_;exact⟨F l-(i+1),by omega,i+1,t2,by omega,O,by trivial,by trivial,by trivial,by trivial,by simp,by trivial,kG2.M⟩
  .have:i=F l:=(by omega);subst this;rw[gy]at g0;have ee:es++[3]++fN 9 (F l)++gK l=es++3::(fN 9 (F l)++gK l):=(by simp);rw[ee]at g0;refine bD @Dr ?_;exact⟨_,_,O,_,O,T.M⟩
def asM:Tryz.f145.results.toList=[.tmp 2]:=aB
def Kf:Tryz.f74.results.toList=[.tmp 2,.tmp 3]:=aB
def agI{v:Vl}{r:List V}(d:cW v r)(m:gf v<=16)(h:ah):∃h',W1.call 145 [.agg r] h=J (.ret (im 0),h')/\Ext h h':=by
 obtain⟨y,q,g⟩:=aiP d af (h.push r);have u:=d.cells;have z:=nF d.len (aU h r);have o:=aj.mk ((Ext.push h r).trans g);have p:¬((16:Int)<((gf v:Nat):Int)):=by omega
 clear d g m;unfold im;refine iG O Tryz.func145 O ?_;refine bD @asM ?_;exact⟨_,O,o.M⟩
def ah6{v:Vl}{r:List V}(g:cW v r)(N:gf v<=16)(R:F (cH v)<=1099511627000)(h:ah)(T:du h=aa):
 ∃Y h',W1.call 74 [.agg r] h=J (Y,h')/\∃t,Y=.ret (.tuple [.ac t 1 (bW (cH v)),.v (.int .i64 0)])/\Ext h h':=by
 obtain⟨d,c1,B⟩:=agI g N (h.push r);unfold im at c1;have o:=(Ext.push h r).trans B;have cs:=g.cells;have u:=aU h r;have m:=B.box _ _ u;have c2:=awV d;have y:((d.push (ul (F d.I+1))).push [.ptr (.box (F d.I)) 0]).I[F h.I]?=J r:=aX (aX m);have z:((d.push (ul (F d.I+1))).push [.ptr (.box (F d.I)) 0]).I[F d.I]?=J (ul (F d.I+1)):=aX (aU _ _);have C:((d.push (ul (F d.I+1))).push [.ptr (.box (F d.I)) 0]).I[F d.I+1]?=J [.ptr (.box (F d.I)) 0]:=nB (by rw[bV]);have x3:Ext d ((d.push (ul (F d.I+1))).push [.ptr (.box (F d.I)) 0]):=(Ext.push _ _).trans (.push _ _);have q:=(o.trans x3).ok T;obtain⟨r4,h4,A,t,rfl,D⟩:=awS g (F d.I+1) (F d.I) [] .nil 0 h.tn _ C z q (.inl O) (o.trans x3).tn (.inr ⟨O,O⟩) (by simpa using R);rw[eP]at A;have kX:=aj.mk (D.ext (o.trans x3) (bh _));have ld0:=nF g.len u;have ld1:=nF g.len m;have ld2:=nF g.len y;have lk1:=Pb g m;have lk2:=Pb g y;have lf:=O' (v:=v) z;have ik:=FL (b:=d.I.length) (v:=v);have p:=QY v r g;have A:W1.call (GS v) (.ac .nil 0 []::.agg r::GR (F d.I+1) v) ((d.push (ul (F d.I+1))).push [.ptr (.box (F d.I)) 0])=J (.ret (.ac t 1 (bW (cH v))),h4):=A;generalize GS v=fv at *
 generalize GR (F d.I+1) v=cv at *
 generalize hkv:Ax v=kv at *
 generalize E:(d.push (ul (F d.I+1))).push [.ptr (.box (F d.I)) 0]=H3 at *
 have Z:dh (.agg r) (.agg r)=aa:=by rw[dh,p]
 clear g B N o u m y z C x3 q D T R p E;refine cA O Tryz.func74 O ?_;refine cg @Kf @eQ @zB (ar @eP.{0} @eY.{0}) ?_;refine jY [(0,2),(0,7)] Bx aB (λz0 X=>?_) ?_
 .simp only[hh,qR,or_false]at X;rcases X with rfl|rfl
  .refine nO (x:=.ptr (.box (F h.I)) 0) (v:=((kv:Nat):V)) aB O O O aB (by simp[dh,iz]) ?_ ?_<;>(simp only[dY,dG];exact iH @Kf @eQ @zB @and_self)
  .refine nO (x:=.ptr (.box (F h.I)) 0) (v:=.agg r) aB O O O aB (Z) ?_ ?_<;>(simp only[dY,dG];exact iH @Kf @eQ @zB @and_self)
 refine cg @Kf @eQ @zB (ar @eP.{0} @eY.{0}) ?_;exact⟨_,_,O,_,O,kX.M⟩
mutual
def cW.hold(v:Vl):∀r,cW v r->cW v (bE r)/\aM 0 0 0 (bE r)=aa:=by
 intro r h;cases h with|int n p=>exact⟨.int n p,O⟩|aC s d=>exact⟨.aC s d,O⟩|ac l k sz U g d o q=>obtain⟨m,h2⟩:=cW.holds l U g q;have e:bE (aG 3 0 [] k sz U)=aG 3 0 [] (cK k) sz (ef U):=rfl;rw[e];refine⟨.ac l _ sz _ (by rw[Ft];exact g) (λy=>d λu=>y (by rw[u];rfl)) (by rw[Ft];exact o) m,?_⟩;unfold aG;simp[aM,aK,im,sv,fy,h2]
def cW.holds(l:List Vl):∀U:List (List V),F U=F l->(∀(i:Nat) v r,l[i]?=J v->U[i]?=J r->cW v r)->(∀(i:Nat) v r,l[i]?=J v->(ef U)[i]?=J r->cW v r)/\fZ 0 0 0 (ef U)=aa:=by
 intro U m h
 match l,U,m,h with
 | [],[],_,_=>exact⟨λi v r d=>by simp at d,O⟩
 |v::l,r::U,m,h=>
  obtain⟨o,h2⟩:=cW.hold v r (h 0 v r O O);obtain⟨p,q⟩:=cW.holds l U (by simpa using m) λi v r d g=>h (i+1) v r (by simpa using d) (by simpa using g);refine⟨λi y u d g=>?_,by rw[ef,fZ,h2,q];rfl⟩;cases i with
  |zero=>injection d with d;injection g with g;subst d;subst g;exact o
  |succ i=>exact p i y u d g
end
def Gi:Tryz.f225.results.toList=[.tmp 2]:=aB
def Gj:Tryz.f226.results.toList=[.tmp 2]:=aB
def asH:Tryz.f172.results.toList=[.tmp 2]:=aB
def aqQ{v:Vl}{r:List V}(o:cW v r):∀h,∃h',W1.call 225 [.agg r] h=J (.ret (aa:V),h')/\Ext h h':=by
 have u9:=Bn;have u94:=mw;have s96:=nP
 induction o with
 |int n hn=>
  intro h;refine iG O SV O ?_
  repeat' (first|simp(maxSteps:=9999999) (disch:=first|exact dZ|fail) only[gW,reduceIte,aT,aN,Gi,jl,qC,tO,rq,j_,eQ,gi,uu,decide_true, *]|refine dX ?_ ?_<;>(intro _;try omega))
  all_goals exact⟨_,O,Ext.push _ _⟩
 |aC s q=>
  intro h;refine iG O SV O ?_
  repeat' (first|simp(maxSteps:=9999999) (disch:=first|exact dZ|fail) only[gW,reduceIte,aT,aN,Gi,jl,qC,tO,rq,j_,eQ,gi,uu,decide_true, *]|refine dX ?_ ?_<;>(intro _;try omega))
  all_goals exact⟨_,O,Ext.push _ _⟩
 |ac l k sz U A q hm d B=>
  intro h;have Y:=aj.mk d;have E:=aj.mk B;have T:=aj.mk q;have X:=aj.mk A;refine iG O SV O ?_;clear d B q A;refine cg @Gi @jl @qC (ar @tO (ar @rq (ar @j_ (ar @eQ (ar @uu @decide_true))))) ?_;refine cJ (λz0 e H=>∃i:Nat,i<=F U/\z0=F U-i/\e.get 1=.ptr (.box (F h.I)) 0/\e.get 3=(i:Int)/\e.defers=[]/\H.I[F h.I]?=J (aG 3 0 [] k sz U)/\Ext h H) ?_ (F U) _ _ ?_;rotate_left 1
  .refine⟨0,cC _,O,?_,?_,?_,aU _ _,Ext.push _ _⟩<;>(first|assumption|(exact gR))
  rintro z0 e H ⟨i,hi,rfl,g1,g3,hd,g,z⟩;have u:=aj.mk z;have R:=aj.mk g;have l0:=qC g;have l1:=tO g;have l2:=rq g;have l3:=j_ g;clear z g;by_cases p:i<F U
  .obtain⟨r,d⟩:∃r,U[i]?=J r:=⟨_,aY p⟩;obtain⟨v,o⟩:∃v,l[i]?=J v:=⟨_,aY (by have:=X.M;omega)⟩;have m:=Y.M i v r o d;have N:sz=4:=T.M (by rintro rfl;simp at p);subst N;obtain⟨H2,c1,y⟩:=E.M i v r o d H;have ld:=FM (H:=H) m.len d;have C:=aj.mk (u.M.trans y);have D:=aj.mk (y.box _ _ R.M);have Z:(i:Int)<(F U:Int):=(by omega);clear u m o d y;refine dA @Gi @bj @eQ ?_;exact⟨F U-(i+1),by omega,i+1,by omega,O,by trivial,by simp,by trivial,D.M,C.M⟩
  .have:i=F U:=(by omega);subst this;refine dA @Gi @eQ @decide_true ?_;exact⟨_,O,u.M⟩
def aqw{v:Vl}{r:List V}(g:cW v r):gf v<=100->∀h,∃h',W1.call 226 [.agg r] h=J (.ret ((gf v:Nat):V),h')/\Ext h h':=by
 have u9:=Bn;have u94:=mw;have s96:=nP
 induction g with
 |int n hn=>intro _ h;refine iG O SW O ?_;show bM _ _ _ _ (xI _ _ _ _ (.ret (.v (.int .i64 0))) _);refine cg @Gj @jl @qC @eQ ?_;exact⟨_,O,Ext.push _ _⟩|aC s y=>intro _ h;refine iG O SW O ?_;show bM _ _ _ _ (xI _ _ _ _ (.ret (.v (.int .i64 0))) _);refine cg @Gj @jl @qC @eQ ?_;exact⟨_,O,Ext.push _ _⟩|ac l k sz U D y hm d E=>
  intro u h;have kd:=aj.mk u;have kr:=aj.mk d;have T:=aj.mk E;have kh:=aj.mk y;have X:=aj.mk D;refine iG O SW O ?_;clear d E y D u;refine cg @Gj @jl @qC @eQ ?_;refine cJ (λz0 e H=>∃i:Nat,i<=F U/\z0=F U-i/\e.get 1=.ptr (.box (F h.I)) 0/\e.get 3=(gF (l.take i):Nat)/\e.get 4=(i:Int)/\e.defers=[]/\H.I[F h.I]?=J (aG 3 0 [] k sz U)/\Ext h H) ?_ (F U) _ _ ?_;rotate_left 1
  .refine⟨0,cC _,O,?_,?_,?_,?_,aU _ _,Ext.push _ _⟩<;>(first|assumption|(exact gR))
  rintro z0 e H ⟨i,hi,rfl,g1,g3,g4,u,q,B⟩;have z:=aj.mk B;have kb:=aj.mk q;have l3:=j_ q;have m:gf (.ac l)=gF l+1:=rfl;have C:=kd.M;rw[m]at C;clear B q;by_cases p:i<F U
  .obtain⟨r,d⟩:∃r,U[i]?=J r:=⟨_,aY p⟩;obtain⟨v,g⟩:∃v,l[i]?=J v:=⟨_,aY (by have:=X.M;omega)⟩;have o:=kr.M i v r g d;have h4:sz=4:=kh.M (by rintro rfl;simp at p);subst h4;have hdv:=UN g;have hdt:=MY l i;obtain⟨H2,c1,A⟩:=T.M i v r g d af H;have ld:=FM (H:=H) o.len d;have N:=aj.mk (z.M.trans A);have R:=aj.mk (A.box _ _ kb.M);have Y:=aj.mk (MX g);have IU:(i:Int)<(F U:Int):=(by omega);have hmx:(if ((gF (l.take i):Nat):Int)<((gf v:Nat):Int) then ((gf v:Nat):Int) else ((gF (l.take i):Nat):Int))=((max (gF (l.take i)) (gf v):Nat):Int):=(by split<;>omega);clear z o g d A m;refine cg @Gj @bj @eQ @AB ?_;exact⟨F U-(i+1),by omega,i+1,by omega,O,by trivial,by rw[Y.M],by simp,by trivial,R.M,N.M⟩
  .have:i=F U:=(by omega);subst this;have Z:l.take (F U)=l:=(by rw[X.M];exact gy);rw[Z]at g3;rw[m];have e2:((gF l+1:Nat):Int)=((gF l:Nat):Int)+1:=(by omega);refine bF @Gj @eQ ?_;exact⟨_,O,z.M⟩
def aqu{v:Vl}{r:List V}(d:cW v r)(p:gf v<=16)(h:ah):∃h',W1.call 172 [.agg r] h=J (.ret (im 0),h')/\Ext h h':=by
 obtain⟨o,z,g⟩:=aqQ d (h.push r);obtain⟨h2,A,m⟩:=aqw d af o;have B:=d.cells;have C:=nF d.len (aU h r);have y:=nF d.len (g.box _ _ (aU h r));have q:=aj.mk (((Ext.push h r).trans g).trans m);have u:¬((16:Int)<((gf v:Nat):Int)):=by omega
 clear d g m p;unfold im;refine iG O Tryz.func172 O ?_;refine bD @asH ?_;exact⟨_,O,q.M⟩
def aav:Tryz.f227.results.toList=[.tmp 2]:=aB
def asO:Tryz.f228.results.toList=[.tmp 2]:=aB
def AM:Tryz.f173.results.toList=[.tmp 2]:=aB
def ast:Tryz.f100.results.toList=[.tmp 2,.tmp 3]:=aB
def KN(c:Nat)(d:c<256):dC (UInt8.ofNat c)=.v (.int .u8 (c:Nat)):=by have:(UInt8.ofNat c).toNat=c%256:=UInt8.toNat_ofNat';unfold dC;rw[this,nq d]
def JB(k u):fN k u≠[]:=by
 cases k with|zero=>simp[fN]|succ k=>rw[fN];split<;>simp
def Er{H}{k t}{n0}{es new}(d:new≠[])(m:F es+F new<=8796093022208)(g:dm n0 H k):
 gC ag H #[60,60] (.ac k 1 (bW es)) (.ac t 1 (bW new))=J (.ac (.free H.tn) 1 (bW (es++new)),H.app k):=
 Mp (.inl ⟨_,nu⟩) CU d m (.inl O) g
def Qs:∀(k u:Nat),k<=9->u<2*128^k->∀h,du h=aa->∃r h',W1.call 227 [.v (.int .u64 (u:Nat))] h=J (r,h')/\∃t,r=.ret (.ac t 1 (bW (fN k u)))/\Grown h.tn h h' t:=by
 have p:∀(k u:Nat),u<128->∀h,du h=aa->∃r h',W1.call 227 [.v (.int .u64 (u:Nat))] h=J (r,h')/\∃t,r=.ret (.ac t 1 (bW (fN k u)))/\Grown h.tn h h' t:=by
  intro k u d h m;rw[Y5 d];have q:=y_ (UInt8.ofNat u);rw[KN u af]at q;have e:bW [UInt8.ofNat u]=[[.v (.int .u8 (u:Nat))]]:=by show[[dC (UInt8.ofNat u)]]=_;rw[KN u af]
  rw[e];have A:((u:Nat):Int)<128:=by omega
  have v:=aj.mk (Grown.refl (n0:=h.tn) (k:=.aP) (.inr (.inl O)) m);clear m d e;refine cA O ado O ?_;refine bF @aav @EE ?_;exact⟨_,_,O,_,O,v.M⟩
 intro k
 induction k with
 |zero=>intro u _ d;exact p 0 u (by simpa using Nat.lt_trans d bm)|succ k B=>
  intro u D d h m;by_cases o:u<128
  .exact p _ u o h m
  .rw[Y6 af];obtain⟨T,z,E,t,rfl,g⟩:=B (u/128) af (by rw[yS]at d;omega) h m;have q:=y_ (UInt8.ofNat (u%128+128));have nl:=iK k (u/128);have C:=Er (H:=z) (k:=.aP) (t:=t) (n0:=h.tn) (es:=[UInt8.ofNat (u%128+128)]) (JB k (u/128)) (by simp;omega) (.inr (.inl O));have e:bW [UInt8.ofNat (u%128+128)]=[[.v (.int .u8 ((u%128+128:Nat):Int))]]:=(by show[[dC (UInt8.ofNat (u%128+128))]]=_;rw[KN _ af]);rw[e]at C;rw[KN (u%128+128) af]at q;have y:Grown h.tn h z .aP:=⟨g.box,g.loop,.inr (.inl O),g.ok,g.tn,g.dead⟩;have v:=aj.mk (y.app (bh _));have A:¬((u:Nat):Int)<128:=(by omega);have N:((u:Nat):Int).tmod 128=((u%128:Nat):Int):=qL u 128;have R:((u:Nat):Int).tdiv 128=((u/128:Nat):Int):=KI u 128;have X:IntKind.u64.wrap (((u%128:Nat):Int)+128)=((u%128+128:Nat):Int):=(by rw[show((u%128:Nat):Int)+128=((u%128+128:Nat):Int) by omega,wZ af]);have Y:IntKind.u64.wrap ((u/128:Nat):Int)=((u/128:Nat):Int):=(by have:2*128^(k+1)<=2*128^9:=Nat.mul_le_mul_left _ (ac6 bm D);exact wZ af);clear m d o B g y e nl;refine cA O ado O ?_;refine bF @aav @EE ?_;exact⟨_,_,O,_,O,v.M⟩
def atv(n:Nat)(o:n<=4611686018427387903)(h:ah):W1.call 228 [((n:Nat):V)] h=J (.ret (.v (.int .u64 (iE n:Nat))),h):=by
 have e:iE (n:Int)=2*n:=by unfold iE;rw[aH af,fe]
 rw[e];have d:=wZ (n:=n) af;have g:IntKind.u64.wrap (2*((n:Nat):Int))=((2*n:Nat):Int):=by rw[show 2*((n:Nat):Int)=((2*n:Nat):Int) by omega,wZ af]
 have m:(0:Int)<=((n:Nat):Int):=by omega
 refine da O Tryz.func228 O ?_;exact f_ @asO @qk
def ah5(v):cH v≠[]:=by cases v<;>simp[cH]
def _root_.Go.AE.Grown.re{n0:Nat}{h h':ah}{t k:Tok}(g:Grown n0 h h' t)(d:dm n0 h' k):Grown n0 h h' k:=⟨g.box,g.loop,d,g.ok,g.tn,g.dead⟩
def _root_.Go.AE.Grown.um{n0 m:Nat}{h h':ah}{t:Tok}(g:Grown m h h' t)(d:n0<=m):Grown n0 h h' t:=⟨g.box,g.loop,g.can.mono d,g.ok,g.tn,λn p o=>g.dead n (mQ p d) o⟩
def _root_.Go.AE.Grown.beside{n0:Nat}{h h':ah}{t k:Tok}(g:Grown h.tn h h' t)(p:dm n0 h k):dm n0 h' k:=by
 rcases p with rfl|rfl|⟨u,rfl,q,d⟩
 .exact .inl O
 .exact .inr (.inl O)
 .refine .inr (.inr ⟨u,O,q,?_⟩);have m:=qV d;unfold alive at d ⊢;simp only[bQ,decide_eq_true_eq,Bool.not_eq_true',List.contains_eq_mem,decide_eq_false_iff_not]at d ⊢;exact⟨mQ m g.tn,λo=>d.2 (g.dead u m o)⟩
def aqF{v:Vl}{r:List V}(R:cW v r):F (cH v)<=1099511627000->∀h,du h=aa->∃r' h',W1.call 173 [.agg r] h=J (r',h')/\∃t,r'=.ret (.ac t 1 (bW (cH v)))/\Grown h.tn h h' t:=by
 induction R with
 |int n hn=>
  intro _ h A;obtain⟨X,rfl⟩:∃X:Nat,n=X:=⟨n.toNat,by omega⟩;have hu:iE ((X:Nat):Int)<2*128^9:=by unfold iE;rw[aH af];omega
  have m:Grown h.tn h (h.push (aG 1 (X:Nat) [] .nil 0 [])) .aP:=(Grown.refl (.inr (.inl O)) A).push _;obtain⟨r1,d,c1,t,rfl,o⟩:=Qs 9 (iE ((X:Nat):Int)) (bh _) hu _ m.ok;have nl:=iK 9 (iE ((X:Nat):Int));have p:=Er (H:=d) (k:=.aP) (t:=t) (n0:=h.tn) (es:=[1]) (JB 9 (iE ((X:Nat):Int))) (by simp;omega) (.inr (.inl O));have g:=aj.mk ((m.trans (o.re (.inr (.inl O)))).app (bh _));have cu:=atv X af;have p:gC ag d #[60,60] (.ac .aP 1 [[dC 1]]) (.ac t 1 (bW (fN 9 (iE ((X:Nat):Int)))))=J (.ac (.free d.tn) 1 (bW (cH (.int (X:Nat)))),d.app .aP):=by rw[cH];exact p
  clear m o hu hn A nl;refine cA O SQ O ?_;refine cg @AM @qa @jl (ar @qC (ar @tO @eQ)) ?_;exact⟨_,_,O,_,O,g.M⟩
 |aC s hs=>
  intro q h A;have y:cH (.aC s)=2::(fN 9 (F s)++s):=by rw[cH]
  rw[y]at q ⊢;simp only[eZ,de]at q;have m:Grown h.tn h (h.push (aG 2 0 s .nil 0 [])) .aP:=(Grown.refl (.inr (.inl O)) A).push _;obtain⟨r1,d,c1,t,rfl,o⟩:=Qs 9 (F s) (bh _) af _ m.ok;have p:=Er (H:=d) (k:=.aP) (t:=t) (n0:=h.tn) (es:=[2]) (JB 9 (F s)) (by simp;omega) (.inr (.inl O));have z:=(m.trans (o.re (.inr (.inl O)))).app (bh _);obtain⟨t4,h4,ap4,D⟩:=Th (es:=[2]++fN 9 (F s)) (s:=s) (by simp;omega) z.can z.ok z.tn;have g:=aj.mk (z.trans D);have p:gC ag d #[60,60] (.ac .aP 1 [[dC 2]]) (.ac t 1 (bW (fN 9 (F s))))=J (.ac (.free d.tn) 1 (bW ([2]++fN 9 (F s))),d.app .aP):=p;have e4:[2]++fN 9 (F s)++s=2::(fN 9 (F s)++s):=by simp
  rw[e4]at ap4;have B:=aU h (aG 2 0 s .nil 0 []);have N:=o.box _ _ B;have b2:(d.app .aP).I[F h.I]?=J (aG 2 0 s .nil 0 []):=by rw[ey];exact N
  have l0:=rq B;have l1:=rq N;have l2:=rq b2;have sl:=abi s;have hw:=wZ (n:=s.length) af;clear m o z D A y e4 B N b2 q;refine cA O SQ O ?_;refine cg @AM @qa @jl (ar @qC (ar @eQ @qk)) ?_;refine jY [(5,8),(6,8)] Bx aB (λz0 hp=>?_) ?_
  .simp only[hh,qR,or_false]at hp;rcases hp with rfl|rfl
   all_goals
    refine nO (x:=.ptr (.box (F h.I)) 2) (v:=.v (.string (bs s))) aB O O O aB (by simp[dh,iz]) ?_ ?_<;>(simp only[dY,dG];exact iH @AM @qa @jl (ar @eQ (ar @qk @and_self)))
  refine cg @AM @qa @jl (ar @eQ @qk) ?_;exact⟨_,_,O,_,O,g.M⟩
 |ac l T sz U q hs hm E ih=>
  intro u h A;have kr:=aj.mk E;have kih:=aj.mk ih;have kh:=aj.mk hs;have kl2:=aj.mk q;have y:cH (.ac l)=3::(fN 9 (F l)++gK l):=by rw[cH]
  rw[y]at u ⊢;simp only[eZ,de]at u;have m:Grown h.tn h (h.push (aG 3 0 [] T sz U)) .aP:=(Grown.refl (.inr (.inl O)) A).push _;obtain⟨r1,d,c1,t,rfl,o⟩:=Qs 9 (F l) (bh _) af _ m.ok;have nl:=iK 9 (F l);have p:=Er (H:=d) (k:=.aP) (t:=t) (n0:=h.tn) (es:=[3]) (JB 9 (F l)) (by simp;omega) (.inr (.inl O));have z:=(m.trans (o.re (.inr (.inl O)))).app (bh _);have p:gC ag d #[60,60] (.ac .aP 1 [[dC 3]]) (.ac t 1 (bW (fN 9 (F l))))=J (.ac (.free d.tn) 1 (bW ([3]++fN 9 (F l))),d.app .aP):=p;have B:=aU h (aG 3 0 [] T sz U);have N:=o.box _ _ B;have b2:(d.app .aP).I[F h.I]?=J (aG 3 0 [] T sz U):=by rw[ey];exact N
  have l0:=j_ B;have u94:=mw;have hw:=wZ (n:=U.length) af;have c1:W1.call 227 [.v (.int .u64 ((F U:Nat):Int))] (h.push (aG 3 0 [] T sz U))=J (.ret (.ac t 1 (bW (fN 9 (F l)))),d):=by rw[q];exact c1
  have g:=aj.mk z;have kb:=aj.mk b2;have klen:=aj.mk u;clear m o z A y E ih hs q u B N b2;refine cA O SQ O ?_;refine cg @AM @qa @jl (ar @qC (ar @eQ @qk)) ?_;refine cJ (λX e Y=>∃(i:Nat) (t:Tok),i<=F U/\X=F U-i/\e.get 1=.ptr (.box (F h.I)) 0/\e.get 3=.ac t 1 (bW ([3]++fN 9 (F l)++gK (l.take i)))/\e.get 4=(i:Int)/\e.defers=[]/\Y.I[F h.I]?=J (aG 3 0 [] T sz U)/\Grown h.tn h Y t) ?_ (F U) _ _ ?_;rotate_left 1
  .refine⟨0,.free d.tn,cC _,O,?_,?_,?_,?_,kb.M,g.M⟩<;>(first|assumption|(simp only[gW,reduceIte,aT,aN,dG,gK,iB]<;>rfl))
  clear c1 p l0 g kb hw;rintro X e Y ⟨i,t,hi,rfl,o,g3,g4,hd,hb,hG⟩;have g:=aj.mk hG;have kb:=aj.mk hb;have l3:=j_ hb;clear hG hb;by_cases dD:i<F U
  .obtain⟨r,E⟩:∃r,U[i]?=J r:=⟨_,aY dD⟩;obtain⟨v,R⟩:∃v,l[i]?=J v:=⟨_,aY (by have:=kl2.M;omega)⟩;have vg:=kr.M i v r R E;have h4:sz=4:=kh.M (by rintro rfl;simp at dD);subst h4;have es1:=U0 R;have el:=UZ l (i+1);rw[es1,de]at el;have q:=klen.M;obtain⟨r2,H2,c2,t2,rfl,D⟩:=kih.M i v r R E af Y g.M.ok;have C:=D.beside g.M.can;have ap2:=Er (H:=H2) (k:=t) (t:=t2) (n0:=h.tn) (es:=[3]++fN 9 (F l)++gK (l.take i)) (ah5 v) (by simp;omega) C;rw[show[3]++fN 9 (F l)++gK (l.take i)++cH v=[3]++fN 9 (F l)++gK (l.take (i+1)) by rw[es1];simp]at ap2;have kG2:=aj.mk ((g.M.trans ((D.um g.M.tn).re C)).app (bh _));have kb2:aj ((H2.app t).I[F h.I]?=J (aG 3 0 [] T 4 U)):=⟨by rw[ey];exact D.box _ _ kb.M⟩;have ld:=FM (H:=Y) vg.len E;have s96:=nP;have IU:(i:Int)<(F U:Int):=(by omega);clear g vg R E D C es1 el q nl;refine dA @AM @bj @eQ ?_;exact⟨F U-(i+1),by omega,i+1,.free H2.tn,by omega,O,by trivial,by trivial,by simp,by trivial,kb2.M,kG2.M⟩
  .have:i=F U:=(by omega);subst this;rw[show l.take (F U)=l by rw[kl2.M];exact gy]at g3;have ee:[3]++fN 9 (F l)++gK l=3::(fN 9 (F l)++gK l):=(by simp);rw[ee]at g3;refine bF @AM @eQ ?_;exact⟨_,_,O,_,O,g.M⟩
def aql{v:Vl}{r:List V}(d:cW v r)(p:gf v<=16)(q:F (cH v)<=1099511627000)(h:ah)(u:du h=aa):
 ∃y h',W1.call 100 [.agg r] h=J (y,h')/\∃t,y=.ret (.tuple [.ac t 1 (bW (cH v)),.v (.int .i64 0)])/\Ext h h':=by
 obtain⟨A,z,m⟩:=aqu d p (h.push r);unfold im at z;have g:=(Ext.push h r).trans m;obtain⟨R,h2,D,t,rfl,o⟩:=aqF d q A (g.ok u);have E:=d.cells;have N:=nF d.len (aU h r);have C:=nF d.len (m.box _ _ (aU h r));have B:=aj.mk (o.ext g g.tn);clear d m g p o u q;refine cA O Tryz.func100 O ?_;refine bD @ast ?_;exact⟨_,_,O,_,O,B.M⟩
def kW:List fk:=(bT 64).map CH
def Pg{H}{b n}{t}{l}(d:f' ag t=J aa)(m:cQ ag t=J n)(g:H.I[b]?=J (eO l))(o:F l=n):aL ag Gt H t (.ptr (.box b) 0)=J (.agg (eO l)):=by rw[fS d m g (by rw[bJ];omega),gP,fK (by rw[bJ];omega)]
def asu:Tryz.f96.results.toList=[.cell 2 118]:=aB
def asv:Tryz.f97.results.toList=[.cell 2 118]:=aB
def asw:Tryz.f99.results.toList=[.cell 2 118]:=aB
def Ms(n):iP ag 118 [(0,.v (.int .i64 1)),(1,((n:Int):V))]=J (.agg (aG 1 n [] .nil 0 [])):=aB
def Mt(s):iP ag 118 [(0,.v (.int .i64 2)),(2,.v (.string (bs s)))]=J (.agg (aG 2 0 s .nil 0 [])):=aB
def bdl(k)(sz)(U):iP ag 118 [(0,.v (.int .i64 3)),(3,.ac k sz U)]=J (.agg (aG 3 0 [] k sz U)):=aB
def KF{H:ah}{k n}{s}{t}{sz}{U}:b9 ag (H.push (aG 0 0 [] .nil 0 [])) 118 (.ptr (.box (F H.I)) 0) (.agg (aG k n s t sz U))=J (H.push (aG k n s t sz U)):=j3 O nP O rfl
def Pf{H:ah}{k n}{s}{t}{sz}{U}:aL ag Gt (H.push (aG k n s t sz U)) 118 (.ptr (.box (F H.I)) 0)=J (.agg (aG k n s t sz U)):=nF O (aU _ _)
def aq7(n:Int)(h:ah):W1.call 97 [((n:Int):V)] h=J (.ret (.agg (aG 1 n [] .nil 0 [])),h.push (aG 1 n [] .nil 0 [])):=by have d:=uo;refine da O Tryz.func97 O ?_;exact iH @asv @Ms @KF @Pf
def as9(s:List UInt8)(h:ah):W1.call 99 [.v (.string (bs s))] h=J (.ret (.agg (aG 2 0 s .nil 0 [])),h.push (aG 2 0 s .nil 0 [])):=by have d:=uo;refine da O Tryz.func99 O ?_;exact iH @asw @Mt @KF @Pf
def arO(k:Tok)(sz:Nat)(U:List (List V))(h:ah):W1.call 96 [.ac k sz U] h=J (.ret (.agg (aG 3 0 [] k sz U)),h.push (aG 3 0 [] k sz U)):=by have d:=uo;refine da O Tryz.func96 O ?_;exact iH @asu @bdl @KF @Pf
def L2:List a_:=[80,81,75,66,130,202,67,69,162,111,100,96,97,99,241,203,193,242,74,231,222]
noncomputable def P':a_->Option (List V->ah->Option (V × ah)):=my W1 L2
noncomputable abbrev W2:=whole ag Gt P'
def xz:mN P' L2:=tg
section
variable (a b n x:Int)
def S5:∀h,W2.call 80 [im a,im b] h=J (.ret (im (cX a b)),h):=b8 (L:=L2) O O O (adN a b _) O rfl
def Py:∀h,W2.call 81 [im a,im b] h=J (.ret (im (cV a b)),h):=b8 (L:=L2) O O O (anC a b _) O rfl
def alL:∀h,W2.call 222 [im n] h=J (.ret (.tuple [im (if fmod n=0 then 0 else e8 n),im (if fmod n=0 then 90 else 0)]),h):=b8 (L:=L2) O O O (alK n _) O rfl
def awA:∀h,W2.call 66 [im x] h=J (.ret (.v (.bool (cq x))),h):=b8 (L:=L2) O O O (awx x _) O rfl
def ajm:∀h,W2.call 67 [im a,im b] h=J (.ret (.tuple [im (oI a b),im (tC a b)]),h):=b8 (L:=L2) O O O (ajl a b _) O rfl
def ajs:∀h,W2.call 75 [im a,im n] h=J (.ret (.tuple [im (eR a n),im (lm a)]),h):=b8 (L:=L2) O O O (ajr a n _) O rfl
def aqn:∀h,W2.call 130 [im a,im b] h=J (.ret (im (cX a b)),h):=b8 (L:=L2) O O O (aqm a b _) O rfl
def arQ:∀h,W2.call 202 [im a,im b] h=J (.ret (im (cV a b)),h):=b8 (L:=L2) O O O (arP a b _) O rfl
def aq9:∀h,W2.call 231 [im n] h=J (.ret (.tuple [im (if fmod n=0 then 0 else e8 n),im (if fmod n=0 then 90 else 0)]),h):=b8 (L:=L2) O O O (aq8 n _) O rfl
def atx:∀h,W2.call 111 [im x] h=J (.ret (.v (.bool (cq x))),h):=b8 (L:=L2) O O O (atw x _) O rfl
def aqS:∀h,W2.call 203 [im a,im n] h=J (.ret (.tuple [im (eR a n),im (lm a)]),h):=b8 (L:=L2) O O O (aqR a n _) O rfl
def aq3:∀h,W2.call 97 [im n] h=J (.ret (.agg (aG 1 n [] .nil 0 [])),h):=b8 (L:=L2) O O O (aq7 n _) O rfl
end
def as4(s):∀h,W2.call 99 [sv s] h=J (.ret (.agg (aG 2 0 s .nil 0 [])),h):=b8 (L:=L2) O O O (as9 s _) O rfl
def wG:du ⟨[],[],0,[]⟩=aa:=rfl
def ajh(d b)(k)(g:F b<=1099511620000)(m:F d<=1099511620000):∀h,W2.call 69 [.v (.string (bs d)),.ac k 1 (bW b)] h=J (.ret (im (qo (lK d b):Nat)),h):=
 b8 (L:=L2) (u:=[.v (.string (bs d)),.ac (cK k) 1 (bW b)]) O (by rw[bE,bE,aA.eq_1,rh];rfl) (by simp[aM,aK,fy,mA]) (ajg d b _ g m _) O rfl
def axO{v}{r}(o:cW v r)(m:gf v<=16)(p:F (cH v)<=1099511600000):∃t,∀h,W2.call 74 [.agg r] h=J (.ret (.tuple [.ac t 1 (bW (cH v)),.v (.int .i64 0)]),h):=by obtain⟨d,h2⟩:=cW.hold v r o;obtain⟨q,h',g,t,rfl,-⟩:=ah6 d m af ⟨[],[],0,[]⟩ wG;exact⟨cK t,b8 (L:=L2) (u:=[.agg (bE r)]) O O (by simpa [aM,aK] using h2) g O (by simp[aK,aM,fy,mA])⟩
def aze{v}{r}(o:cW v r)(m:gf v<=16)(p:F (cH v)<=1099511600000):∃t,∀h,W2.call 100 [.agg r] h=J (.ret (.tuple [.ac t 1 (bW (cH v)),.v (.int .i64 0)]),h):=by obtain⟨d,h2⟩:=cW.hold v r o;obtain⟨q,h',g,t,rfl,-⟩:=aql d m af ⟨[],[],0,[]⟩ wG;exact⟨cK t,b8 (L:=L2) (u:=[.agg (bE r)]) O O (by simpa [aM,aK] using h2) g O (by simp[aK,aM,fy,mA])⟩
def gB(l:List Vl)(U:List (List V)):Prop:=F U=F l/\∀(i:Nat) v r,l[i]?=J v->U[i]?=J r->cW v r
def asR:Tryz.f223.results.toList=[.tmp 4]:=aB
def QI:Tryz.f249.results.toList=[]:=aB
def mV:f' ag 23=J au:=aB
def ad0:f' ag 207=J au:=aB
def wy{H}{b}{x}(d:H.I[b]?=J [x]):aL ag Gt H 23 (.ptr (.box b) 0)=J x:=by rw[fx mV d];rfl
def vk{H}{b}{x}(d:H.I[b]?=J [x]):aL ag Gt H 207 (.ptr (.box b) 0)=J x:=by rw[fx ad0 d];rfl
def wz{H}{b k}{cs}{x}(d:H.I[b]?=J cs)(g:cs[k]?=J x):aL ag Gt H 3 (.ptr (.box b) k)=J x:=by rw[fx eH d,Hg,g]
def rn{H}{b k}{cs}{x}(d:H.I[b]?=J cs)(g:cs[k]?=J x):aL ag Gt H 23 (.ptr (.box b) k)=J x:=by rw[fx mV d,Hg,g]
def oO{b len ba n}{k}(d:n<len):dU ag 23 (.arr b 0 len ba) (.v (.int k (n:Nat)))=J (.ptr (.box b) n):=by rw[At dp fa af af,fe,mr,nT]
def CF{b len ba n}{k}(d:n<len):dU ag 207 (.arr b 0 len ba) (.v (.int k (n:Nat)))=J (.ptr (.box b) n):=by rw[At Tryz.underlying207 iA af af,fe,mr,nT]
def S7(d w c:Nat)(h:ah):W2.call 223 [.arr d 0 w w,im (c:Nat)] h=J (.ret (.func (.func 249) [] [.ptr (.box (F h.I+1)) 0,.ptr (.box (F h.I)) 0]),(h.push [.arr d 0 w w]).push [im (c:Nat)]):=by have g:(V.arr d 0 w w).bP=J [.arr d 0 w w]:=rfl;have m:(V.v (.int .i64 (c:Nat))).bP=J [((c:Nat):V)]:=rfl;unfold im;refine da O Tryz.func223 O ?_;exact qn @asR @bC @bV
def S8(l p y z w c:Nat)(row:List Int)(Inv:Nat->ah->Prop)
 (q:∀k H,Inv k H->H.I[p]?=J [im (c:Nat)]/\H.I[y]?=J [.arr z 0 w w]/\(k<w->∃cs,H.I[z]?=J cs/\cs[k]?=J (im (al row k))))
 (B:∀k H,c<=k->k<w->Inv k H->∃H',W2.round l [im (k:Nat),im (al row k)] H=J (.ret (aa:V),H')/\Inv (k+1) H')
 (T:c<=w) (ye:w<=1000000) (o:ah) (h0:Inv c o):∃H',W2.call 249 [.yield l,.ptr (.box p) 0,.ptr (.box y) 0] o=J (.ret (.tuple []),H')/\Inv w H':=by
 have Y:=aj.mk q;have Z:=aj.mk B;have D:=aj.mk h0;obtain⟨m,d,-⟩:=q c o h0;have N:=mh m;unfold im at N;have u23:=dp;clear q B h0 m d;refine iG O Tryz.func249 O ?_;refine bD @QI ?_;refine cJ (λz0 e H=>∃k:Nat,c<=k/\k<=w/\z0=w-k/\e.get 0=.yield l/\e.get 1=.ptr (.box p) 0/\e.get 2=.ptr (.box y) 0/\e.get 4=(k:Int)/\e.defers=[]/\Inv k H) ?_ (w-c) _ _ ?_;rotate_left 1
 .refine⟨c,bh _,T,O,?_,?_,?_,?_,?_,D.M⟩<;>(first|assumption|(exact gR))
 clear N D;rintro z0 e H ⟨k,C,IN,rfl,g0,g1,g2,g4,hd,u⟩;obtain⟨m,d,b3⟩:=Y.M k H u;have l2:=wy d;have v:=aj.mk u;clear m u;by_cases g:k<w
 .obtain⟨cs,b4,A⟩:=b3 g;obtain⟨H',r1,R⟩:=Z.M k H C g v.M;have ix:=oO (b:=z) (len:=w) (ba:=w) (k:=.i64) g;have l3:=wz b4 A;have E:=aj.mk R;have X:((k:Nat):Int)<((w:Nat):Int):=by omega
  unfold im at *
  clear d b3 b4 A R v;refine bF @QI @zr ?_;exact⟨w-(k+1),by omega,k+1,by omega,by omega,O,by trivial,by trivial,by trivial,by simp,by trivial,E.M⟩
 .have:k=w:=by omega
  subst this;clear d b3;refine bD @QI ?_;exact⟨_,O,v.M⟩
def QD:Tryz.f224.results.toList=[]:=aB
structure jh(H:ah)(tb:Nat)(B:List Nat)(t:List (List Int))(w:Nat):Prop where
 iC:H.I[tb]?=J (B.map λb=>V.arr b 0 w w)
 len:B.length=t.length
 nd:B.Nodup
 row:∀(i b:Nat) (r:List Int),B[i]?=J b->t[i]?=J r->H.I[b]?=J (r.map im)
 wid:∀r∈t,r.length=w
 M:tb∉B
def YU{l:List Nat}(h:l.Nodup){i j x:Nat}(hi:l[i]?=J x)(m:l[j]?=J x):i=j:=by obtain⟨o,d⟩:=bk.1 hi;obtain⟨h2,g⟩:=bk.1 m;exact(List.getElem_inj h).1 (d.trans g.symm)
def jh.set{H}{A w i b}{B}{t}(T:jh H A B t w)(hi:B[i]?=J b){r}(C:F r=w):jh (H.put b (r.map im)) A B (t.set i r) w:=by
 have o:=(bk.1 hi).1;have v:=dy hi;refine⟨?_,by rw[nS];exact T.len,T.nd,λj u p g d=>?_,λp d=>?_,T.M⟩
 .rw[cS (λe=>T.M (by rw[e];exact v))];exact T.iC
 .by_cases m:j=i
  .subst m;rw[hi]at g;injection g with g;subst g;rw[List.getElem?_set_self (by rw[<-T.len];exact o)]at d;injection d with d;subst d;have y:j<F t:=(by rw[<-T.len];exact o);exact dM (bk.1 (T.row j b _ hi (aY y))).1
  .have z:u≠b:=λe=>m (YU T.nd (by rw[<-e];exact g) hi);rw[cS z];rw[List.getElem?_set_ne (λe=>m e.symm)]at d;exact T.row j u p g d
 .rcases vO d with q|q
  .exact T.wid p q
  .rw[q];exact C
def jh.mono{H H'}{d w}{B}{t}(T:jh H d B t w)(m:∀(c:Nat) cs,H.I[c]?=J cs->H'.I[c]?=J cs):jh H' d B t w:=
 ⟨m _ _ T.iC,T.len,T.nd,λi b r g o=>m _ _ (T.row i b r g o),T.wid,T.M⟩
def ma(n:Int)(a own:List Int)(c k:Nat):List Int:=(bT (F a)).map λj=>if c<=j/\j<k then jj n (al a j) (al own j) else al a j
def rK{n}{a own}{c k}:F (ma n a own c k)=F a:=by unfold ma;simp
def ED{n}{a own}{c k j}(d:j<F a):al (ma n a own c k) j=if c<=j/\j<k then jj n (al a j) (al own j) else al a j:=by rw[fL (by rw[rK];exact d)];unfold ma;rw[qQ,LJ]
def ahz{n}{a own}{c}:ma n a own c c=a:=by refine vu rK λj d=>?_;rw[rK]at d;rw[ED d,aV af]
def ahy{n}{a own}{c k}(p:c<=k)(m:k<F a):(ma n a own c k).set k (jj n (al a k) (al own k))=ma n a own c (k+1):=by
 refine vu (by rw[nS,rK,rK]) λj g=>?_;rw[nS,rK]at g;rw[HE (by rw[rK];exact m),ED g,ED g];by_cases d:j=k
 .subst d;rw[aH O,aH af]
 .rw[aV d];by_cases o:c<=j/\j<k
  .rw[aH o,aH af]
  .rw[aV o,aV af]
def ahx{n}{a own}{c}(o:F a=F own)(m:c<=F a):ma n a own c (F a)=a.take c++ir n (a.drop c) (own.drop c):=by
 have d:F (a.drop c)=F (own.drop c):=by simp[o]
 refine vu (by rw[rK,de,tQ d,dJ,fJ];omega) λj g=>?_;rw[rK]at g;rw[ED g,Bt m];by_cases p:j<c
 .rw[aV af,aH p]
 .rw[aH af,aV p,uG d (by rw[fJ];omega),HD,HD,(af:c+(j-c)=j)]
def vn{r}{k}(d:k<F r):(r.map im)[k]?=J (im (al r k)):=by rw[eF,aY d,fL d];rfl
def vB{H}{b k}{r:List Int}{x}(g:H.I[b]?=J (r.map im))(d:k<F r):b9 ag H 3 (.ptr (.box b) k) ((x:Int):V)=J (H.put b ((r.set k x).map im)):=by rw[fI (xs:=[im x]) O fa g O (by rw[bJ];exact d)];congr 2;unfold ej;rw[acC,yQ,aH (by rw[bJ];exact d)];simp
def wH{x}(h:okF x):0<=x/\x<=9223372036854775807:=by obtain⟨d,h2⟩:=h;have:Qi=1073741789:=rfl;omega
def agK(h:ah)(o:Nat)(B:List Nat)(t:List (List Int))(w i y c:Nat)(a own:List Int)(T:jh h o B t w)(hi:t[i]?=J a)(E:t[y]?=J own)(gb:i≠y)(hc:c<w)(hw:w<=1000000)(z:∀r∈t,∀x∈r,okF x):
 ∃h',W2.call 224 [.arr o 0 (F B) (F B),im (i:Nat),im (y:Nat),im (c:Nat)] h=J (.ret (.tuple []),h')/\jh h' o B (t.set i (tt c a own)) w/\∀n0,gj B n0 h h':=by
 have e_:=(bk.1 hi).1;have FJ:=(bk.1 E).1;obtain⟨m,v⟩:∃b,B[i]?=J b:=⟨_,aY (by rw[T.len];exact e_)⟩;obtain⟨p,Z⟩:∃b,B[y]?=J b:=⟨_,aY (by rw[T.len];exact FJ)⟩;have ra:=T.row i m a v hi;have ro:=T.row y p own Z E;have wa:=T.wid a (dy hi);have wo:=T.wid own (dy E);have nD:m≠p:=λe=>gb (YU T.nd (by rw[e]at v;exact v) Z);have tH:=(bk.1 T.iC).1;have ax4:=(bk.1 ra).1;have ax8:=(bk.1 ro).1;have akY:o≠m:=λe=>T.M (by rw[e];exact dy v);have Wq:(B.map λb=>V.arr b 0 w w)[i]?=J (.arr m 0 w w):=by rw[eF,v];rfl
 have hdy:(B.map λb=>V.arr b 0 w w)[y]?=J (.arr p 0 w w):=by rw[eF,Z];rfl
 have oka:=z a (dy hi);have oko:=z own (dy E);have hiB:i<F B:=by rw[T.len];exact e_
 have hyB:y<F B:=by rw[T.len];exact FJ
 have z3:=KT;have bx1:∀b n z4:Nat,(V.arr b 0 n z4).bP=J [.arr b 0 n z4]:=λ_ _ _=>rfl;have bx2:∀n:Int,(V.v (.int .i64 n)).bP=J [((n:Int):V)]:=λ_=>rfl;have ixi:=CF (b:=o) (len:=B.length) (ba:=B.length) (k:=.i64) hiB;have ixy:=CF (b:=o) (len:=B.length) (ba:=B.length) (k:=.i64) hyB;have ixc:=oO (b:=m) (len:=w) (ba:=w) (k:=.i64) hc;have n0:=wH (ph oka c);have unf:tt c a own=if al a c=0 then a else ma (al a c) a own c w:=by unfold tt;rw[<-wa,ahx af af]
 rw[unf];clear unf;generalize hn:al a c=n at *
 have aj0:∀(z5:V) (q ds:List V),((h.push q).push ds).I[o]?=J (B.map λb=>V.arr b 0 w w)/\((h.push q).push ds).I[m]?=J (a.map im):=λz5 q ds=>⟨aX (aX T.iC),aX (aX ra)⟩;generalize g:(h.push [.arr o 0 (F B) (F B)]).push [im (i:Nat)]=d;have l1:∀q,aL ag Gt (d.push q) 207 (.ptr (.box (F h.I)) 0)=J (.arr o 0 (F B) (F B)):=λq=>vk (by rw[<-g];exact aX (aX (aU _ _)));have l1':aL ag Gt d 207 (.ptr (.box (F h.I)) 0)=J (.arr o 0 (F B) (F B)):=vk (by rw[<-g];exact aX (aU _ _));have l2:aL ag Gt d 3 (.ptr (.box (F h.I+1)) 0)=J ((i:Nat):V):=mh (by rw[<-g];exact nB (by rw[bV]));have l3:aL ag Gt d 23 (.ptr (.box o) i)=J (.arr m 0 w w):=rn (by rw[<-g];exact aX (aX T.iC)) Wq;have l4:aL ag Gt d 3 (.ptr (.box m) c)=J ((n:Int):V):=by have:=wz (k:=c) (x:=im (al a c)) (show d.I[m]?=J (a.map im) by rw[<-g];exact aX (aX ra)) (vn af);rw[hn]at this;exact this
 have l5:aL ag Gt (d.push [((n:Int):V)]) 3 (.ptr (.box (F d.I)) 0)=J ((n:Int):V):=mh (aU _ _);have s5:b9 ag (d.push [im 0]) 3 (.ptr (.box (F d.I)) 0) ((n:Int):V)=J (d.push [((n:Int):V)]):=j3 O fa O O;have l6:∀q,aL ag Gt (d.push q) 23 (.ptr (.box o) y)=J (.arr p 0 w w):=λq=>rn (by rw[<-g];exact aX (aX (aX T.iC))) hdy;have X:aj (F d.I=F h.I+2):=⟨by rw[<-g,bV,bV]⟩;have kM2:aj (∀n0,gj B n0 h d):=⟨λn0=>by rw[<-g];exact(gj.refl.push _).push _⟩;have kT2:aj (jh d o B t w):=⟨T.mono λcc q z0=>by rw[<-g];exact aX (aX z0)⟩;have e0:(h.push [V.arr o 0 (F B) (F B)]).push [((i:Nat):V)]=d:=g;have kL2:aj (d.aI=h.aI):=⟨by rw[<-g];rfl⟩;have kb0:aj (d.I[F h.I]?=J [.arr o 0 (F B) (F B)]):=⟨by rw[<-g];exact aX (aU _ _)⟩;have kb1:aj (d.I[F h.I+1]?=J [im (i:Nat)]):=⟨by rw[<-g];exact nB (by rw[bV])⟩;have e1:F (h.push [V.arr o 0 (F B) B.length]).I=F h.I+1:=bV _ _;have kT:=aj.mk T;have ko:=aj.mk (ar oka oko);clear aj0 tH T ra ro z oka oko g;unfold im at *
 refine iG O Tryz.func224 O ?_;by_cases hz:n=0
 .subst hz;rw[aH O];refine bF @QD @bC ?_;exact⟨_,O,by
   have e:t.set i a=t:=by
    apply oq;intro j;rw[mq];split
    .rename_i z0;subst z0;exact hi.symm
    .rfl
   rw[e];exact kT2.M.mono λcc q z0=>aX z0,λn0=>(kM2.M n0).push _⟩
 .rw[aV hz];have Y:=S7 p w c (d.push [((n:Int):V)]);unfold im at Y;refine bF @QD @bC ?_;refine bM.gen λe he hd hp rP=>?_;have g4:e.get 4=.ptr (.box (F h.I)) 0:=by rw[he];exact gS
  have g5:e.get 5=.ptr (.box (F h.I+1)) 0:=by rw[he];exact gS
  have g8:e.get 8=.ptr (.box (F d.I)) 0:=by rw[he];exact gS
  have g25:e.get 25=.func (.func 249) [] [.ptr (.box (F d.I+1+1)) 0,.ptr (.box (F d.I+1)) 0]:=by rw[he];simp only[gW,reduceIte,aT,aN];simp only[bV]
  have hdf:e.defers=[]:=by rw[hd];exact gS
  clear he hd hp rP;refine Gu (by rw[BS];exact g25) λrec w1 w2 w3 w4 w5 w6=>?_;have IP:=X.M;have VV:=kT2.M;have z:=ko.M;have VN:∀n0,gj B n0 h (((d.push [((n:Int):V)]).push [.arr p 0 w w]).push [((c:Int):V)]):=λn0=>(((kM2.M n0).push _).push _).push _;have N:jh (((d.push [((n:Int):V)]).push [.arr p 0 w w]).push [((c:Int):V)]) o B t w:=VV.mono λcc q z0=>aX (aX (aX z0));have p0:(((d.push [((n:Int):V)]).push [.arr p 0 w w]).push [((c:Int):V)]).I[F d.I]?=J [((n:Int):V)]:=aX (aX (aU _ _));have p1:(((d.push [((n:Int):V)]).push [.arr p 0 w w]).push [((c:Int):V)]).I[F d.I+1]?=J [.arr p 0 w w]:=aX (nB (by rw[bV]));have p2:(((d.push [((n:Int):V)]).push [.arr p 0 w w]).push [((c:Int):V)]).I[F d.I+1+1]?=J [((c:Int):V)]:=nB (by rw[bV,bV]);have p3:(((d.push [((n:Int):V)]).push [.arr p 0 w w]).push [((c:Int):V)]).I[F h.I]?=J [.arr o 0 (F B) (F B)]:=aX (aX (aX kb0.M));have p4:(((d.push [((n:Int):V)]).push [.arr p 0 w w]).push [((c:Int):V)]).I[F h.I+1]?=J [((i:Int):V)]:=aX (aX (aX kb1.M));have pL:(((d.push [((n:Int):V)]).push [.arr p 0 w w]).push [((c:Int):V)]).aI=h.aI:=kL2.M;generalize ((d.push [((n:Int):V)]).push [.arr p 0 w w]).push [((c:Int):V)]=u at *
  have VM:F u.aI=F h.aI:=congrArg F pL;rw[VM];clear pL;clear l1 l1' l2 l3 l4 l5 s5 l6 e0 e1 Y VV kb0 kb1;have C:=N.row i m a v hi;have D:=N.row y p own Z E;have qr:=(bk.1 C).1;have ya:=(bk.1 (kT.M.iC)).1;have ax6:=(bk.1 (kT.M.row i m a v hi)).1;have nW:(u.loop rec).aI[F h.aI]?=J rec:=by rw[<-VM];exact @FO u rec
  have I1:∀(k:Nat) (H:ah),H=(u.loop rec).put m ((ma n a own c k).map im)->H.I[F d.I+1+1]?=J [im (c:Nat)]/\H.I[F d.I+1]?=J [.arr p 0 w w]/\(k<w->∃q,H.I[p]?=J q/\q[k]?=J (im (al own k))):=by
   rintro k H rfl;refine⟨?_,?_,λhk=>⟨_,?_,vn af⟩⟩
   .rw[cS af];exact p2
   .rw[cS af];exact p1
   .rw[cS (Ne.symm nD)];exact D
  have I2:∀(k:Nat) (H:ah),c<=k->k<w->H=(u.loop rec).put m ((ma n a own c k).map im)->∃H',W2.round (F h.aI) [im (k:Nat),im (al own k)] H=J (.ret (aa:V),H')/\H'=(u.loop rec).put m ((ma n a own c (k+1)).map im):=by
   rintro k H Fk IN rfl;refine Qt (Post:=λH=>H=(u.loop rec).put m ((ma n a own c (k+1)).map im)) nW (by rw[w2];rfl) w5 w6 ?_;have kq:=ahy (n:=n) (own:=own) Fk (af:k<F a);have cat:al (ma n a own c k) k=al a k:=(by rw[ED af,aV af]);have r1:∀t,(oe (F h.aI) rec [im (k:Nat),im (al own k)]).get t=if 27=t then im (al own k) else if 26=t then im (k:Nat) else e.get t:=λt=>J7 w2 w1
   have d1:(oe (F h.aI) rec [im (k:Nat),im (al own k)]).defers=[]:=rfl;obtain⟨K,R⟩:∃K,((u.loop rec).put m ((ma n a own c k).map im)).busy (F h.aI) rec=K:=⟨_,O⟩;rw[R];have b1:K.I[m]?=J ((ma n a own c k).map im):=(by rw[<-R];exact dM qr);have b2:K.I[F h.I]?=J [.arr o 0 (F B) (F B)]:=(by rw[<-R];exact(cS af).trans p3);have b3:K.I[F h.I+1]?=J [im (i:Nat)]:=(by rw[<-R];exact(cS af).trans p4);have b4:K.I[F d.I]?=J [im n]:=(by rw[<-R];exact(cS af).trans p0);have b5:K.I[o]?=J (B.map λb=>V.arr b 0 w w):=(by rw[<-R];exact(cS akY).trans N.iC);have m1:=wz b1 (vn (r:=ma n a own c k) (k:=k) (by rw[rK];omega));rw[cat]at m1;have m2:=vk b2;have m3:=mh b3;have m4:=mh b4;have m5:=rn b5 Wq;have FL:=oO (b:=m) (len:=w) (ba:=w) (k:=.i64) IN;have sk:=vB (r:=ma n a own c k) (k:=k) (x:=jj n (al a k) (al own k)) b1 (by rw[rK];omega);rw[kq]at sk;have tW:=wH (ph z.1 k);have ok2:=wH (ph z.2 k);have f1:=λh=>Py n (al own k) h;have f2:=λh=>S5 (al a k) (0-cV n (al own k)) h;have f3:=wH (EP n (al own k));have fl:jj n (al a k) (al own k)=cX (al a k) (0-cV n (al own k)):=(by rw[Int.zero_sub];rfl);rw[fl]at sk;generalize cV n (al own k)=z5 at *
   generalize al a k=z1 at *
   generalize al own k=z2 at *
   clear IP g25 C D p0 p1 p2 p3 p4 X kM2 kT2 kT ko cat VN N b1 b2 b3 b4 b5 kq fl z;unfold im at *
   rw[w3,w4];refine xO ?_;refine⟨br,br,?_⟩;refine bM.gen λe2 A jQ oL Cs=>?_;have q4:e2.get 4=.ptr (.box (F h.I)) 0:=(by rw[A];simp only[gW,reduceIte,aT,aN,r1];exact g4);have q5:e2.get 5=.ptr (.box (F h.I+1)) 0:=(by rw[A];simp only[gW,reduceIte,aT,aN,r1];exact g5);have q8:e2.get 8=.ptr (.box (F d.I)) 0:=(by rw[A];simp only[gW,reduceIte,aT,aN,r1];exact g8);have q9:e2.get 9=(k:Int):=(by rw[A];simp only[gW,reduceIte,aT,aN,r1]);have q10:e2.get 10=(z2:Int):=(by rw[A];simp only[gW,reduceIte,aT,aN,r1]);clear A jQ oL Cs r1 d1
   repeat' (first|simp(maxSteps:=9999999) (disch:=first|exact dZ|fail) only[gW,reduceIte,aT,aN, *]|(refine dX ?_ ?_<;>(intro _;try omega))|refine dW xz aB ?_)
   rw[<-R];simp only[ah.put,ah.busy,ah.loop,D'];exact⟨br,br,br⟩
  obtain⟨h',c1,c2⟩:=S8 (F h.aI) (F d.I+1+1) (F d.I+1) p w c own (λk H=>H=(u.loop rec).put m ((ma n a own c k).map im)) I1 I2 af hw ((u.loop rec).put m ((ma n a own c c).map im)) O;have e3:u.loop rec=(u.loop rec).put m ((ma n a own c c).map im):=by rw[ahz];exact(ju (h:=u.loop rec) C).symm
  rw[<-e3]at c1;subst c2;clear e3;refine⟨_,_,c1,rec,nW,by rw[w5];decide,.inl ⟨w6,?_⟩⟩;clear c1 w1 w2 w3 w4 w5 w6 nW C D p0 p1 p2 p3 p4 X kM2 kT2 kT ko;refine bD @QD ?_;refine⟨_,O,?_,λn0=>(((VN n0).CQ _).trans (.put (dy v) _)).fV (bh _) _⟩;have T5:=jh.set (H:=u.loop rec) (N.mono λ_ _ z0=>z0) v (r:=ma n a own c w) (by rw[rK];exact wa);exact T5.mono λ_ _ z0=>z0
end Go.Proofs.YtcbhpkjbiehcpaaGreatDoor
end
