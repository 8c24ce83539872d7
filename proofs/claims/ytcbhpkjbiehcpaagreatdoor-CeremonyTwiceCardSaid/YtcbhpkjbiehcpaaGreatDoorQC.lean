/-
  The engine, part 47: lists that grow.
-/
import Derived.Test.YtcbhpkjbiehcpaaGreatDoorQB
open True renaming intro->aX
open Go.Proofs.Tryz renaming prog->aa,underlying60->lQ,underlying29->KE,underlying3->jF,func247->abL,underlying23->cU,underlying9->An,underlying116->lO,func210->Rd,func225->Re,func226->Rf,func227->abJ,func173->Rc
open Option renaming some->J,none->ag,bind_some->iR,map_some->fF,some.injEq->dt,map_map->Ku
open List renaming length->F,replicate->bB,set_set->CK,set_eq_take_append_cons_drop->xT,getElem?_eq_some_iff->aT,length_map->br,take->QO,take_of_length_le->ga,map_drop->aaY,length_drop->eC,mem_cons->gU,not_mem_nil->qJ,take_succ_cons->dw,take_zero->cX,drop_zero->gG,drop_succ_cons->tf,head?_cons->xQ,mem_singleton->ig,set_cons_zero->aa7,range->bZ,drop_of_length_le->nq,append_nil->gj,take_append_drop->pX,length_append->ck,length_take->cR,getElem_map->th,getElem_range->Ka,append_assoc->iO,set_append_right->FQ,drop_drop->pW,drop_append_of_le_length->aaM,length_cons->ef,length_replicate->mw,nil_append->dO,map_congr_left->CG,mem_range->ie,drop_replicate->J8,replicate_succ->CJ,map_append->jQ,map_cons->eI,drop_append->xP,all_eq_true->eJ,mem_map->jg,getElem?_map->ec,getD_eq_getElem?_getD->eK,getElem?_eq_getElem->aP,take_left'->qK,cons_append->ey,length_set->nr,flatten_cons->jP,length_nil->f_,getElem?_toArray->iQ,getElem?_cons_zero->iP,getElem?_cons_succ->jE,flatten_append->oC,take_length->fK,mem_of_getElem?->cT,mem_flatten->Ke,mem_cons_self->gH,head?_drop->FO,getElem?_set->lM,map_set->aaZ,getElem?_take->mM,getElem?_drop->o0,mem_filter->uU,ext_getElem?->oh,mem_cons_of_mem->gx,ext_getElem->FN,mem_or_eq_of_mem_set->uV,getElem_mem->i_,eq_of_mem_replicate->QG,getElem?_replicate->aaR,contains_iff_mem->J7,mem_iff_getElem->wC
open Nat renaming reduceEqDiff->aH,zero_le->bY,le_refl->aV,sub_zero->abu,sub_self->qL,mul_one->jS,min_eq_left->CO,zero_add->oj,le_trans->e8,mul_zero->abo,beq->hy,ble->Kk,eq_of_beq_eq_true->lN,le_of_ble_eq_true->jR,mul_le_mul->jt,eq_zero_or_pos->Kl,and_two_pow_sub_one_eq_mod->abd,pow_succ->xW,mul_pos->Ko,pow_pos->Kq,mod_lt->kC,add_mul->js,mod_eq_of_lt->mS,pow_le_pow_right->abq,lt_of_lt_of_le->my,lt_succ_of_lt->Kn,lt_or_ge->dp
open Int renaming toNat_natCast->fD,fdiv_eq_ediv_of_nonneg->Qq,sub_zero->CB,natCast_zero->qG
open Go renaming TypeId->aF,Program->bk,FuncId->aR,Value->aG
open Bool renaming true->V,false->ah,and_eq_true->bm
open And renaming intro->aj
open Prod renaming mk.injEq->cL,fst->dM
set_option maxHeartbeats 64000000
set_option maxRecDepth 100000
set_option linter.unusedSimpArgs false
set_option linter.unusedVariables false
set_option linter.constructorNameAsVariable false
set_option linter.defProp false
section
namespace Go.Proofs.YtcbhpkjbiehcpaaGreatDoor
open Go.AE Go.NT
def wc{t}{x y}{u}:cy aa .shr t x y (bM u) (.v (.int .u64 3))=J (bM (u>>>3)):=rz (n:=3) aY
def v_{t}{x y}{u}:cy aa .shr t x y (bM u) (.v (.int .u64 10))=J (bM (u>>>10)):=rz (n:=10) aY
def Gg{s}(d:F s=8):(U.agg (er s)).bF=J (er s):=by obtain⟨a,b,c,g,e,f,m,j,rfl⟩:=eight d;rfl
def Z9(n):er (bB n 0#32)=bB n (bM 0#32):=by simp[er]
def tQ{R}{c}{e}{h}{o}{m}{d}(g:∀Q,bC R c e h (zG o m Q)):bC R c e h (zG o m d):=g d
def Iz{h:Heap}{b}{xs d}:(h.put b xs).put b d=h.put b d:=by unfold Heap.put;simp only[CK]
def ldp{H:Heap}{b k}{cs}(d:b<F H.boxes):aD aa Gt (H.put b cs) 69 (.ptr (.box b) k)=(cs.drop k).head?:=fm CU (dh d)
def stp{H:Heap}{b k}{cs}{x:eG}(g:b<F H.boxes)(d:k+1<=F cs):bV aa (H.put b cs) 69 (.ptr (.box b) k) (bM x)=J (H.put b (cs.set k (bM x))):=by rw[fC (xs:=[bM x]) O wd (dh g) O d,Iz];congr 2;unfold dC;rw[xT,av (show k<F cs from d)];simp
def ar3{b}:gw aa 257 (.ptr (.box b) 0) (J (.v (.int .i64 1))) ag ag=J (.arr b 1 7 7):=am
def ar4{b}:gw aa 257 (.ptr (.box b) 0) ag (J (.v (.int .i64 7))) ag=J (.arr b 0 7 8):=am
def afD{H}{b}{a0 g m o p q u z}(v:H.boxes[b]?=J [a0,g,m,o,p,q,u,z]):wO aa H #[68,68] (.arr b 1 7 7) (.arr b 0 7 8)=J (.v (.int .i64 7),H.put b [a0,a0,g,m,o,p,q,u]):=by
 have C:jL H 1 (.arr b 0 7 8)=J [[a0],[g],[m],[o],[p],[q],[u]]:=by show rowsOf H 1 (.arr b 0 7 8)=_;unfold rowsOf;simp only[v];rfl
 have B:∃i,aa.info? 69=J i/\i.size=1:=by
  have d:=wd;unfold cC at d;cases y:aa.info? 69 with
  |none=>rw[y]at d;cases d
  |some i=>rw[y]at d;exact⟨i,O,by simpa using d⟩
 obtain⟨i,A,h2⟩:=B;have D:((#[68,68]:Array Nat)[0]?).bind aa.underlying=J (.slice 69):=am;unfold wO;rw[D];simp only[A,h2,C,v];rfl
def KF(s:List eG)(b:List UInt8)(p:Nat)(x:U)(h:Heap)(D:F s=8)(hb:64<=F b)(Z:h.boxes[p]?=J (er s))
 (hx:∀H,ff p h.tn h H->dz 1 H x (bJ b)):
 ∃h',W.call 245 [.ptr (.box p) 0,x] h=J (.ret (.tuple []),h')/\h'.boxes[p]?=J (er (yb s b))/\ff p h.tn h h':=by
 have kX:=ae.mk hx;clear hx;have avK:=(aT.1 Z).1;have kz:=ae.mk (auu b);have z242:=auJ;refine gI O Tryz.func245 O ?_
 repeat' (first|simp(maxSteps:=9999999) (disch:=first|exact dZ|fail) only[gW,reduceIte,aH,aC,oT,bE, *]|refine dX ?_ ?_<;>(intro _;try omega))
 refine b_ (λz0 e H=>∃i:Nat,i<=16/\z0=16-i/\e.get 0=.ptr (.box p) 0/\e.get 1=x/\e.get 4=.ptr (.box (F h.boxes)) 0/\e.get 14=.v (.int .i64 i)/\e.defers=[]/\H.boxes[h.boxes.length]?=J (er (wl b i))/\H.boxes[p]?=J (er s)/\ff p h.tn h H) ?_ 16 _ _ ?_;rotate_left 1
 .refine⟨0,bY _,O,?_,?_,?_,?_,?_,?_,aN Z,(ff.refl _ _ _).push _⟩
  iterate 5 (first|assumption|(exact gR))
  rw[kz.out];exact aK _ _
 clear z242 kz;rintro z0 e H ⟨i,z,rfl,g0,g1,g4,g14,hd,m,d,u⟩;have v:=ae.mk u;have R:=u.len;clear u;by_cases Y:i=16;rotate_left 1
 .refine tQ λQ=>?_;have q:i<16:=by omega
  have HH:=kX.out H v.out;obtain⟨z4,y1,y2⟩:=HH.slice (t:=60) (lo:=J (.v (.int .i64 ((4*i:Nat):Int)))) (hi:=ag) (l:=4*i) (m:=b.length) aY lQ rB (.inl ⟨O,by rw[br]⟩) (.inr ⟨.i64,O⟩) M;have y3:dz 1 H z4 (bJ (b.drop (4*i))):=by have e:(QO (F b) (bJ b)).drop (4*i)=bJ (b.drop (4*i)):=(by rw[ga (by rw[br];exact aV _),<-aaY]);rw[<-e];exact y2
  have cw:=auw _ z4 H y3 (by rw[eC];omega);rw[auv]at cw;have e4:IntKind.i64.wrap (4*((i:Nat):Int))=((4*i:Nat):Int):=by rw[jm M M];omega
  have st:=λz1=>PG (x:=z1) m (n:=i) (by rw[Cp M];omega);have gZ:=λz1 hz=>Z' (b:=b) (i:=i) (x:=z1) M hz;have B:=gZ (wg b (4*i)) (by rw[av q]);have kst:=ae.mk B;have qp:=(aT.1 m).1;have y:=ae.mk d;clear gZ B HH y2 y3 m d Z;have ix:=zx (b:=h.boxes.length) (n:=i) (k:=.i64) M
  repeat' (first|simp(maxSteps:=9999999) (disch:=first|exact dZ|fail) only[gW,reduceIte,aH,aC,oT, *]|refine dX ?_ ?_<;>(intro _;try omega))
  refine⟨16-(i+1),by omega,i+1,by omega,O,aX,aX,aX,O,aX,?_,?_,v.out.fI (aV _) _⟩
  .rw[kst.out];exact dh qp
  .rw[cd M];exact y.out
 subst Y;have E:=ae.mk m;have y:=ae.mk d;clear m d Z
 repeat' (first|simp(maxSteps:=9999999) (disch:=first|exact dZ|fail) only[gW,reduceIte,aH,aC,oT, *]|refine dX ?_ ?_<;>(intro _;try omega))
 refine b_ (λz0 e H=>∃i:Nat,16<=i/\i<=64/\z0=64-i/\e.get 0=.ptr (.box p) 0/\e.get 4=.ptr (.box (F h.boxes)) 0/\e.get 6=.v (.int .i64 i)/\e.defers=[]/\H.boxes[h.boxes.length]?=J (er (wl b i))/\H.boxes[p]?=J (er s)/\ff p h.tn h H) ?_ 48 _ _ ?_;rotate_left 1
 .refine⟨16,by decide,by decide,O,?_,?_,?_,?_,E.out,y.out,v.out⟩<;>(first|assumption|(exact gR))
 clear E y v g0 g1 g4 g14 hd R z;rintro z0 e H ⟨i,aiz,z,rfl,g0,g4,g6,hd,m,d,u⟩;have v:=ae.mk u;have R:=u.len;clear u;by_cases Y:i=64;rotate_left 1
 .refine tQ λQ=>?_;have l0:=zC m (n:=i-16) (by rw[Cp z];omega);have l1:=zC m (n:=i-15) (by rw[Cp z];omega);have l2:=zC m (n:=i-7) (by rw[Cp z];omega);have l3:=zC m (n:=i-2) (by rw[Cp z];omega);rw[aut M]at l0 l1 l2 l3;have i0:=zx (b:=h.boxes.length) (n:=i-16) (k:=.i64) M;have i1:=zx (b:=h.boxes.length) (n:=i-15) (k:=.i64) M;have i2:=zx (b:=h.boxes.length) (n:=i-7) (k:=.i64) M;have i3:=zx (b:=h.boxes.length) (n:=i-2) (k:=.i64) M;have i4:=zx (b:=h.boxes.length) (n:=i) (k:=.i64) M;have e0:IntKind.i64.wrap (((i:Nat):Int)-16)=((i-16:Nat):Int):=by rw[jm M M];omega
  have e1:IntKind.i64.wrap (((i:Nat):Int)-15)=((i-15:Nat):Int):=by rw[jm M M];omega
  have e2:IntKind.i64.wrap (((i:Nat):Int)-7)=((i-7:Nat):Int):=by rw[jm M M];omega
  have e3:IntKind.i64.wrap (((i:Nat):Int)-2)=((i-2:Nat):Int):=by rw[jm M M];omega
  have st:=λz1=>PG (x:=z1) m (n:=i) (by rw[Cp z];omega);have B:=Z' (b:=b) (i:=i) (x:=Ic (j_ b i) i) M (by rw[aL M]);unfold Ic at B;have kst:=ae.mk B;have r7:=λH=>apO (et (j_ b i) (i-15)) H;have r18:=λH=>apI (et (j_ b i) (i-15)) H;have r17:=λH=>apH (et (j_ b i) (i-2)) H;have r19:=λH=>apJ (et (j_ b i) (i-2)) H;have E:=ae.mk m;have y:=ae.mk d;clear B m d
  repeat' (first|simp(maxSteps:=9999999) (disch:=first|exact dZ|fail) only[gW,reduceIte,aH,aC,oT,oA,om,wc,v_, *]|refine dX ?_ ?_<;>(intro _;try omega))
  refine rx am ?_
  repeat' (first|simp(maxSteps:=9999999) (disch:=first|exact dZ|fail) only[gW,reduceIte,aH,aC,oT,oA,om,wc,v_, *]|refine dX ?_ ?_<;>(intro _;try omega))
  refine Jb [6,8,20,22] [] am ?_ (λz3 hp=>nomatch hp) ?_
  .intro k T;simp only[gU,qJ,or_false]at T;rcases T with rfl|rfl|rfl|rfl
   .refine Ax (x:=bM (NT.e7 (et (j_ b i) (i-15)) 7)) O O ?_ ?_
    .simp only[dw,cX]
     repeat' (first|simp(maxSteps:=9999999) (disch:=first|exact dZ|fail) only[gW,reduceIte,aH,aC, *]|refine dX ?_ ?_<;>(intro _;try omega))
     exact⟨by trivial,λ_=>by trivial⟩
    .repeat' (first|simp(maxSteps:=9999999) (disch:=first|exact dZ|fail) only[gW,reduceIte,aH,aC,oA,om,wc,v_, *]|refine dX ?_ ?_<;>(intro _;try omega))
   .refine Ax (x:=bM (NT.e7 (et (j_ b i) (i-15)) 18)) O O ?_ ?_
    .simp only[dw,cX]
     repeat' (first|simp(maxSteps:=9999999) (disch:=first|exact dZ|fail) only[gW,reduceIte,aH,aC, *]|refine dX ?_ ?_<;>(intro _;try omega))
     exact⟨by trivial,λ_=>by trivial⟩
    .repeat' (first|simp(maxSteps:=9999999) (disch:=first|exact dZ|fail) only[gW,reduceIte,aH,aC,oA,om,wc,v_, *]|refine dX ?_ ?_<;>(intro _;try omega))
   .refine Ax (x:=bM (NT.e7 (et (j_ b i) (i-2)) 17)) O O ?_ ?_
    .simp only[dw,cX]
     repeat' (first|simp(maxSteps:=9999999) (disch:=first|exact dZ|fail) only[gW,reduceIte,aH,aC,oA,om,wc,v_, *]|refine dX ?_ ?_<;>(intro _;try omega))
     exact⟨by trivial,λ_=>by trivial⟩
    .repeat' (first|simp(maxSteps:=9999999) (disch:=first|exact dZ|fail) only[gW,reduceIte,aH,aC,oA,om,wc,v_, *]|refine dX ?_ ?_<;>(intro _;try omega))
   .refine Ax (x:=bM (NT.e7 (et (j_ b i) (i-2)) 19)) O O ?_ ?_
    .simp only[dw,cX]
     repeat' (first|simp(maxSteps:=9999999) (disch:=first|exact dZ|fail) only[gW,reduceIte,aH,aC,oA,om,wc,v_, *]|refine dX ?_ ?_<;>(intro _;try omega))
     exact⟨by trivial,λ_=>by trivial⟩
    .repeat' (first|simp(maxSteps:=9999999) (disch:=first|exact dZ|fail) only[gW,reduceIte,aH,aC,oA,om,wc,v_, *]|refine dX ?_ ?_<;>(intro _;try omega))
  repeat' (first|simp(maxSteps:=9999999) (disch:=first|exact dZ|fail) only[gW,reduceIte,aH,aC,oT,oA,om,wc,v_, *]|refine dX ?_ ?_<;>(intro _;try omega))
  refine⟨64-(i+1),by omega,i+1,by omega,by omega,O,aX,aX,O,aX,?_,?_,v.out.fI (aV _) _⟩
  .rw[kst.out];exact dh (aT.1 E.out).1
  .rw[cd M];exact y.out
 subst Y;rw[aus]at m;have a230:=F5;have s230:=Cn;have lds:aD aa Gt H 257 (.ptr (.box p) 0)=J (.agg (er s)):=by
  have X:F (er s)=8:=by rw[br];exact D
  rw[fR F5 Cn d (by rw[X];exact aV _),gG,ga (by rw[X];exact aV _)]
 have cs8:(U.agg (er s)).bF=J (er s):=Gg D;have zz:(fW aa 257).bind U.bF=J (er (bB 8 0#32)):=by rw[Z9];exact aaa
 have spz:∀H:Heap,bV aa (H.push (er (bB 8 0#32))) 257 (.ptr (.box (F H.boxes)) 0) (.agg (er s))=J (H.push (er s)):=λH=>lJ (Gg D) Cn (by rw[br];exact D) (by rw[br];rfl);have qp:=(aT.1 m).1;have E:=ae.mk m;have y:=ae.mk d;clear m d;have u:=v.out
 repeat' (first|simp(maxSteps:=9999999) (disch:=first|exact dZ|fail) only[gW,reduceIte,aH,aC,oT, *]|refine dX ?_ ?_<;>(intro _;try omega))
 refine b_ (λz0 e N=>∃i:Nat,i<=64/\z0=64-i/\e.get 0=.ptr (.box p) 0/\e.get 4=.ptr (.box (F h.boxes)) 0/\e.get 9=.ptr (.box (F H.boxes)) 0/\e.get 69=.v (.int .i64 i)/\e.defers=[]/\N.boxes[h.boxes.length]?=J (er (j_ b 64))/\N.boxes[p]?=J (er s)/\N.boxes[H.boxes.length]?=J (er (vF s b i))/\ff p h.tn h N) ?_ 64 _ _ ?_;rotate_left 1
 .refine⟨0,by decide,O,?_,?_,?_,?_,?_,aN E.out,aN y.out,aK _ _,v.out.push _⟩<;>(first|assumption|(exact gR))
 clear E y v g0 g4 g6 hd lds cs8 zz spz z aiz u;have hHL:F h.boxes<F H.boxes:=qp;generalize Ei:F H.boxes=o at *
 clear Ei qp R;rintro z0 e H ⟨i,z,rfl,g0,g4,g9,g69,hd,m,d,C,u⟩;have v:=ae.mk u;have R:=u.len;clear u;by_cases Y:i=64;rotate_left 1
 .refine tQ λQ=>?_;have q:i<64:=by omega
  have lw:=zC m (n:=i) (by rw[Fc];exact q);have lk:=λH=>akx (H:=H) q;have iw:=zx (b:=h.boxes.length) (n:=i) (k:=.i64) q;have ik:=ajT (g:=1) (n:=i) (k:=.i64) q;have kR:=ae.mk (Z5 s b i);obtain⟨v0,v1,v2,v3,v4,v5,v6,v7,Bg⟩:=eight (P9 b D i);have kE:=ae.mk (apS (j_ b 64) _ i _ _ _ _ _ _ _ _ Bg);rw[Bg]at C;have r1:=λH=>apQ v4 H;have r2:=λH=>apP v0 H;have xm:H.boxes[o]?=J [bM v0,bM v1,bM v2,bM v3,bM v4,bM v5,bM v6,bM v7]:=C;have E:=ae.mk m;have y:=ae.mk d;clear m d C Bg;have j0:dK aa 257 (.ptr (.box o) 0) (.v (.int .i64 0))=J (.ptr (.box o) 0):=vC (n:=0) aY;have j1:dK aa 257 (.ptr (.box o) 0) (.v (.int .i64 1))=J (.ptr (.box o) 1):=vC (n:=1) aY;have j2:dK aa 257 (.ptr (.box o) 0) (.v (.int .i64 2))=J (.ptr (.box o) 2):=vC (n:=2) aY;have j4:dK aa 257 (.ptr (.box o) 0) (.v (.int .i64 4))=J (.ptr (.box o) 4):=vC (n:=4) aY;have j5:dK aa 257 (.ptr (.box o) 0) (.v (.int .i64 5))=J (.ptr (.box o) 5):=vC (n:=5) aY;have j6:dK aa 257 (.ptr (.box o) 0) (.v (.int .i64 6))=J (.ptr (.box o) 6):=vC (n:=6) aY;have j7:dK aa 257 (.ptr (.box o) 0) (.v (.int .i64 7))=J (.ptr (.box o) 7):=vC (n:=7) aY;have pI:=(aT.1 xm).1;have a42:=CU;have s42:=wd;have cp:=afD xm;have sla:=ar3 (b:=o);have slb:=ar4 (b:=o)
  repeat' (first|simp(maxSteps:=9999999) (disch:=first|exact dZ|fail) only[gW,reduceIte,aH,aC,oT,oA,om,CW,oz,tf,gG,xQ, *]|refine dX ?_ ?_<;>(intro _;try omega))
  refine Jb [4] [] am ?_ (λz3 hp=>nomatch hp) ?_
  .intro k T;simp only[ig]at T;subst T;refine Ax (x:=bM (NT.e7 v4 6^^^NT.e7 v4 11^^^NT.e7 v4 25)) O O ?_ ?_
   .simp only[dw,cX]
    repeat' (first|simp(maxSteps:=9999999) (disch:=first|exact dZ|fail) only[gW,reduceIte,aH,aC,tf,gG,xQ, *]|refine dX ?_ ?_<;>(intro _;try omega))
    exact⟨by trivial,λ_=>by trivial⟩
   .repeat' (first|simp(maxSteps:=9999999) (disch:=first|exact dZ|fail) only[gW,reduceIte,aH,aC,oA,om,CW,oz,tf,gG,xQ, *]|refine dX ?_ ?_<;>(intro _;try omega))
  repeat' (first|simp(maxSteps:=9999999) (disch:=first|exact dZ|fail) only[gW,reduceIte,aH,aC,oT,oA,om,CW,oz,tf,gG,xQ, *]|refine dX ?_ ?_<;>(intro _;try omega))
  refine Jb [2] [] am ?_ (λz3 hp=>nomatch hp) ?_
  .intro k T;simp only[ig]at T;subst T;refine Ax (x:=bM (NT.e7 v0 2^^^NT.e7 v0 13^^^NT.e7 v0 22)) O O ?_ ?_
   .simp only[dw,cX]
    repeat' (first|simp(maxSteps:=9999999) (disch:=first|exact dZ|fail) only[gW,reduceIte,aH,aC,tf,gG,xQ, *]|refine dX ?_ ?_<;>(intro _;try omega))
    exact⟨by trivial,λ_=>by trivial⟩
   .repeat' (first|simp(maxSteps:=9999999) (disch:=first|exact dZ|fail) only[gW,reduceIte,aH,aC,oA,om,CW,oz,tf,gG,xQ, *]|refine dX ?_ ?_<;>(intro _;try omega))
  repeat' (first|simp(maxSteps:=9999999) (disch:=first|exact dZ|fail) only[gW,reduceIte,aH,aC,oT,oA,om,CW,oz,tf,gG,xQ, *]|refine dX ?_ ?_<;>(intro _;try omega))
  refine rx am ?_;clear xm
  repeat' (first|simp(maxSteps:=9999999) (disch:=first|exact dZ|fail) only[gW,reduceIte,aH,aC,oT,ldp,stp,Iz,om,tf,gG,xQ,aa7,List.set_cons_succ, *]|refine dX ?_ ?_<;>(intro _;try omega))
  refine⟨64-(i+1),by omega,i+1,by omega,O,aX,aX,aX,O,aX,?_,?_,?_,v.out.fI M _⟩
  .rw[cd M];exact E.out
  .rw[cd M];exact y.out
  .rw[dh pI,kR.out,kE.out];rfl
 subst Y;have UG:yb s b=List.zipWith (·+·) s (vF s b 64):=rfl;rw[UG];have X:=P9 b D 64;generalize vF s b 64=z2 at *
 have pI:=(aT.1 C).1;have y:=ae.mk d;have kv:=ae.mk C;clear m d C UG
 repeat' (first|simp(maxSteps:=9999999) (disch:=first|exact dZ|fail) only[gW,reduceIte,aH,aC,oT, *]|refine dX ?_ ?_<;>(intro _;try omega))
 refine b_ (λz0 e N=>∃i:Nat,i<=8/\z0=8-i/\e.get 0=.ptr (.box p) 0/\e.get 9=.ptr (.box o) 0/\e.get 129=.v (.int .i64 i)/\e.defers=[]/\N.boxes[p]?=J (er (wj s z2 i))/\N.boxes[o]?=J (er z2)/\ff p h.tn h N) ?_ 8 _ _ ?_;rotate_left 1
 .refine⟨0,by decide,O,?_,?_,?_,?_,y.out,kv.out,v.out⟩<;>(first|assumption|(exact gR))
 clear y kv v g0 g4 g9 g69 hd R z;rintro z0 e H ⟨i,z,rfl,g0,g9,g129,hd,d,C,u⟩;have v:=ae.mk u;clear u;by_cases Y:i=8;rotate_left 1
 .refine tQ λQ=>?_;have q:i<8:=by omega
  have hz:=auX D X z;have l1:=zC d (n:=i) M;have l2:=zC C (n:=i) M;rw[auW D X q]at l1;have j1:=vC (b:=p) (n:=i) (k:=.i64) q;have j2:=vC (b:=o) (n:=i) (k:=.i64) q;have st:=PG (x:=et s i+et z2 i) d (n:=i) M;rw[auY D X q]at st;have qX:=(aT.1 d).1;have kv:=ae.mk C;clear d C
  repeat' (first|simp(maxSteps:=9999999) (disch:=first|exact dZ|fail) only[gW,reduceIte,aH,aC,oT, *]|refine dX ?_ ?_<;>(intro _;try omega))
  refine rx am ?_
  repeat' (first|simp(maxSteps:=9999999) (disch:=first|exact dZ|fail) only[gW,reduceIte,aH,aC,oT,om, *]|refine dX ?_ ?_<;>(intro _;try omega))
  refine⟨8-(i+1),by omega,i+1,by omega,O,aX,aX,O,aX,dh qX,?_,v.out.trans (.put _ _ _ _)⟩;rw[cd M];exact kv.out
 subst Y;rw[auV D X]at d;have y:=ae.mk d;clear d C
 repeat' (first|simp(maxSteps:=9999999) (disch:=first|exact dZ|fail) only[gW,reduceIte,aH,aC,oT, *]|refine dX ?_ ?_<;>(intro _;try omega))
 exact⟨_,O,y.out,v.out⟩
def Pb:Tryz.f246.results.toList=[]:=am
def afJ(n)(h):kL aa h 69 238 (.v (.int .u32 n))=J (.v (.int .u64 (IntKind.u64.wrap n)),h):=am
def pu(n)(h):kL aa h 3 238 (.v (.int .i64 n))=J (.v (.int .u64 (IntKind.u64.wrap n)),h):=am
def Db(n)(h):kL aa h 238 5 (.v (.int .u64 n))=J (.v (.int .u8 (IntKind.u8.wrap n)),h):=am
def cP(b:UInt8):U:=.v (.int .u8 b.toNat)
abbrev da(l:List UInt8):List U:=l.map cP
def rH(n k:Nat):List UInt8:=(bZ k).map λi=>UInt8.ofNat (n/256^(k-1-i))
def KX(n k):F (rH n k)=k:=by simp[rH]
def ss(cs:List U)(off len n i:Nat):List U:=cs.take (off+len-i)++da ((rH n len).drop (len-i))++cs.drop (off+len)
def anE{cs}{off len n}:ss cs off len n 0=cs:=by unfold ss;rw[abu,abu,nq (by rw[KX];exact aV _)];show QO (off+len) cs++[]++_=_;rw[gj,pX]
def anC{cs}{off len n i}(hi:i<=len)(d:off+len<=F cs):F (ss cs off len n i)=F cs:=by unfold ss;simp only[ck,cR,br,eC,KX];omega
def anD{cs}{off len n i}(hi:i<len)(q:off+len<=F cs):(ss cs off len n i).set (off+(len-1-i)) (cP (UInt8.ofNat (n/256^i)))=ss cs off len n (i+1):=by
 unfold ss;have g:off+len-i=(off+(len-1-i))+1:=by omega
 have m:off+len-(i+1)=off+(len-1-i):=by omega
 have d:off+(len-1-i)<F cs:=by omega
 have o:(rH n len).drop (len-(i+1))=UInt8.ofNat (n/256^i)::(rH n len).drop (len-i):=by
  rw[List.drop_eq_getElem_cons (by rw[KX];omega)];congr 1
  .unfold rH;rw[th,Ka];congr 3;omega
  .congr 1;omega
 rw[g,m,o,List.take_succ_eq_append_getElem d];generalize p:cs[off+(len-1-i)]=z;rw[iO,iO,FQ _ _ (by rw[cR];omega),cR,show off+(len-1-i)-min (off+(len-1-i)) (F cs)=0 by omega];simp
def zK(cs:List U)(off len n:Nat):List U:=cs.take off++da (rH n len)++cs.drop (off+len)
def anB{cs}{off len n}:ss cs off len n len=zK cs off len n:=by unfold ss zK;rw[qL,gG,Nat.add_sub_cancel]
def V9{b off len aS n}{k}(d:n<len):dK aa 60 (.arr b off len aS) (.v (.int k (n:Nat)))=J (.ptr (.box b) (off+n)):=by rw[Bm lQ rB M M,fD,jS]
def PQ{H}{b k}{cs}{v}(g:H.boxes[b]?=J cs)(d:k<F cs):bV aa H 5 (.ptr (.box b) k) (cP v)=J (H.put b (cs.set k (cP v))):=by rw[fC (xs:=[cP v]) O rB g O d];congr 2;unfold dC;rw[xT,av (show k<F cs from d)];simp
def at1(m):U.v (.int .u8 (IntKind.u8.wrap ((m:Nat):Int)))=cP (UInt8.ofNat m):=by unfold cP;rw[show(UInt8.ofNat m).toNat=m%256 from UInt8.toNat_ofNat'];unfold IntKind.wrap;simp[IntKind.signed,IntKind.bits]
def OM(b off len aS n:Nat)(cs:List U)(h:Heap)(Z:len<=8)(hn:n<18446744073709551616)(d:h.boxes[b]?=J cs)(m:off+len<=F cs):
 W.call 246 [.arr b off len aS,.v (.int .u64 (n:Nat))] h=J (.ret (.tuple []),h.put b (zK cs off len n)):=by
 have z:=lQ;have g:=(aT.1 d).1;have u:=ae.mk (lH d);clear d;refine cr O Tryz.func246 O ?_;refine nb @Pb ?_;refine b_ (λy e H=>∃i:Nat,i<=len/\y=len-i/\e.get 0=.arr b off len aS/\e.get 1=.v (.int .u64 (n:Nat))/\e.get 6=.v (.int .i64 (len:Nat))/\e.get 7=.v (.int .i64 i)/\e.defers=[]/\H=h.put b (ss cs off len n i)) ?_ len _ _ ?_;rotate_left 1
 .refine⟨0,bY _,O,?_,?_,?_,?_,?_,by rw[anE];exact u.out.symm⟩<;>(first|assumption|(exact gR))
 rintro y e H ⟨i,Y,rfl,E,N,R,T,X,rfl⟩;by_cases o:i=len
 .subst o;rw[anB];exact jo @Pb
 .refine tQ λQ=>?_;have p:i<len:=by omega
  have B:IntKind.i64.wrap (8*((i:Nat):Int))=((8*i:Nat):Int):=by rw[jm M M];omega
  have C:IntKind.i64.wrap (((len:Nat):Int)-1)=((len-1:Nat):Int):=by rw[jm M M];omega
  have D:IntKind.i64.wrap (((len-1:Nat):Int)-((i:Nat):Int))=((len-1-i:Nat):Int):=by rw[jm M M];omega
  have sh:∀(t:aF) (x A:Operand),cy aa .shr t x A (.v (.int .u64 (n:Nat))) (.v (.int .i64 ((8*i:Nat):Int)))=J (.v (.int .u64 ((n/256^i:Nat):Int))):=λt x A=>by rw[Au M,fD,show IntKind.u64.bits=64 from O,CO M];congr 3;rw[Qq _ (by have:(0:Int)<2^(8*i):=Int.pow_pos aY;omega)];have q:(2:Int)^(8*i)=((256^i:Nat):Int):=(by rw[Int.pow_mul];simp);rw[q];rfl
  have uv:=at1 (n/256^i);have ix:=V9 (b:=b) (off:=off) (aS:=aS) (k:=.i64) (M:len-1-i<len);have st:=PQ (H:=h.put b (ss cs off len n i)) (v:=UInt8.ofNat (n/256^i)) (k:=off+(len-1-i)) (dh g) (by rw[anC M m];omega);rw[anD p m,Iz]at st;refine LX @Pb @Db ?_;refine⟨len-(i+1),by omega,i+1,by omega,O,aX,aX,aX,O,aX,O⟩
def Gc:∀(i:Nat) (s:List eG) (b:List UInt8),iH (i+1) s b=yb (iH i s b) ((b.drop (64*i)).take 64)
 |0,s,b=>rfl
 |i+1,s,b=>by rw[iH,Gc i,iH,pW];congr 3;omega
def RY:∀(i j:Nat) (s:List eG) (b:List UInt8),iH (i+j) s b=iH j (iH i s b) (b.drop (64*i))
 |0,j,s,b=>by rw[oj];rfl
 |i+1,j,s,b=>by rw[(M:i+1+j=(i+j)+1),iH,RY i j,iH,pW];congr 2;omega
def K6:∀(i:Nat) (s:List eG) (a b:List UInt8),64*i<=F a->iH i s (a++b)=iH i s a
 |0,_,_,_,_=>rfl
 |i+1,s,a,b,h=>by rw[iH,iH,List.take_append_of_le_length M,aaM M];exact K6 i _ _ b (by rw[eC];omega)
def adU{s}{b}(d:F s=8):F (yb s b)=8:=by have:=P9 b d 64;unfold vF at this;unfold yb;simp[d,this]
def wJ:∀(i:Nat) (s:List eG) (b:List UInt8),F s=8->F (iH i s b)=8
 |0,_,_,h=>h
 |i+1,s,b,h=>wJ i _ _ (adU h)
def mY(r:Nat):Nat:=if r>55 then 128 else 64
def lW(rest:List UInt8)(n:Nat):List UInt8:=rest++0x80::bB (mY (F rest)-9-F rest) 0++Bt n
def To{rest}{n}(d:F rest<64):F (lW rest n)=mY (F rest):=by
 unfold lW mY;simp only[ck,ef,mw];have:F (Bt n)=8:=by simp[Bt]
 rw[this];split<;>omega
def amq(b):Ip b=b.take (64*(F b/64))++lW (b.drop (64*(F b/64))) (F b):=by
 unfold Ip lW;have e:Qb (F b)=mY (F (b.drop (64*(b.length/64))))-9-F (b.drop (64*(b.length/64))):=by unfold Qb mY;rw[eC];split<;>omega
 rw[e,<-iO,<-iO,pX]
def arQ(b):jr b=nF (iH (mY (F (b.drop (64*(b.length/64))))/64) (iH (F b/64) NT.start b) (lW (b.drop (64*(F b/64))) (F b))):=by
 unfold jr;have m:F (b.drop (64*(b.length/64)))<64:=by rw[eC];omega
 have d:F (b.take (64*(b.length/64)))=64*(F b/64):=by rw[cR];omega
 rw[amq,ck,To m,d,show(64*(F b/64)+mY (F (b.drop (64*(b.length/64)))))/64=F b/64+mY (F (b.drop (64*(b.length/64))))/64 by rw[Nat.mul_add_div aY]];have h2:iH (F b/64) NT.start (b.take (64*(F b/64)))=iH (F b/64) NT.start b:=by have:=K6 (F b/64) NT.start (b.take (64*(F b/64))) (b.drop (64*(F b/64))) (by rw[d];exact aV _);rw[pX]at this;exact this.symm
 have g:(b.take (64*(F b/64))).drop (64*(F b/64))=[]:=nq (by rw[d];exact aV _);rw[RY,aaM (by rw[d];exact aV _),g,dO];rw[K6 _ _ _ _ (by rw[d];exact aV _),h2]
def akG(n):rH (n*8) 8=Bt n:=by unfold rH Bt;apply CG;intro i d;rw[ie]at d;congr 2;rw[show(256:Nat)=2^8 from O,<-Nat.pow_mul]
def adl(x:eG):rH x.toNat 4=[UInt8.ofNat (x.toNat/16777216),UInt8.ofNat (x.toNat/65536),UInt8.ofNat (x.toNat/256),UInt8.ofNat x.toNat]:=by show[UInt8.ofNat (x.toNat/256^3),UInt8.ofNat (x.toNat/256^2),UInt8.ofNat (x.toNat/256^1),UInt8.ofNat (x.toNat/256^0)]=_;simp
def amk{s:List eG}{i}{x}(hi:s[i]?=J x):nF (s.take (i+1))=nF (s.take i)++rH x.toNat 4:=by rw[gg hi,adl];unfold nF;rw[List.flatMap_append];simp
def BK(s):F (nF s)=4*F s:=by
 unfold nF
 induction s with
 |nil=>rfl|cons a s d=>rw[List.flatMap_cons,ck,d];simp;omega
def mJ(l):F (da l)=F l:=br _
def agr{rest}{n}(u:F rest<64):
 zK ((da rest++(bB 128 (cP 0)).drop (F rest)).set (F rest) (cP 0x80)) (mY (F rest)-8) 8 (n*8)=da (lW rest n)++bB (128-mY (F rest)) (cP 0):=by
 have q:mY (F rest)=64∨mY (F rest)=128:=by unfold mY;split<;>omega
 have p:F rest+9<=mY (F rest):=by unfold mY;split<;>omega
 rw[J8];obtain⟨k,o⟩:∃k,128-F rest=k+1:=⟨127-F rest,by omega⟩;rw[o,CJ,FQ _ _ (by rw[mJ];exact aV _),mJ,qL,aa7];unfold zK lW;rw[akG];generalize mY (F rest)=L at *
 have g:QO (L-8) (da rest++cP 0x80::bB k (cP 0))=da (rest++0x80::bB (L-9-F rest) 0):=by rw[List.take_append,mJ,ga (by rw[mJ];omega)];obtain⟨j,d⟩:∃j,L-8-F rest=j+1:=⟨L-9-F rest,by omega⟩;rw[d,dw,List.take_replicate,CO M];unfold da;rw[jQ,eI,List.map_replicate,(M:L-9-F rest=j)]
 have m:List.drop (L-8+8) (da rest++cP 0x80::bB k (cP 0))=bB (128-L) (cP 0):=by rw[xP,mJ,nq (by rw[mJ];omega),dO];obtain⟨j,d⟩:∃j,L-8+8-F rest=j+1:=⟨L-1-F rest,by omega⟩;rw[d,tf,J8];congr 1;omega
 rw[g,m];unfold da;rw[<-jQ]
def rq:Tryz.f204.results.toList=[.cell 2 29]:=am
def KH:fH aa 29=J V:=am
def xG:cC aa 29=J 32:=am
def Qa:(fW aa 29).bind U.bF=J (bB 32 (cP 0)):=am
def akv(H):aD aa Gt H 256 (.ptr (.dA 0) 0)=J (.agg (er NT.start)):=am
def Ft(l):(U.agg (da l)).bF=J (da l):=by
 have:(da l).all U.cW=V:=by rw[eJ];intro x d;obtain⟨b,-,rfl⟩:=jg.1 d;rfl
 unfold U.bF;simp[this]
def WU(H):vJ aa H 60 (.v (.int .i64 64)) (.v (.int .i64 128))=J (.arr (F H.boxes) 0 64 128,H.push (bB 128 (cP 0))):=am
def Jz(l):(bJ l).flatten=da l:=by rw[K_];rfl
def afC{H}{eb len aS}{x}{rest}{cs}(s:dz 1 H x (bJ rest))(o:H.boxes[eb]?=J cs)(z:len<=F cs)(h2:len<=aS)(m:F rest<=len):
 wO aa H #[60,60] (.arr eb 0 len aS) x=J (.v (.int .i64 (F rest:Nat)),H.put eb (da rest++cs.drop (F rest))):=by
 have p:∃i,aa.info? 5=J i/\i.size=1:=by
  have d:=rB;unfold cC at d;cases g:aa.info? 5 with
  |none=>rw[g]at d;cases d
  |some i=>rw[g]at d;exact⟨i,O,by simpa using d⟩
 obtain⟨i,v,y⟩:=p;have u:((#[60,60]:Array Nat)[0]?).bind aa.underlying=J (.slice 5):=am;unfold wO;rw[u];simp only[v,y,s.news,o];rw[av ⟨M,h2⟩];have q:Nat.min (F (bJ rest)) len=F rest:=by rw[br];exact CO m
 rw[q,ga (by rw[br];exact aV _),Jz];have e:dC cs 0 (da rest)=da rest++cs.drop (F rest):=by unfold dC;rw[cX,dO,oj,mJ]
 rw[e];rfl
def PB{R:Heap->Prop}{q}{x}{l}(A:∀H,R H->dz 1 H x (bJ l))(h0:R q)(v:64<=F l):
 ∃y z,gw aa 60 x ag (J (.v (.int .i64 64))) ag=J y/\gw aa 60 x (J (.v (.int .i64 64))) ag ag=J z/\
  (∀H,R H->dz 1 H y (bJ (l.take 64)))/\∀H,R H->dz 1 H z (bJ (l.drop 64)):=by
 have D:∀H,R H->∃y,gw aa 60 x ag (J (.v (.int .i64 64))) ag=J y/\dz 1 H y (bJ (l.take 64)):=λH d=>by obtain⟨y,g,p⟩:=(A H d).slice (t:=60) (lo:=ag) (hi:=J (.v (.int .i64 64))) (l:=0) (m:=64) aY lQ rB (.inr ⟨.i64,O,by rw[br];exact v⟩) (.inl ⟨O,O⟩) aY;rw[gG,<-List.map_take]at p;exact⟨y,g,p⟩
 have E:∀H,R H->∃y,gw aa 60 x (J (.v (.int .i64 64))) ag ag=J y/\dz 1 H y (bJ (l.drop 64)):=λH d=>by obtain⟨y,g,p⟩:=(A H d).slice (t:=60) (lo:=J (.v (.int .i64 64))) (hi:=ag) (l:=64) (m:=l.length) aY lQ rB (.inl ⟨O,by rw[br]⟩) (.inr ⟨.i64,O⟩) v;rw[ga (by rw[br];exact aV _),<-aaY]at p;exact⟨y,g,p⟩
 obtain⟨y,g,-⟩:=D q h0;obtain⟨z,B,-⟩:=E q h0;refine⟨y,z,g,B,λH d=>?_,λH d=>?_⟩
 .obtain⟨C,o,u⟩:=D H d;rw[g]at o;cases o;exact u
 .obtain⟨C,o,u⟩:=E H d;rw[B]at o;cases o;exact u
def V8{l}{i}{k}(m:F l=8)(hi:i<8):zu aa 257 (.agg (er l)) (.v (.int k (i:Nat)))=J (bM (et l i)):=by
 have g:=Tryz.underlying257;unfold zu;rw[g];simp only[wd];rw[av ⟨M,by omega⟩];unfold EI;rw[CU];simp only[wd];rw[fD,jS];have d:i<F l:=by omega
 show(er l)[i]?=_;rw[ec,et,eK,aP d];rfl
def Ze{b i}(hi:i<8):gw aa 29 (.ptr (.box b) 0) (J (.v (.int .i64 ((4*i:Nat):Int)))) (J (.v (.int .i64 ((4*i+4:Nat):Int)))) ag=J (.arr b (4*i) 4 (32-4*i)):=by
 have m:=KE;unfold gw;rw[m];have d:gc 32 ag 32=J 32:=rfl;have h2:gc 32 (J (.v (.int .i64 ((4*i+4:Nat):Int)))) 32=J (4*i+4):=by show(if _ then _ else _)=_;rw[av ⟨M,by omega⟩,fD]
 have g:gc (4*i+4) (J (.v (.int .i64 ((4*i:Nat):Int)))) 0=J (4*i):=by show(if _ then _ else _)=_;rw[av ⟨M,by omega⟩,fD]
 simp only[rB,d,h2,g];rw[aL b8,aL M,oj,jS,(M:4*i+4-4*i=4)]
def S_{v:eG}{H}:kL aa H 69 238 (bM v)=J (.v (.int .u64 (v.toNat:Nat)),H):=by unfold bM;rw[afJ];congr 4;unfold IntKind.wrap;simp[IntKind.signed,IntKind.bits];have:=v.isLt;omega
def Zk(cs):dC cs 0 cs=cs:=by unfold dC;simp
def XB{s}(m:F s=8){i}(hi:i<8):zK (da (nF (s.take i))++bB (32-4*i) (cP 0)) (4*i) 4 (et s i).toNat=da (nF (s.take (i+1)))++bB (32-4*(i+1)) (cP 0):=by
 have d:F (da (nF (s.take i)))=4*i:=by rw[mJ,BK,cR];omega
 have g:s[i]?=J (et s i):=by unfold et;rw[eK,aP M];rfl
 unfold zK;rw[amk g,qK d,xP,d,nq M,dO,J8,(M:32-4*i-(4*i+4-4*i)=32-4*(i+1))];unfold da;rw[jQ]
def af5(b)(i):yb (iH i NT.start b) ((b.drop (64*i)).take 64)=iH (i+1) NT.start b:=(Gc i _ b).symm
def Za(b:List UInt8)(x:U)(h:Heap)(s:dz 1 h x (bJ b))(hb:F b<=1152921504606846975):
 ∃h',W.call 204 [x] h=J (.ret (.agg (da (jr b))),h')/\Ext h h':=by
 have u28:=lQ;have z177:=Qa;have zz:(fW aa 257).bind U.bF=J (er (bB 8 0#32)):=by rw[Z9];exact aaa
 have cs8:(U.agg (er NT.start)).bF=J (er NT.start):=Gg O;have spz:∀H:Heap,bV aa (H.push (er (bB 8 0#32))) 257 (.ptr (.box (F H.boxes)) 0) (.agg (er NT.start))=J (H.push (er NT.start)):=λH=>lJ (Gg O) Cn O O;have spz2:∀H:Heap,∀z0,bV aa ((H.push z0).push (er (bB 8 0#32))) 257 (.ptr (.box (F H.boxes+1)) 0) (.agg (er NT.start))=J ((H.push z0).push (er NT.start)):=λH z0=>by rw[<-bE H z0];exact spz _
 have lx:=s.len lQ;rw[br]at lx;have kS:=ae.mk s;have kSs:=ae.mk (arQ b);clear s;refine gI O Tryz.func204 O ?_;refine cK @rq @bE @akv ?_;generalize rN:(h.push (bB 32 (cP 0))).push (er NT.start)=H0;generalize m:F h.boxes+1=sb;have kx:ae (∀p,ff sb h.tn H0 p->dz 1 p x (bJ b)):=⟨λp T=>kS.out.mono λc cs A=>by have R:=(aT.1 A).1;refine T.box c cs M ?_;rw[<-rN];exact aN (aN A)⟩;have hY:H0.boxes[h.boxes.length]?=J (bB 32 (cP 0)):=by rw[<-rN];exact aN (aK _ _)
 have Bd:H0.boxes[sb]?=J (er (iH 0 NT.start b)):=by rw[<-rN,<-m];exact na (by rw[bE])
 have Ue:Ext h H0:=by rw[<-rN];exact(Ext.push _ _).trans (.push _ _)
 have avJ:F h.boxes<sb:=by omega
 have au9:F H0.boxes=sb+1:=by rw[<-rN,<-m,bE,bE]
 have kd:=ae.mk hY;have kE:=ae.mk Ue;have ks:=ae.mk Bd;clear hY Ue Bd rN m z177 zz cs8 spz spz2 kS;refine b_ (λT e H=>∃(i:Nat) (z0:U),64*i<=F b/\T=F b-64*i/\e.get 0=x/\e.get 2=.ptr (.box (F h.boxes)) 0/\e.get 3=.ptr (.box sb) 0/\e.get 4=.func (.func 245) [.ptr (.box sb) 0] []/\e.get 5=z0/\e.defers=[]/\(∀p,ff sb h.tn H0 p->dz 1 p z0 (bJ (b.drop (64*i))))/\H.boxes[sb]?=J (er (iH i NT.start b))/\ff sb h.tn H0 H) ?_ (F b) _ _ ?_;rotate_left 1
 .refine⟨0,x,bY _,O,?_,?_,?_,?_,?_,?_,kx.out,ks.out,ff.refl _ _ _⟩<;>(first|assumption|(exact gR))
 clear ks;rintro T e H ⟨i,z0,hi,rfl,g0,g2,g3,g4,g5,hd,B,m,g⟩;have ly:=(B H g).len lQ;rw[br,eC]at ly;by_cases A:64<=F b-64*i
 .refine tQ λQ=>?_;obtain⟨y1,y2,q1,q2,q3,q4⟩:=PB B g (by rw[eC];exact A);obtain⟨H2,c1,X,c3⟩:=KF _ _ sb y1 H (wJ i NT.start b O) (by rw[cR,eC];omega) m (λp T=>q3 p (g.trans (T.sO (e8 kE.out.tn g.tn))));rw[af5]at X;have kM:=ae.mk (g.trans (c3.sO (e8 kE.out.tn g.tn)));have kq:=ae.mk q4;have k2:=ae.mk X;clear g X c3 q3 q4 B m;refine cK @rq @ey.{0} @dO.{0} ?_;refine⟨F b-64*(i+1),by omega,i+1,y2,by omega,O,aX,aX,aX,aX,O,aX,?_,k2.out,kM.out⟩;rw[(M:64*(i+1)=64*i+64),<-pW];exact kq.out
 have vn:F b/64=i:=by omega
 have Z:=ae.mk kSs.out;rw[vn]at Z;have l_:F (b.drop (64*i))<64:=by rw[eC];omega
 have Bb:F b-64*i=F (b.drop (64*i)):=by rw[eC]
 rw[Bb]at ly A;have h8:=wJ i NT.start b O;generalize iH i NT.start b=s1 at *
 generalize b.drop (64*i)=r at *
 clear Bb kSs;have kM:=ae.mk g;have Dv:=g.len;have Nv:=B (H.push (bB 128 (cP 0))) (g.push _);have cp:=afC (len:=64) (aS:=128) Nv (aK _ _) (by rw[mw];decide) aY M;rw[mg]at cp;have e1:IntKind.u64.wrap ((F b:Nat):Int)=((F b:Nat):Int):=by unfold IntKind.wrap;simp[IntKind.signed,IntKind.bits];omega
 have e2:IntKind.u64.wrap (((F b:Nat):Int)*8)=((F b*8:Nat):Int):=by unfold IntKind.wrap;simp[IntKind.signed,IntKind.bits];omega
 have ix:=V9 (b:=H.boxes.length) (off:=0) (aS:=128) (k:=.i64) l_;rw[oj]at ix;have L':F (da r++(bB 128 (cP 0)).drop r.length)=128:=by rw[ck,mJ,eC,mw];omega
 have st:bV aa (H.push (da r++(bB 128 (cP 0)).drop (F r))) 5 (.ptr (.box (F H.boxes)) (F r)) (.v (.int .u8 128))=J (H.push ((da r++(bB 128 (cP 0)).drop (F r)).set (F r) (cP 0x80))):=by have:=PQ (H:=H.push (da r++(bB 128 (cP 0)).drop (F r))) (v:=0x80) (aK _ _) (k:=r.length) (by rw[L'];omega);rw[mg]at this;exact this
 have hE:=agr (n:=b.length) l_;have qU:F ((da r++(bB 128 (cP 0)).drop (F r)).set (F r) (cP 0x80))=128:=by rw[nr,L']
 generalize da r++(bB 128 (cP 0)).drop (F r)=C1 at *
 generalize C1.set (F r) (cP 0x80)=C2 at *
 have kEl:=ae.mk (To (n:=b.length) l_);have pe:=λ(off aS:Nat) (ho:off+8<=128)=>OM (F H.boxes) off 8 aS (F b*8) C2 (H.push C2) aY M (aK _ _) (by rw[qU];exact ho);simp only[mg]at pe;have ks:=ae.mk m;clear Nv B g m L' qU hi vn;have hL:(F r<=55/\mY (F r)=64)∨(55<F r/\mY (F r)=128):=by unfold mY;split<;>omega
 rcases hL with⟨hr,hL⟩|⟨hr,hL⟩
 .rw[hL]at hE kEl Z;have p1:=pe 56 72 aY;rw[hE]at p1;have sl:gw aa 60 (.arr (F H.boxes) 0 64 128) (J (.v (.int .i64 (((64:Nat):Int)-8)))) ag ag=J (.arr (F H.boxes) 56 8 72):=am;clear pe hE hL;refine cK @rq @WU @pu ?_;have o:=kEl.out;generalize D:H.push (da (lW r (F b))++bB (128-64) (cP 0))=H1;generalize hz:F H.boxes=eb;have Y:H1.boxes[eb]?=J (da (lW r (F b))++bB (128-64) (cP 0)):=by rw[<-D,<-hz];exact aK _ _
  have Dx:ff sb h.tn H0 H1:=by rw[<-D];exact kM.out.push _
  have ev:H1.boxes[sb]?=J (er s1):=by rw[<-D];exact aN ks.out
  have fP:eb≠sb:=by omega
  have hR:∀p,ff sb h.tn H1 p->dz 1 p (.arr eb 0 64 128) (bJ ((lW r (F b)).drop (64*0))):=λp T=>by
   rw[abo,gG];refine⟨ye _,.inr ⟨eb,0,128,_,by rw[br,o],by rw[br,o];decide,T.box _ _ fP Y,?_,?_⟩⟩
   .rw[Jz,br,jS,gG,qK (mJ _)]
   .rw[br,ck,mJ,o,mw];decide
  have kR:=ae.mk hR;have kB:=ae.mk Y;have y:=ae.mk Dx;have kS1:=ae.mk ev;clear Y Dx ev hR D hz kM ks cp st p1 sl ix;refine b_ (λT e H=>∃(i:Nat) (z0:U),64*i<=64/\T=64-64*i/\e.get 2=.ptr (.box (F h.boxes)) 0/\e.get 3=.ptr (.box sb) 0/\e.get 4=.func (.func 245) [.ptr (.box sb) 0] []/\e.get 6=z0/\e.defers=[]/\(∀p,ff sb h.tn H1 p->dz 1 p z0 (bJ ((lW r (F b)).drop (64*i))))/\H.boxes[sb]?=J (er (iH i s1 (lW r (F b))))/\ff sb h.tn H1 H) ?_ 64 _ _ ?_;rotate_left 1
  .refine⟨0,.arr eb 0 64 128,bY _,O,?_,?_,?_,?_,?_,kR.out,kS1.out,ff.refl _ _ _⟩<;>(first|assumption|(exact gR))
  clear kR kS1 g0 g2 g3 g4 g5 hd ly A;rintro T e H ⟨i,z0,hi,rfl,g2,g3,g4,g6,hd,B,m,g⟩;have ly:=(B H g).len lQ;rw[br,eC,o]at ly;by_cases A:0<64-64*i
  .refine tQ λQ=>?_;obtain⟨y1,y2,q1,q2,q3,q4⟩:=PB B g (by rw[eC,o];omega);obtain⟨H2,c1,X,c3⟩:=KF _ _ sb y1 H (wJ i s1 _ h8) (by rw[cR,eC,o];omega) m (λp T=>q3 p (g.trans (T.sO (e8 kE.out.tn (e8 y.out.tn g.tn)))));rw[<-Gc]at X;have kM:=ae.mk (g.trans (c3.sO (e8 kE.out.tn (e8 y.out.tn g.tn))));have kq:=ae.mk q4;have k2:=ae.mk X;clear g X c3 q3 q4 B m;refine cK @rq @ey.{0} @dO.{0} ?_;refine⟨64-64*(i+1),by omega,i+1,y2,by omega,O,aX,aX,aX,O,aX,?_,k2.out,kM.out⟩;rw[(M:64*(i+1)=64*i+64),<-pW];exact kq.out
  have vn:i=64/64:=by omega
  subst vn;have Dq:=wJ (64/64) s1 (lW r (F b)) h8;generalize iH (64/64) s1 (lW r (F b))=q at *
  have z:Ext h H:=kE.out.mut (y.out.trans g) M;have d:=(y.out.trans g).box _ _ M kd.out;have C:F q=8:=Dq;have lds:aD aa Gt H 257 (.ptr (.box sb) 0)=J (.agg (er q)):=by have Ej:F (er q)=8:=(by rw[br];exact C);rw[fR F5 Cn m (by rw[Ej];exact aV _),gG,ga (by rw[Ej];exact aV _)]
  have N:=ae.mk z;have kdb:=ae.mk d;clear z d m g B y kd kB kE Dq;have kSh2:ae (jr b=nF q):=⟨Z.out⟩;clear Z;refine bh @rq ?_;refine b_ (λT e H=>∃(i:Nat),i<=8/\T=8-i/\e.get 2=.ptr (.box (F h.boxes)) 0/\e.get 53=.agg (er q)/\e.get 54=.v (.int .i64 i)/\e.defers=[]/\H.boxes[h.boxes.length]?=J (da (nF (q.take i))++bB (32-4*i) (cP 0))/\Ext h H) ?_ 8 _ _ ?_;rotate_left 1
  .refine⟨0,by decide,O,?_,?_,?_,?_,kdb.out,N.out⟩<;>(first|assumption|(exact gR))
  clear kdb N lds g2 g3 g4 g6 hd ly A;rintro T e H ⟨i,hi,rfl,g2,g53,g54,hd,d,z⟩;by_cases A:i=8
  .subst A;rw[ga M]at d;have e0:da (nF q)++bB (32-4*8) (cP 0)=da (nF q):=gj _;rw[e0,<-kSh2.out]at d;have u:F (da (jr b))=32:=(by rw[mJ,kSh2.out,BK,C]);have l177:aD aa Gt H 29 (.ptr (.box (F h.boxes)) 0)=J (.agg (da (jr b))):=(by rw[fR KH xG d (by rw[u];exact aV _),gG,ga (by rw[u];exact aV _)]);have s177:bV aa H 29 (.ptr (.box (F h.boxes)) 0) (.agg (da (jr b)))=J H:=(by rw[fC (Ft _) xG d u (by rw[u];exact aV _),Zk,lH d]);have N:=ae.mk z;clear d z;refine bh @rq ?_;exact⟨_,O,N.out⟩
  .refine tQ λQ=>?_;have R:i<8:=(by omega);have iv:=V8 (k:=.i64) C R;have e4:IntKind.i64.wrap (4*((i:Nat):Int))=((4*i:Nat):Int):=(by rw[jm M M];omega);have e5:IntKind.i64.wrap (((4*i:Nat):Int)+4)=((4*i+4:Nat):Int):=(by rw[jm M M];omega);have sl:=Ze (b:=h.boxes.length) R;have pe:=OM (F h.boxes) (4*i) 4 (32-4*i) (et q i).toNat _ H aY (by have:=(et q i).isLt;omega) d (by rw[ck,mJ,BK,cR,mw];omega);rw[XB C R]at pe;have yT:=(aT.1 d).1;have N:=ae.mk z;clear d z;refine bG @rq @S_ ?_;refine⟨8-(i+1),by omega,i+1,by omega,O,aX,aX,O,aX,dh yT,N.out.fI (aV _) _⟩
 .rw[hL]at hE kEl Z;have p1:=pe 120 8 aY;rw[hE]at p1;have sl0:gw aa 60 (.arr (F H.boxes) 0 64 128) ag (J (.v (.int .i64 128))) ag=J (.arr (F H.boxes) 0 128 128):=am;have sl:gw aa 60 (.arr (F H.boxes) 0 128 128) (J (.v (.int .i64 (((128:Nat):Int)-8)))) ag ag=J (.arr (F H.boxes) 120 8 8):=am;clear pe hE hL;refine cK @rq @WU @pu ?_;have o:=kEl.out;generalize D:H.push (da (lW r (F b))++bB (128-128) (cP 0))=H1;generalize hz:F H.boxes=eb;have Y:H1.boxes[eb]?=J (da (lW r (F b))++bB (128-128) (cP 0)):=by rw[<-D,<-hz];exact aK _ _
  have Dx:ff sb h.tn H0 H1:=by rw[<-D];exact kM.out.push _
  have ev:H1.boxes[sb]?=J (er s1):=by rw[<-D];exact aN ks.out
  have fP:eb≠sb:=by omega
  have hR:∀p,ff sb h.tn H1 p->dz 1 p (.arr eb 0 128 128) (bJ ((lW r (F b)).drop (64*0))):=λp T=>by
   rw[abo,gG];refine⟨ye _,.inr ⟨eb,0,128,_,by rw[br,o],by rw[br,o];decide,T.box _ _ fP Y,?_,?_⟩⟩
   .rw[Jz,br,jS,gG,qK (mJ _)]
   .rw[br,ck,mJ,o,mw];decide
  have kR:=ae.mk hR;have kB:=ae.mk Y;have y:=ae.mk Dx;have kS1:=ae.mk ev;clear Y Dx ev hR D hz kM ks cp st p1 sl ix;refine b_ (λT e H=>∃(i:Nat) (z0:U),64*i<=128/\T=128-64*i/\e.get 2=.ptr (.box (F h.boxes)) 0/\e.get 3=.ptr (.box sb) 0/\e.get 4=.func (.func 245) [.ptr (.box sb) 0] []/\e.get 6=z0/\e.defers=[]/\(∀p,ff sb h.tn H1 p->dz 1 p z0 (bJ ((lW r (F b)).drop (64*i))))/\H.boxes[sb]?=J (er (iH i s1 (lW r (F b))))/\ff sb h.tn H1 H) ?_ 128 _ _ ?_;rotate_left 1
  .refine⟨0,.arr eb 0 128 128,bY _,O,?_,?_,?_,?_,?_,kR.out,kS1.out,ff.refl _ _ _⟩<;>(first|assumption|(exact gR))
  clear kR kS1 g0 g2 g3 g4 g5 hd ly A;rintro T e H ⟨i,z0,hi,rfl,g2,g3,g4,g6,hd,B,m,g⟩;have ly:=(B H g).len lQ;rw[br,eC,o]at ly;by_cases A:0<128-64*i
  .refine tQ λQ=>?_;obtain⟨y1,y2,q1,q2,q3,q4⟩:=PB B g (by rw[eC,o];omega);obtain⟨H2,c1,X,c3⟩:=KF _ _ sb y1 H (wJ i s1 _ h8) (by rw[cR,eC,o];omega) m (λp T=>q3 p (g.trans (T.sO (e8 kE.out.tn (e8 y.out.tn g.tn)))));rw[<-Gc]at X;have kM:=ae.mk (g.trans (c3.sO (e8 kE.out.tn (e8 y.out.tn g.tn))));have kq:=ae.mk q4;have k2:=ae.mk X;clear g X c3 q3 q4 B m;refine cK @rq @ey.{0} @dO.{0} ?_;refine⟨128-64*(i+1),by omega,i+1,y2,by omega,O,aX,aX,aX,O,aX,?_,k2.out,kM.out⟩;rw[(M:64*(i+1)=64*i+64),<-pW];exact kq.out
  have vn:i=128/64:=by omega
  subst vn;have Dq:=wJ (128/64) s1 (lW r (F b)) h8;generalize iH (128/64) s1 (lW r (F b))=q at *
  have z:Ext h H:=kE.out.mut (y.out.trans g) M;have d:=(y.out.trans g).box _ _ M kd.out;have C:F q=8:=Dq;have lds:aD aa Gt H 257 (.ptr (.box sb) 0)=J (.agg (er q)):=by have Ej:F (er q)=8:=(by rw[br];exact C);rw[fR F5 Cn m (by rw[Ej];exact aV _),gG,ga (by rw[Ej];exact aV _)]
  have N:=ae.mk z;have kdb:=ae.mk d;clear z d m g B y kd kB kE Dq;have kSh2:ae (jr b=nF q):=⟨Z.out⟩;clear Z;refine bh @rq ?_;refine b_ (λT e H=>∃(i:Nat),i<=8/\T=8-i/\e.get 2=.ptr (.box (F h.boxes)) 0/\e.get 53=.agg (er q)/\e.get 54=.v (.int .i64 i)/\e.defers=[]/\H.boxes[h.boxes.length]?=J (da (nF (q.take i))++bB (32-4*i) (cP 0))/\Ext h H) ?_ 8 _ _ ?_;rotate_left 1
  .refine⟨0,by decide,O,?_,?_,?_,?_,kdb.out,N.out⟩<;>(first|assumption|(exact gR))
  clear kdb N lds g2 g3 g4 g6 hd ly A;rintro T e H ⟨i,hi,rfl,g2,g53,g54,hd,d,z⟩;by_cases A:i=8
  .subst A;rw[ga M]at d;have e0:da (nF q)++bB (32-4*8) (cP 0)=da (nF q):=gj _;rw[e0,<-kSh2.out]at d;have u:F (da (jr b))=32:=(by rw[mJ,kSh2.out,BK,C]);have l177:aD aa Gt H 29 (.ptr (.box (F h.boxes)) 0)=J (.agg (da (jr b))):=(by rw[fR KH xG d (by rw[u];exact aV _),gG,ga (by rw[u];exact aV _)]);have s177:bV aa H 29 (.ptr (.box (F h.boxes)) 0) (.agg (da (jr b)))=J H:=(by rw[fC (Ft _) xG d u (by rw[u];exact aV _),Zk,lH d]);have N:=ae.mk z;clear d z;refine bh @rq ?_;exact⟨_,O,N.out⟩
  .refine tQ λQ=>?_;have R:i<8:=(by omega);have iv:=V8 (k:=.i64) C R;have e4:IntKind.i64.wrap (4*((i:Nat):Int))=((4*i:Nat):Int):=(by rw[jm M M];omega);have e5:IntKind.i64.wrap (((4*i:Nat):Int)+4)=((4*i+4:Nat):Int):=(by rw[jm M M];omega);have sl:=Ze (b:=h.boxes.length) R;have pe:=OM (F h.boxes) (4*i) 4 (32-4*i) (et q i).toNat _ H aY (by have:=(et q i).isLt;omega) d (by rw[ck,mJ,BK,cR,mw];omega);rw[XB C R]at pe;have yT:=(aT.1 d).1;have N:=ae.mk z;clear d z;refine bG @rq @S_ ?_;refine⟨8-(i+1),by omega,i+1,by omega,O,aX,aX,O,aX,dh yT,N.out.fI (aV _) _⟩
def OU(z:U):∀n:Nat,(bB n [z]).flatten=bB n z
 |0=>rfl|n+1=>by rw[CJ,jP,OU z n,CJ];rfl
def YO:Tryz.f247.results.toList=[.tmp 4]:=am
def xC:Tryz.f205.results.toList=[.tmp 2]:=am
def Su:Az aa 60 (.list .nil 0 [])=J (.v (.int .i64 0)):=am
def Zh:gw aa 60 (.list .nil 0 []) ag (J (.v (.int .i64 0))) ag=J (.list .nil 0 []):=am
def Bl:∃i,aa.info? 5=J i/\i.size=1/\i.bytes<=8/\(i.zero.map λz=>z.cells.size)=J 1:=by
 have h:(match aa.info? 5 with|some i=>hy i.size 1&&Kk i.bytes 8&&decide ((i.zero.map λz=>z.cells.size)=J 1)|none=>ah)=V:=am;split at h
 .rename_i i d;simp only[bm,decide_eq_true_eq]at h;exact⟨i,d,lN h.1.1,jR h.1.2,h.2⟩
 .cases h
def zr5:(fW aa 5).bind U.bF=J [cP 0]:=am
def ac0{H}{n}(h0:0<n)(m:n<=1099511627776):gm aa H #[60,3] (.list .nil 0 []) (.v (.int .i64 (n:Nat)))=J (.arr (F H.boxes) 0 n n,H.push (bB n [cP 0]).flatten):=by obtain⟨i,d,h2,g,o⟩:=Bl;have:=jt m g;exact RG lQ jF d zr5 h0 M M M h2.symm
def ahI(n:Nat)(h0:0<n)(m:n<=1099511627776)(H:Heap):W.call 247 [.list .nil 0 [],.v (.int .i64 (n:Nat))] H=J (.ret (.arr (F H.boxes) 0 0 n),H.push (bB n [cP 0]).flatten):=by
 have g:=lQ;have a:=ac0 (H:=H) h0 m;have p:IntKind.i64.wrap ((0:Int)-0)=0:=by rfl
 have q:IntKind.i64.wrap (((n:Nat):Int)-0)=((n:Nat):Int):=by rw[CB,jm M M]
 have d:gw aa 60 (.arr (F H.boxes) 0 n n) ag (J (.v (.int .i64 (0:Nat)))) ag=J (.arr (F H.boxes) 0 0 n):=Zf g rB aY aY M h0;have d:gw aa 60 (.arr (F H.boxes) 0 n n) ag (J (.v (.int .i64 0))) ag=J (.arr (F H.boxes) 0 0 n):=d;have o:(0:Int)<(n:Nat):=by omega
 refine cr O abL O ?_;exact GQ @YO @C9 @Su (aj @Zh (aj @f_.{0} (aj @qG @CB)))
def ahJ(H:Heap):W.call 247 [.list .nil 0 [],.v (.int .i64 (0:Nat))] H=J (.ret (.list .nil 0 []),H):=by
 have d:=lQ;refine cr O abL O ?_;have g:IntKind.i64.wrap ((0:Int)-0)=0:=by rfl
 have m:IntKind.i64.wrap (((0:Nat):Int)-0)=0:=by rfl
 exact GQ @YO @C9 @Su (aj @Zh (aj @f_.{0} (aj @qG @CB)))
def acq:fH aa 60=J ah:=am
def atn:cC aa 60=J 1:=am
def ab0{H}{b len aS}{cs}{new}{x}(s:dz 1 H x new)(o:H.boxes[b]?=J cs)(h2:len+F new<=aS)(p:aS<=F cs):
 gm aa H #[60,60] (.arr b 0 len aS) x=J (.arr b 0 (len+F new) aS,H.put b (dC cs len new.flatten)):=by
 obtain⟨i,g,d,-,m⟩:=Bl;have:=RF (off:=0) lQ lQ g M (by rw[d];exact m) (by rw[d];exact s.news) o h2 (by rw[d];omega)
 rwa [d,jS,oj]at this
def acA{H}{x}(s:dz 1 H x []):gm aa H #[60,60] (.list .nil 0 []) x=J (.list .nil 0 [],H):=by
 obtain⟨i,g,d,-,m⟩:=Bl;have o:jL H i.size x=J []:=by rw[d];exact s.news
 unfold gm;simp only[iQ,iP,jE,iR,lQ,g,o];rw[av ⟨M,by rw[d];exact m⟩];simp
def afw(k:Tok)(xs:List U)(d:List (List (List U)))(hl:F xs=F d)(H:Heap)(hs:∀(i:Nat) x g,xs[i]?=J x->d[i]?=J g->dz 1 H x g)(hb:F d.flatten<=1099511627776)(fh:F xs<=1000):
 ∃r H',W.call 205 [.list k 1 (xs.map λx=>[x])] H=J (r,H')/\∃y,r=.ret y/\Ext H H'/\dz 1 H' y d.flatten:=by
 have u28:=lQ;have u233:=Tryz.underlying260;have aE:=acq;have sE:=atn;have R:∀(i:Nat) x,xs[i]?=J x->(xs.map λx=>[x])[i]?=J [x]:=λi x o=>by rw[ec,o];rfl
 have iE:∀i,F (d.take i).flatten<=1099511627776:=λi=>by
  refine e8 ?_ hb
  conv=>rhs;rw[<-pX i d,oC,ck]
  omega
 have N:∀(i:Nat) g,d[i]?=J g->(d.take (i+1)).flatten=(d.take i).flatten++g:=λi g B=>by rw[gg B,oC];simp
 have kS:=ae.mk hs;have D:=ae.mk hl;have kr:=ae.mk R;have kst:=ae.mk N;have kle:=ae.mk iE;have X:F (xs.map λx=>[x])=F xs:=by simp
 clear hs R N iE hl;generalize hM:(xs.map λx=>[x])=Z at *
 refine bL O Tryz.func205 O ?_;refine bh @xC ?_;refine b_ (λz1 e h'=>∃i:Nat,i<=F xs/\z1=F xs-i/\e.get 0=.list k 1 Z/\e.get 9=.list k 1 Z/\e.get 10=.v (.int .i64 (F xs:Nat))/\e.get 11=.v (.int .i64 i)/\e.get 3=.v (.int .i64 (F (d.take i).flatten:Nat))/\e.get 2=.list .nil 0 []/\e.defers=[]/\h'=H) ?_ (F xs) _ _ ?_;rotate_left 1
 .refine⟨0,bY _,O,?_,?_,?_,?_,?_,?_,?_,O⟩<;>(first|assumption|(simp only[gW,reduceIte,aH,aC,X]<;>rfl))
 rintro z1 e h' ⟨i,B,rfl,g0,g9,g10,g11,g3,g2,hd,rfl⟩;by_cases z:i<F xs
 .obtain⟨x,o⟩:∃x,xs[i]?=J x:=⟨_,aP z⟩;obtain⟨g,m⟩:∃g,d[i]?=J g:=⟨_,aP (by have:=D.out;omega)⟩;have q:=kS.out i x g o m;have ls:=q.len u28;have A:=kr.out i x o;have DU:(i:Int)<(F Z:Int):=by omega
  have z0:=kst.out i g m;have q1:=kle.out (i+1);rw[z0,ck]at q1;have ksum:=ae.mk (show(F (d.take (i+1)).flatten)=F (d.take i).flatten+F g by rw[z0,ck]);generalize F (d.take i).flatten=n1 at *
  have e1:IntKind.i64.wrap (((n1:Nat):Int)+((F g:Nat):Int))=((n1+F g:Nat):Int):=by rw[jm M M];omega
  have nn:¬(((n1+F g:Nat):Int)<0):=by omega
  have ld:aD aa Gt h' 60 (.elem 1 Z i 0)=J x:=by rw[oO aE A];rfl
  clear z0 q1 q;refine bG @xC @aU ?_;exact⟨F xs-(i+1),by omega,i+1,by omega,O,by trivial,by trivial,by trivial,by simp,by rw[ksum.out],by trivial,by trivial,by trivial⟩
 have:i=F xs:=by omega
 subst this;rw[show d.take (F xs)=d by rw[D.out];exact fK]at g3;have hn:=kle.out (F xs);rw[show d.take (F xs)=d by rw[D.out];exact fK]at hn;generalize hN:F d.flatten=n at *
 rcases Kl n with h0|h0
 .subst h0;have gn:=ahJ h';have Y:d.flatten=[]:=List.eq_nil_of_length_eq_zero hN;refine bh @xC ?_;refine b_ (λz1 e u=>∃i:Nat,i<=F xs/\z1=F xs-i/\e.get 25=.list k 1 Z/\e.get 26=.v (.int .i64 (F xs:Nat))/\e.get 27=.v (.int .i64 i)/\e.get 6=.list .nil 0 []/\e.defers=[]/\u=h') ?_ (F xs) _ _ ?_;rotate_left 1
  .refine⟨0,bY _,O,?_,?_,?_,?_,?_,O⟩<;>(first|assumption|(simp only[gW,reduceIte,aH,aC,X]<;>rfl))
  clear g0 g9 g10 g11 g3 g2 hd gn;rintro z1 e u ⟨i,B,rfl,g25,g26,g27,g6,hd,rfl⟩;by_cases z:i<F xs
  .obtain⟨x,o⟩:∃x,xs[i]?=J x:=⟨_,aP z⟩;obtain⟨g,m⟩:∃g,d[i]?=J g:=⟨_,aP (by have:=D.out;omega)⟩;have q:=kS.out i x g o m;have Nd:g=[]:=by
    have:=cT m;cases g with|nil=>rfl|cons a l=>exact absurd (Ke.2 ⟨_,this,gH⟩) (by rw[Y];exact qJ)
   subst Nd;have an:=acA q;have A:=kr.out i x o;have DU:(i:Int)<(F Z:Int):=(by omega);have ld:aD aa Gt u 60 (.elem 1 Z i 0)=J x:=(by rw[oO aE A];rfl);clear q;refine bG @xC @aU ?_;exact⟨F xs-(i+1),by omega,i+1,by omega,O,by trivial,by trivial,by simp,by trivial,by trivial,by trivial⟩
  .have:i=F xs:=(by omega);subst this;refine bh @xC ?_;exact⟨_,_,O,_,O,Ext.refl _,by(try rw[Y]);exact dz.list (λr R=>by cases R) (λz0=>absurd O z0)⟩
 .have gn:=ahI n h0 hn h';refine bh @xC ?_;rw[OU];have vu:∀(i:Nat) g,d[i]?=J g->∀r∈g,F r=1:=λi g B=>by obtain⟨x,o⟩:∃x,xs[i]?=J x:=⟨_,aP (by rw[D.out];exact(aT.1 B).1)⟩;exact(kS.out i x g o B).1
  have p:∀i,∀r∈(d.take i).flatten,F r=1:=λi r R=>by obtain⟨g,h1,h2⟩:=Ke.1 R;obtain⟨j,hj⟩:=List.mem_iff_getElem?.1 (List.mem_of_mem_take h1);exact vu j g hj r h2
  have mD:∀i,F (d.take i).flatten.flatten=F (d.take i).flatten:=λi=>by rw[lX (p i),jS]
  have E:∀i,F (d.take i).flatten<=n:=λi=>by
   rw[<-hN]
   conv=>rhs;rw[<-pX i d,oC,ck]
   omega
  have kfl:=ae.mk mD;have kmo:=ae.mk E;have kr2:=ae.mk p;clear vu mD E p gn;refine b_ (λz1 e u=>∃i:Nat,i<=F xs/\z1=F xs-i/\e.get 25=.list k 1 Z/\e.get 26=.v (.int .i64 (F xs:Nat))/\e.get 27=.v (.int .i64 i)/\e.get 6=.arr (F h'.boxes) 0 (F (d.take i).flatten) n/\e.defers=[]/\u.boxes[h'.boxes.length]?=J ((d.take i).flatten.flatten++bB (n-F (d.take i).flatten) (cP 0))/\Ext h' u) ?_ (F xs) _ _ ?_;rotate_left 1
  .refine⟨0,bY _,O,?_,?_,?_,?_,?_,?_,Ext.push _ _⟩<;>(first|assumption|exact aK _ _|(simp only[gW,reduceIte,aH,aC,X]<;>rfl))
  clear g0 g9 g10 g11 g3 g2 hd;rintro z1 e u ⟨i,B,rfl,g25,g26,g27,g6,hd,v,T⟩;by_cases z:i<F xs
  .obtain⟨x,o⟩:∃x,xs[i]?=J x:=⟨_,aP z⟩;obtain⟨g,m⟩:∃g,d[i]?=J g:=⟨_,aP (by have:=D.out;omega)⟩;have q:=(kS.out i x g o m).ext T;have z0:=kst.out i g m;have m1:=kmo.out (i+1);have f0:=kfl.out i;have C:F (d.take (i+1)).flatten=F (d.take i).flatten+F g:=(by rw[z0,ck]);rw[C]at m1;have Nf:F g.flatten=F g:=(by rw[lX q.1,jS]);have ap:=ab0 q v m1 (by rw[ck,mw,f0];omega);have vx:dC ((d.take i).flatten.flatten++bB (n-F (d.take i).flatten) (cP 0)) (F (d.take i).flatten) g.flatten=(d.take (i+1)).flatten.flatten++bB (n-F (d.take (i+1)).flatten) (cP 0):=(by unfold dC;rw[qK f0,xP,nq (by rw[f0];omega),dO,f0,J8,z0,oC,ck,Nf];congr 2;omega);rw[vx]at ap;have A:=kr.out i x o;have DU:(i:Int)<(F Z:Int):=(by omega);have ld:aD aa Gt u 60 (.elem 1 Z i 0)=J x:=(by rw[oO aE A];rfl);have kX:=ae.mk T;have yT:=(aT.1 v).1;have ks:=ae.mk C;clear q T v vx z0 f0 C;refine bG @xC @aU ?_;refine⟨F xs-(i+1),by omega,i+1,by omega,O,by trivial,by trivial,by simp,by rw[ks.out],by trivial,?_,kX.out.fI (aV _) _⟩;exact dh yT
  .have:i=F xs:=(by omega);subst this;have ht:d.take (F xs)=d:=(by rw[D.out];exact fK);have f0:=kfl.out (F xs);have p:=kr2.out (F xs);rw[ht]at v g6 f0 p;rw[hN]at v g6;rw[qL,List.replicate_zero,gj]at v;have kB:=ae.mk v;have kX:=ae.mk T;clear v T;refine bh @xC ?_;exact⟨_,_,O,_,O,kX.out,dz.box p hN.symm kB.out⟩
def YJ:Tryz.f207.results.toList=[.tmp 4]:=am
def xA:Tryz.f141.results.toList=[.tmp 2]:=am
def Ss:Az aa 23 (.list .nil 0 [])=J (.v (.int .i64 0)):=am
def Zg:gw aa 23 (.list .nil 0 []) ag (J (.v (.int .i64 0))) ag=J (.list .nil 0 []):=am
def Bk:∃i,aa.info? 3=J i/\i.size=1/\i.bytes<=8/\(i.zero.map λz=>z.cells.size)=J 1:=by
 have h:(match aa.info? 3 with|some i=>hy i.size 1&&Kk i.bytes 8&&decide ((i.zero.map λz=>z.cells.size)=J 1)|none=>ah)=V:=am;split at h
 .rename_i i d;simp only[bm,decide_eq_true_eq]at h;exact⟨i,d,lN h.1.1,jR h.1.2,h.2⟩
 .cases h
def zr3:(fW aa 3).bind U.bF=J [I 0]:=am
def acZ{H}{n}(h0:0<n)(m:n<=1099511627776):gm aa H #[23,3] (.list .nil 0 []) (.v (.int .i64 (n:Nat)))=J (.arr (F H.boxes) 0 n n,H.push (bB n [I 0]).flatten):=by obtain⟨i,d,h2,g,o⟩:=Bk;have:=jt m g;exact RG cU jF d zr3 h0 M M M h2.symm
def acp:fH aa 23=J ah:=am
def hw:cC aa 23=J 1:=am
def abZ{H}{b len aS}{cs}{new}{x}(s:dz 1 H x new)(o:H.boxes[b]?=J cs)(h2:len+F new<=aS)(p:aS<=F cs):
 gm aa H #[23,23] (.arr b 0 len aS) x=J (.arr b 0 (len+F new) aS,H.put b (dC cs len new.flatten)):=by
 obtain⟨i,g,d,-,m⟩:=Bk;have:=RF (off:=0) cU cU g M (by rw[d];exact m) (by rw[d];exact s.news) o h2 (by rw[d];omega)
 rwa [d,jS,oj]at this
def acz{H}{x}(s:dz 1 H x []):gm aa H #[23,23] (.list .nil 0 []) x=J (.list .nil 0 [],H):=by
 obtain⟨i,g,d,-,m⟩:=Bk;have o:jL H i.size x=J []:=by rw[d];exact s.news
 unfold gm;simp only[iQ,iP,jE,iR,cU,g,o];rw[av ⟨M,by rw[d];exact m⟩];simp
def aqk:Tryz.f138.results.toList=[.cell 4 29]:=am
def afM(l)(h):kL aa h 9 60 (.v (.string (bs l)))=J (.list (.free h.tn) 1 (bJ l),h.app .nil):=by have d:aa.underlying 9=J .string:=An;have h2:aa.underlying 60=J (.slice 5):=lQ;have g:aa.underlying 5=J (.int .u8):=Tryz.underlying5;obtain⟨i,m,o,-⟩:=Bl;unfold kL;simp only[d,h2,g,m,o,if_true];simp[bs,Heap.fresh,Heap.app]
def adK(x y)(d:x.cW=V)(g:y.cW=V):fy aa 260 2 [(0,x),(1,y)]=J (.list .tight 1 [[x],[y]]):=by cases x<;>first|(cases d;done)|(cases y<;>first|(cases g;done)|kernel_rfl)
def dz.cell{sz}{h}{x}{rows}(s:dz sz h x rows):x.cW=V:=by rcases s.2 with⟨k,o,rfl,-⟩|⟨b,g,d,m,rfl,-⟩<;>rfl
def Cg(b):F (jr b)=32:=by unfold jr;rw[BK,wJ _ _ _ O]
def ar2(d):gw aa 29 (.ptr (.box d) 0) ag ag ag=J (.arr d 0 32 32):=am
def att(d b:List UInt8)(x:U)(h:Heap)(s:dz 1 h x (bJ b))(hb:F b<=1099511620000)(ht:F d<=1099511620000):
 ∃h',W.call 138 [.v (.string (bs d)),x] h=J (.ret (.agg (da (kn d b))),h')/\Ext h h':=by
 have Y:=Qa;have B:Ext h ((h.push (bB 32 (cP 0))).app .nil):=(Ext.push _ _).trans (Ext.app (Ext.refl _) (.inl O));have E:((h.push (bB 32 (cP 0))).app .nil).boxes=(h.push (bB 32 (cP 0))).boxes:=dS _ _;obtain⟨g,c2,u⟩:=Za d (.list (.free (h.push (bB 32 (cP 0))).tn) 1 (bJ d)) ((h.push (bB 32 (cP 0))).app .nil) (dz.list (ye _) λ_=>rfl) M;have d0:g.boxes[h.boxes.length]?=J (bB 32 (cP 0)):=u.box _ _ (by rw[E];exact aK _ _);have tl:F (da (jr d))=32:=by rw[mJ,Cg]
 have st1:bV aa (g.push (bB 32 (cP 0))) 29 (.ptr (.box (F g.boxes)) 0) (.agg (da (jr d)))=J (g.push (da (jr d))):=lJ (Ft _) xG tl O;have z:dz 1 (g.push (da (jr d))) x (bJ b):=((s.ext B).ext u).ext (Ext.push _ _);have A:dz 1 (g.push (da (jr d))) (.arr (F g.boxes) 0 32 32) (bJ (jr d)):=dz.box (ye _) (by rw[br,Cg]) (by rw[Jz];exact aK _ _);obtain⟨r3,C,T,z0,rfl,x3,y⟩:=afw .tight [.arr (F g.boxes) 0 32 32,x] [bJ (jr d),bJ b] O (g.push (da (jr d))) (λi z1 rs p m=>by
  rcases i with _|_|i
  .injection p with p;injection m with m;subst p;subst m;exact A
  .injection p with p;injection m with m;subst p;subst m;exact z
  .cases p) (by simp[Cg];omega) b8
 have N:[bJ (jr d),bJ b].flatten=bJ (jr d++b):=by simp[bJ]
 rw[N]at y;have bl:=adK _ x (dz.cell A) (dz.cell z);obtain⟨q,D,R⟩:=Za (jr d++b) z0 C y (by rw[ck,Cg];omega);have v:Ext g q:=(Ext.push _ _).trans (x3.trans R);have d4:q.boxes[h.boxes.length]?=J (bB 32 (cP 0)):=v.box _ _ d0;have o:F (da (kn d b))=32:=by rw[mJ];exact Cg _
 have st2:bV aa q 29 (.ptr (.box (F h.boxes)) 0) (.agg (da (kn d b)))=J (q.put (F h.boxes) (da (kn d b))):=by rw[fC (Ft _) xG d4 o b8,xD (by rw[o];simp)]
 have Z:aD aa Gt (q.put (F h.boxes) (da (kn d b))) 29 (.ptr (.box (F h.boxes)) 0)=J (.agg (da (kn d b))):=by rw[fR KH xG (dh (aT.1 d4).1) (by rw[o];exact aV _),gG,ga (by rw[o];exact aV _)]
 replace D:W.call 204 [z0] C=J (.ret (.agg (da (kn d b))),q):=D;have X:=ae.mk (((B.trans u).trans v).fI (aV _) (da (kn d b)));simp only[eI,List.map_nil]at T;clear s z A y B E u x3 R v d0 d4 N tl o;refine gI O Tryz.func138 O ?_;refine cK @aqk @afM @ar2 ?_;exact⟨_,O,X.out⟩
def Pk:Tryz.f69.results.toList=[.tmp 4]:=am
def V7{b n}{k}(g:n<32):dK aa 29 (.ptr (.box b) 0) (.v (.int k (n:Nat)))=J (.ptr (.box b) n):=by have d:aa.underlying 29=J (.array 32 5):=KE;unfold dK;simp only[d,rB];rw[av ⟨M,by omega⟩];simp
def Wq{H}{b i}{l}(d:H.boxes[b]?=J (da l))(hi:i<F l):aD aa Gt H 5 (.ptr (.box b) i)=J (cP (fM l i)):=by rw[fm KK d,FO,ec,aP hi];unfold fM;rw[eK,aP hi];rfl
def afK(n)(h):kL aa h 5 3 (.v (.int .u8 n))=J (.v (.int .i64 (IntKind.i64.wrap n)),h):=am
def Rm(b):∀i,i<=F b->kK b i=(b.take i).foldl (λn c=>n*256+c.toNat) 0
 |0,_=>rfl
 |i+1,d=>by
  rw[kK,Rm b i M];have:b[i]?=J (fM b i):=by unfold fM;rw[eK,aP M];rfl
  rw[gg this,List.foldl_append];rfl
def mask(b:List UInt8):List UInt8:=b.set 0 (fM b 0&&&127)
def WQ{b}{i}(d:0<F b):fM (mask b) i=if i=0 then fM b 0&&&127 else fM b i:=by
 unfold mask fM;rw[eK,lM];split
 .rename_i h;subst h;simp[d]
 .rename_i h;rw[aL (λg=>h g.symm),eK]
def RB(c:UInt8):(c&&&127).toNat=c.toNat%128:=by rw[UInt8.toNat_and];exact abd c.toNat 7
def N7{b}(m:0<F b):∀i,kK (mask b) (i+1)=kK b (i+1)%(128*256^i)
 |0=>by show 0*256+(fM (mask b) 0).toNat=(0*256+(fM b 0).toNat)%128;rw[WQ m,av O,RB];omega
 |i+1=>by
  rw[kK,N7 m i,WQ m,aL M,kK.eq_2 b (i+1)];have:=Fs (fM b (i+1));generalize kK b (i+1)=g at *
  generalize (fM b (i+1)).toNat=r at *
  rw[xW,<-Nat.mul_assoc];have q:0<128*256^i:=Ko aY (Kq aY);generalize 128*256^i=d at *
  have o:=kC g q;have h2:=Nat.div_add_mod g d;have p:g*256+r=d*256*(g/d)+(g%d*256+r):=by rw[Nat.mul_right_comm,<-Nat.add_assoc,<-js,h2]
  rw[p,Nat.mul_add_mod,mS (a:=g%d*256+r) (b:=d*256) (by have:(g%d+1)*256<=d*256:=Nat.mul_le_mul_right _ o;rw[js]at this;omega)]
def alu{b}(d:0<F b){i}(hi:i<8):kK (mask b) i<36028797018963968:=by
 cases i with
 |zero=>show 0<_;decide|succ i=>
  rw[N7 d];have g:=kC (kK b (i+1)) (show 0<128*256^i from Ko aY (Kq aY));have h2:256^i<=256^6:=abq aY M;have m:256^6=281474976710656:=by decide
  omega
def hash_eq{b}(d:8<=F b):kK (mask b) 8%Q=pF b:=by unfold pF;rw[N7 M 7,Rm b 8 d]
def arV{t}{x y}{n}(d:n<36028797018963968):cy aa .shl t x y (.v (.int .i64 (n:Nat))) (.v (.int .u64 8))=J (.v (.int .i64 ((n*256:Nat):Int))):=by rw[K4 aY];congr 3;show IntKind.i64.wrap (((n:Nat):Int)*256)=_;rw[jm M M];omega
def ori{t}{x y}{n m}(v:n<36028797018963968)(u:m<256):cy aa .or t x y (.v (.int .i64 ((n*256:Nat):Int))) (.v (.int .i64 (m:Nat)))=J (.v (.int .i64 ((n*256+m:Nat):Int))):=by
 rw[KZ];congr 3;have d:BitVec.ofInt IntKind.i64.bits ((n*256:Nat):Int)=BitVec.ofNat 64 (n*256):=by apply BitVec.eq_of_toNat_eq;show(BitVec.ofInt 64 ((n*256:Nat):Int)).toNat=(BitVec.ofNat 64 (n*256)).toNat;rw[BitVec.toNat_ofInt,BitVec.toNat_ofNat];omega
 have g:BitVec.ofInt IntKind.i64.bits ((m:Nat):Int)=BitVec.ofNat 64 m:=by apply BitVec.eq_of_toNat_eq;show(BitVec.ofInt 64 ((m:Nat):Int)).toNat=(BitVec.ofNat 64 m).toNat;rw[BitVec.toNat_ofInt,BitVec.toNat_ofNat];omega
 have o:(BitVec.ofNat 64 (n*256)|||BitVec.ofNat 64 m).toNat=n*256+m:=by
  rw[BitVec.toNat_or,BitVec.toNat_ofNat,BitVec.toNat_ofNat,mS (M:n*256<2^64),mS (M:m<2^64)];have q:n<<<8=n*256:=by rw[Nat.shiftLeft_eq]
  rw[<-q,<-Nat.shiftLeft_add_eq_or_of_lt (M:m<2^8)]
 have p:(BitVec.ofInt IntKind.i64.bits ((n*256:Nat):Int)|||BitVec.ofInt IntKind.i64.bits ((m:Nat):Int)).toNat=n*256+m:=by rw[d,g];exact o
 rw[p,jm M M]
def acB{t}{x y}(c):cy aa .and t x y (cP c) (.v (.int .u8 127))=J (cP (c&&&127)):=by
 unfold cP;rw[pZ];congr 3;have m:=Fs c;have d:BitVec.ofInt IntKind.u8.bits ((c.toNat:Nat):Int)=BitVec.ofNat 8 c.toNat:=by apply BitVec.eq_of_toNat_eq;show(BitVec.ofInt 8 ((c.toNat:Nat):Int)).toNat=(BitVec.ofNat 8 c.toNat).toNat;rw[BitVec.toNat_ofInt,BitVec.toNat_ofNat];omega
 have g:(BitVec.ofInt IntKind.u8.bits ((c.toNat:Nat):Int)&&&BitVec.ofInt IntKind.u8.bits 127).toNat=c.toNat%128:=by rw[d];show(BitVec.ofNat 8 c.toNat&&&127#8).toNat=_;rw[BitVec.toNat_and,BitVec.toNat_ofNat,mS (M:c.toNat<2^8)];exact abd c.toNat 7
 rw[g,LL M M,RB]
def alt(l):(da l).set 0 (cP (fM l 0&&&127))=da (mask l):=by unfold mask da;rw[aaZ]
def ahu(m b:List UInt8)(x:U)(h:Heap)(s:dz 1 h x (bJ b))(hb:F b<=1099511620000)(ht:F m<=1099511620000):
 ∃h',W.call 69 [.v (.string (bs m)),x] h=J (.ret (I (pF (kn m b):Nat)),h')/\Ext h h':=by
 obtain⟨d,c1,Y⟩:=att m b x h s hb ht;have y:F (kn m b)=32:=Cg _;have p:F (da (kn m b))=32:=by rw[mJ,y]
 have C:=hash_eq (b:=kn m b) M;generalize kn m b=g at *
 have q:0<F g:=by omega
 have z:=Qa;have T:bV aa (d.push (bB 32 (cP 0))) 29 (.ptr (.box (F d.boxes)) 0) (.agg (da g))=J (d.push (da g)):=lJ (Ft _) xG p O;have E:dK aa 29 (.ptr (.box (F d.boxes)) 0) (.v (.int .i64 0))=J (.ptr (.box (F d.boxes)) 0):=V7 (n:=0) aY;have l0:aD aa Gt (d.push (da g)) 5 (.ptr (.box (F d.boxes)) 0)=J (cP (fM g 0)):=Wq (aK _ _) q;have X:bV aa (d.push (da g)) 5 (.ptr (.box (F d.boxes)) 0) (cP (fM g 0&&&127))=J (d.push (da (mask g))):=by rw[PQ (aK _ _) (by rw[p];decide),alt,mg]
 have v:F (mask g)=32:=by unfold mask;rw[nr,y]
 have hX:=ae.mk (Y.trans (Ext.push d (da (mask g))));have B:=aK d (da (mask g));have o:=λi D=>alu q (i:=i) D;have kB:=ae.mk B;have N:=ae.mk o;have ke:=ae.mk C;have R:=ae.mk v;clear s p y B o C v Y q;unfold I;refine gI O Tryz.func69 O ?_;refine bG @Pk @acB ?_;refine b_ (λz0 e H=>∃i:Nat,i<=8/\z0=8-i/\e.get 5=.ptr (.box (F d.boxes)) 0/\e.get 14=.v (.int .i64 i)/\e.get 4=.v (.int .i64 (kK (mask g) i:Nat))/\e.defers=[]/\H=d.push (da (mask g))) ?_ 8 _ _ ?_;rotate_left 1
 .refine⟨0,by decide,O,?_,?_,?_,?_,O⟩<;>(first|assumption|(exact gR))
 clear z T E l0 X c1;rintro z0 e H ⟨i,D,rfl,g5,g14,g4,hd,rfl⟩;by_cases h8:i=8
 .subst h8;have e1:(((kK (mask g) 8:Nat):Int)).tmod 1073741789=((pF g:Nat):Int):=by rw[<-ke.out];exact pS _ _
  generalize kK (mask g) 8=z1 at *
  refine bh @Pk ?_;exact⟨_,O,hX.out⟩
 .have o:i<8:=by omega
  have A:=N.out i o;have u1:=Fs (fM (mask g) i);have ix:=V7 (b:=d.boxes.length) (n:=i) (k:=.i64) M;have ld:aD aa Gt (d.push (da (mask g))) 5 (.ptr (.box (F d.boxes)) i)=J (.v (.int .u8 ((fM (mask g) i).toNat:Nat))):=Wq kB.out (by have:=R.out;omega);have ew:IntKind.i64.wrap (((fM (mask g) i).toNat:Nat):Int)=(((fM (mask g) i).toNat:Nat):Int):=jm M M;have s1:=λt x Z=>arV (t:=t) (x:=x) (y:=Z) A;have s2:=λt x Z=>ori (t:=t) (x:=x) (y:=Z) A u1;have u:=ae.mk (show kK (mask g) (i+1)=kK (mask g) i*256+(fM (mask g) i).toNat from O);generalize kK (mask g) i=z1 at *
  generalize (fM (mask g) i).toNat=r at *
  refine bG @Pk @afK ?_;exact⟨8-(i+1),by omega,i+1,by omega,O,by trivial,O,by rw[u.out],by trivial,by trivial⟩
end Go.Proofs.YtcbhpkjbiehcpaaGreatDoor
end
section
namespace Go.AE
structure Grown(n0:Nat)(h h':Heap)(t:Tok):Prop where
 box:∀(b:Nat) (cs:List U),h.boxes[b]?=J cs->h'.boxes[b]?=J cs
 loop:∀(l:Nat) (r:gV),h.loops[l]?=J r->h'.loops[l]?=J r
 can:db n0 h' t
 ok:c_ h'=V
 tn:h.tn<=h'.tn
 dead:∀n,n<n0->n∈h'.dead->n∈h.dead
section
variable {n0:Nat} {h0 h h' h2:Heap} {t k:Tok}
def Grown.refl(g:db n0 h k)(m:c_ h=V):Grown n0 h h k:=⟨λ_ _ d=>d,λ_ _ d=>d,g,m,aV _,λ_ _ d=>d⟩
def Grown.trans(g:Grown n0 h h' t)(d:Grown n0 h' h2 k):Grown n0 h h2 k:=
 ⟨λb m p=>d.box b m (g.box b m p),λb m p=>d.loop b m (g.loop b m p),d.can,d.ok,e8 g.tn d.tn,λn o p=>g.dead n o (d.dead n o p)⟩
def Grown.ext(g:Grown n0 h h' t)(x:Ext h0 h)(q:h0.tn<=n0):Ext h0 h':=
 ⟨λb d m=>g.box b d (x.box b d m),λl r p=>g.loop l r (x.loop l r p),e8 x.tn g.tn,λn u o=>x.dead n u (g.dead n (my u q) o),λ_=>g.ok⟩
def C0(g:c_ h=V)(o:db n0 h k):c_ (h.app k)=V:=by
 unfold c_ at *
 rw[eJ]at *
 intro n d;rcases o with rfl|rfl|⟨p,rfl,-,m⟩
 .exact bQ (Kn (of_decide_eq_true (g n d)))
 .exact bQ (Kn (of_decide_eq_true (g n d)))
 .rcases gU.1 d with rfl|q
  .exact bQ (Kn (qN m))
  .exact bQ (Kn (of_decide_eq_true (g n q)))
def Grown.one(g:db n0 h k)(m:c_ h=V)(q:n0<=h.tn):Grown n0 h (h.app k) (.free h.tn):=by
 refine⟨λb p o=>by rw[dS];exact o,λb p o=>by rw[Aq];exact o,g.next m q,C0 m g,by rw[C4];omega,λn o d=>?_⟩;rcases g with rfl|rfl|⟨y,rfl,v,u⟩
 .exact d
 .exact d
 .rcases gU.1 d with rfl|d<;>omega
def Grown.push(g:Grown n0 h h' t)(cs:List U):Grown n0 h (h'.push cs) t:=⟨λb cs d=>aN (g.box b cs d),g.loop,g.can,g.ok,g.tn,g.dead⟩
def Grown.app(g:Grown n0 h h' t)(d:n0<=h.tn):Grown n0 h (h'.app t) (.free h'.tn):=g.trans (Grown.one g.can g.ok (e8 d g.tn))
variable {P:bk} {t0 t1 elem:aF} {i:TypeInfo} {sz:Nat} {es new:List (List U)} {x:U}
def Ar(h0:P.underlying t0=J (.slice elem))(g:(∃e,P.underlying t1=J (.slice e))∨P.underlying t1=J .string)(hi:P.info? elem=J i)(o:0<i.size)(A:(i.zero.map λz=>z.cells.size)=J i.size)
 (y:jL h i.size x=J new) (m:new≠[]) (q:(F es+F new)*i.bytes<=140737488355328) (v:F es+F new<=9223372036854775807) (d:sz=i.size∨(es=[]/\k=.nil)) (u:db n0 h k):
 gm P h #[t0,t1] (.list k sz es) x=J (.list (.free h.tn) i.size (es++new),h.app k):=by
 unfold gm;rcases g with⟨e,g⟩|g
 all_goals
  simp only[iQ,iP,jE,iR,h0,g,hi,y];rw[av ⟨o,A⟩,av (d.imp_right λB=>B.1),aL m,av ⟨q,v⟩];rcases u with rfl|rfl|⟨C,rfl,-,p⟩
  .rfl
  .rfl
  .have d:sz=i.size:=by
    rcases d with d|⟨-,d⟩
    .exact d
    .cases d
   simp only[p,d,decide_true,Bool.and_self,if_true];rfl
def acJ(h0:P.underlying t0=J (.slice elem))(g:(∃e,P.underlying t1=J (.slice e))∨P.underlying t1=J .string)(hi:P.info? elem=J i)(d:0<i.size)(p:(i.zero.map λz=>z.cells.size)=J i.size)
 (o:jL h i.size x=J []) (m:sz=i.size∨es=[]):gm P h #[t0,t1] (.list k sz es) x=J (.list k sz es,h):=by
 unfold gm
 grind
end
end Go.AE
end
section
namespace Go.AE
open Go.RowKit (Below)
mutual
def dE(h:Heap):U->U
 | .list k sz es=>.list (bU k) sz es
 | .arr b g len _=>match h.boxes[b]? with
  |some d=>if g+len<=F d then .list .held 1 (((d.drop g).take len).map λc=>[c]) else .bad
  |none=>.bad
 | .tuple d=>.tuple (iF h d)
 | .agg d=>.agg (iF h d)
 |x=>x
def iF(h:Heap):List U->List U
 | []=>[]
 |x::r=>dE h x::iF h r
end
def uq(R:Rec)(g:aR)(args:List U):Option U:=
 if aA 0 0 0 (a_ args)=V then
  match R.call g (a_ args) ⟨[],[],0,[]⟩ with
  |some (.ret d,h2)=>if au 0 0 0 (dE h2 d)=V then J (dE h2 d) else ag
  |_=>ag
 else ag
def wL(R:Rec)(g:aR)(args:List U)(h:Heap):Option (U × Heap):=(uq R g args).map (·,h)
def Ff:∀l:List U,(l.map λc=>[c]).flatten=l
 | []=>rfl
 |x::l=>by rw[eI,jP,Ff l];rfl
section
variable {P:bk} {G:Nat->Option (List U)} {ok:aR->Nat->Code->Bool} {w0 w w':World} {K K1 K2:aW} {h h2:Heap}
mutual
def aQ.iC(d:∀g j c,K1.ic g j=J c->K2.ic g j=J c):∀{x:U} {c:aG},aQ K1 x c->au 0 0 0 x=V->aQ K2 x c
 |_,_,.bad c,_=>.bad c
 |_,_,.v x B,_=>.v x B
 |_,_,.nil sz,_=>.nil sz
 |_,_,.fZ sz a,_=>.fZ sz a
 |_,_,.list k sz es g m Y p cells T A o y D v,h=>by
  rw[au,bm]at h;refine .list k sz es g m Y p cells T A (aI.iC d o (by rw[ot];grind)) (λj c z=>d _ _ _ (y j c z)) ⟨D.1,?_⟩ v;have u:=h.1;have h2:=D.2;cases k with|free i=>simp[oY]at u|_=>exact h2
 |_,_,.arr _ _ _ _ _ _ _ _ _ _ _ _,h=>by simp[au]at h
 |_,_,.agg q C o,h=>.agg q C (aI.iC d o (by rw[au]at h;exact h))
 |_,_,.tuple q C o,h=>.tuple q C (aI.iC d o (by rw[au]at h;exact h))
 |_,_,.box _ _ _ _,h=>by simp[au]at h
 |_,_,.dA g m,_=>.dA g m
 |_,_,.elem sz es i m g Z z0 cells A o y R X v,h=>.elem sz es i m g Z z0 cells A (aI.iC d o (by rw[ot];rw[au]at h;exact h)) (λj c z=>d _ _ _ (y j c z)) R X v
 |_,_,.func E first p N q u h2,h=>.func E first p N q (aI.iC d u (by rw[au,bm]at h;grind)) (aI.iC d h2 (by rw[au,bm]at h;grind))
 |_,_,.yield _ _ _,h=>by simp[au]at h
 |_,_,.iface t x c B,h=>.iface t x c (aQ.iC d B (by rw[au]at h;exact h))
def aI.iC(d:∀g j c,K1.ic g j=J c->K2.ic g j=J c):∀{xs:List U} {cs:List aG},aI K1 xs cs->aA 0 0 0 xs=V->aI K2 xs cs
 |_,_,.nil,_=>.nil
 |_,_,.cons x c xs cs o m,h=>.cons x c xs cs (aQ.iC d o (by rw[aA,bm]at h;grind)) (aI.iC d m (by rw[aA,bm]at h;grind))
end
mutual
def aQ.nh(s1:bK K1 G ok w h2 w')(d:∀g j c,K1.ic g j=J c->K2.ic g j=J c)(y:∀g j c,K1.base<=g->w'.cell? ⟨g,j,ag⟩=J c->K2.ic g j=J c):
 ∀{x:U} {c:aG},aQ K1 x c->au 0 0 0 (dE h2 x)=V->aQ K2 (dE h2 x) c
 |_,_,.bad c,_=>.bad c
 |_,_,.v x Z,_=>.v x Z
 |_,_,.nil sz,_=>.nil sz
 |_,_,.fZ sz a,_=>.fZ sz a
 |_,_,.list k sz es g m z0 p cells X z v C E B,h=>by
  have R:fg 0 0 0 es=V:=by simp only[dE,au,bm]at h;exact h.2
  have N:aI K2 es.flatten cells:=aI.iC d v (by rw[ot];exact R);cases k with|nil=>exact E.2.elim|tight=>exact .list .tight sz es g m z0 p cells X z N (λj c u=>d _ _ _ (C j c u)) ⟨E.1,E.2⟩ B|free i=>exact .list .held sz es g m z0 p cells X z N (λj c u=>d _ _ _ (C j c u)) ⟨E.1,aX⟩ B|held=>exact .list .held sz es g m z0 p cells X z N (λj c u=>d _ _ _ (C j c u)) ⟨E.1,aX⟩ B
 |_,_,.arr b g m len p o A hb hl pH ho z,h=>by
  simp only[dE]at h ⊢;cases T:h2.boxes[b]? with
  |none=>exact .bad _|some q=>
   rw[T]at h;simp only at h ⊢;split at h
   .rename_i D;rw[av D];have R:fg 0 0 0 (((q.drop m).take len).map λc=>[c])=V:=(by simp only[au,bm]at h;exact h.2);obtain⟨q1,q2,q3,cells,e,q4,q5⟩:=s1.box b g q hb T;have U8:=q5.le;by_cases h0:p=0
    .have:len=0:=(by omega);subst this;exact .list .held 1 [] g o 0 A [] O (λ_ h=>by cases h) .nil (λ_ _ h=>by grind) ⟨bY _,aX⟩ O
    .have Y:o=m:=(by simp_all);subst Y;have v:aI K1 ((q.drop o).take len) (((cells.toList.take (F q)).drop o).take len):=(q5.1.drop o).take len;have qm:F ((q.drop o).take len)=len:=(by rw[cR,eC];omega);refine .list .held 1 _ g o len A (((cells.toList.take (F q)).drop o).take len) (by simp_all) (λr z=>?_) ?_ (λj c u=>?_) ⟨M,aX⟩ ?_
     .grind
     .rw[Ff];rw[<-ot,Ff]at R;exact aI.iC d v R
     .refine y _ _ _ q1 ?_;have vp:j<len:=(by have:=(aT.1 u).1;rw[cR]at this;omega);rw[mM,av vp,o0,mM,av M]at u;rw[cell_of q4];simp_all
     grind
   .rename_i D;rw[aL D];exact .bad _
 |_,_,.agg q vs v,h=>.agg _ vs (aI.nh s1 d y v (by simpa only[dE,au] using h))
 |_,_,.tuple q vs v,h=>.tuple _ vs (aI.nh s1 d y v (by simpa only[dE,au] using h))
 |_,_,.box b g m hb,h=>by simp[dE,au]at h
 |_,_,.dA g m,_=>.dA g m
 |_,_,.elem sz es i m g z1 z2 cells z v C hi hp B,h=>.elem sz es i m g z1 z2 cells z (aI.iC d v (by rw[ot];simpa only[dE,au] using h)) (λj c u=>d _ _ _ (C j c u)) hi hp B
 |_,_,.func fn first p fs q h1 h2,h=>by simp only[dE,au,bm]at h;exact .func fn first p fs q (aI.iC d h1 h.1) (aI.iC d h2 h.2)
 |_,_,.yield l g hl,h=>by simp[dE,au]at h
 |_,_,.iface t x c Z,h=>by simp only[dE,au]at h;exact .iface t x c (aQ.iC d Z h)
def aI.nh(o:bK K1 G ok w h2 w')(m:∀g j c,K1.ic g j=J c->K2.ic g j=J c)(d:∀g j c,K1.base<=g->w'.cell? ⟨g,j,ag⟩=J c->K2.ic g j=J c):
 ∀{xs:List U} {cs:List aG},aI K1 xs cs->aA 0 0 0 (iF h2 xs)=V->aI K2 (iF h2 xs) cs
 |_,_,.nil,_=>.nil
 |_,_,.cons x c xs cs q p,h=>by simp only[iF,aA,bm]at h;exact .cons _ c _ cs (aQ.nh o m d q h.1) (aI.nh o m d p h.2)
end
def aW.j'(K:aW)(n:Nat)(w:World):aW:={K with ic:=λd j=>if d<n then K.ic d j else w.cell? ⟨d,j,ag⟩}
def aW.Et(s:bK K G ok w0 h w):K.Le (K.j' w.heap.size w'):=by
 refine⟨O,λg j c d=>?_,λ_ _ h=>h,λ_ _ h=>h,aV _,λ_ _=>rfl,λ_ h=>h,λ_ _=>rfl,λg j c d=>?_⟩
 .simp only[aW.j',av (s.ur d),d]
 .simp only[aW.j']at d;split at d
  .simp_all
  .exact .inr (by have:=s.size;omega)
def bK.j'(s:bK K G ok w0 h w)(b:Below w.heap.size w w'):bK (K.j' w.heap.size w') G ok w0 h w':=by
 have g:=s.grown b;have le:K.Le (K.j' w.heap.size w'):=aW.Et s;refine⟨g.fL,g.size,λd j c o=>?_,λd y T=>?_,g.iN,g.np,λD d y z o=>?_,g.mn,g.oe,λl d r X Y=>?_,g.tn,λt E=>?_,g.nL,g.md,g.all⟩
 .simp only[aW.j']at o;split at o
  .exact g.ic d j c o
  omega
 .obtain⟨cells,m,p⟩:=g.dA d y T;exact⟨cells,m.mono le,λj c A=>le.ic _ _ _ (p j c A)⟩
 .obtain⟨m,p,u,cells,e,v,Z⟩:=g.box D d y z o;obtain⟨-,-,-,q,N,B,-⟩:=s.box D d y z o;refine⟨m,λj=>?_,u,cells,e,v,Z.mono le (aT.1 z).1⟩;simp only[aW.j',av (oy B)]
  grind
 .obtain⟨m,R,C,z1,p,u,v⟩:=g.loop l d r X Y;exact⟨m,R,C,z1,p,u.mono le,v⟩
 .obtain⟨m,p,u,v⟩:=g.tok t E;obtain⟨-,-,-,q,N,z0,B,-⟩:=s.tok t E;refine⟨m,p,λj A=>?_,v⟩;simp only[aW.j',av (oy B)];exact u j A
def aW.alone(K:aW)(n:Nat):aW:={K with base:=n,β:=[],γ:=[],tn:=0,md:=[]}
def bK.alone(s:bK K G ok w0 h w)(q:∀g cs,G g=J cs->aA 0 0 0 cs=V):bK (K.alone w.heap.size) G ok w ⟨[],[],0,[]⟩ w:=by
 refine⟨Below.refl _ _,aV _,s.ic,λg cs o=>?_,O,λb p g d=>by simp[aW.alone]at d,λb g cs d=>by simp_all,O,λb p g d=>by simp[aW.alone]at d,λl g r z=>by simp_all,O,λt m=>?_,λt A m=>?_,λr u=>by simp[aW.alone]at u,O⟩
 .obtain⟨cells,v,y⟩:=s.dA g cs o;exact⟨cells,aI.iC (K1:=K) (K2:=K.alone w.heap.size) (λ_ _ _ h=>h) v (q g cs o),y⟩
 .simp[alive]at m
 .simp[alive]at m
def Ld{aJ:aR->Option (List U->Heap->Option (U × Heap))}(hp:Prog P)(Y:∀g cs,G g=J cs->aA 0 0 0 cs=V)(o:∀T g p,aJ g=J p->kJ P G T g p){g:aR}(B:∃fn,P.funcs[g]?=J fn/\fn.body.isSome=V)(T:World):
 kJ P G T g (wL (whole P G aJ) g):=by
 refine⟨B,λargs h x h' m K w v hv u cs=>?_⟩;unfold wL uq at m;split at m
 .rename_i hf;split at m
  .rename_i z1 h2 d;split at m
   .rename_i A;simp only[fF,dt,cL]at m;obtain⟨rfl,rfl⟩:=m;obtain⟨-,y⟩:=(Fy hp (o w)).call g _ _ _ _ d;have s0:=bK.alone u Y;obtain⟨K1,w',X,le,z,N,C,z0,R,E⟩:=y (K.alone w.heap.size) w v (aI.iC (K1:=K) (K2:=K.alone w.heap.size) (λ_ _ _ h=>h) hv.hold hf) s0 cs;have Z:Below w.heap.size w w':=(by have:=z.fL;rwa [le.base]at this);refine⟨.returned z0,w',X,⟨z0,_,O,aW.Et u,aQ.nh (K2:=K.j' w.heap.size w') z (λg j c d=>?_) (λg j c D d=>?_) R A,bK.j' u Z⟩,N,C,E⟩
    .rcases le.new g j c d with q|q
     .have:g<w.heap.size:=u.ur q;simp only[aW.j',av this];exact q
     .have q:w.heap.size<=g:=q;simp only[aW.j',aL (M:¬g<w.heap.size)];exact z.ic g j c d
    .have q:w.heap.size<=g:=(by rw[le.base]at D;exact D);simp only[aW.j',aL (M:¬g<w.heap.size)];exact d
   grind
  grind
 grind
def lU(R:Rec)(L:List aR)(g:aR):Option (List U->Heap->Option (U × Heap)):=if L.contains g=V then J (wL R g) else ag
def rJ{aJ:aR->Option (List U->Heap->Option (U × Heap))}(v:Prog P)(q:∀g cs,G g=J cs->aA 0 0 0 cs=V)(m:∀o g p,aJ g=J p->kJ P G o g p){L:List aR}(u:∀g∈L,∃fn,P.funcs[g]?=J fn/\fn.body.isSome=V):
 ∀o g p,lU (whole P G aJ) L g=some p->kJ P G o g p:=by
 intro o g p d;unfold lU at d;split at d
 .rename_i y;injection d with d;subst d;exact Ld v q m (u g (by simp_all)) o
 grind
def bT{R:Rec}{L:List aR}{g:aR}{args B:List U}{x y:U}{d:Heap}(q:L.contains g=V)(m:a_ args=B)(p:aA 0 0 0 B=V)(o:R.call g B ⟨[],[],0,[]⟩=J (.ret y,d))(v:dE d y=x)(u:au 0 0 0 x=V):
 ∀h,(whole P G (lU R L)).call g args h=J (.ret x,h):=by
 intro h;subst m;subst v;rw[rD];unfold k_ lU;rw[av q];simp only[wL,uq,av p,o,av u,fF]
end
end Go.AE
end
section
namespace Go.AE
def Of(P:bk)(s d:aF):Bool:=
 match P.underlying s,P.underlying d with
 |some (.int _),J (.int _)=>V
 |_,_=>ah
def Lb(P:bk)(ops:Array Oper)(L:List aR)(k:Nat):Bool:=
 match ops[k]? with
 |some d=>d.guard.isNone&&match d.op with
  | .call {callee:=.value (.func f),.. }=>L.contains f
  | .call {callee:=.builtin .max,.. }=>V
  | .call {callee:=.builtin .min,.. }=>V
  | .convert s g _=>Of P s g
  |_=>ah
 |none=>ah
def Lf(P:bk)(ops:Array Oper)(L:List aR):List Nat:=(bZ ops.size).filter (Lb P ops L)
section
variable {P:bk} {G:Nat->Option (List U)} {aJ:aR->Option (List U->Heap->Option (U × Heap))} {Q:Xt->Env->Heap->Prop} {e:Env} {h:Heap} {L:List aR}
def mo(aJ:aR->Option (List U->Heap->Option (U × Heap)))(L:List aR):Prop:=∀d∈L,∃g:List U->Option U,aJ d=J λargs h=>(g args).map (·,h)
def rK{R:Rec}:mo (lU R L) L:=λd g=>⟨uq R d,by unfold lU;rw[av (by simp_all)];rfl⟩
def alU{s d:aF}{x:U}(m:Of P s d=V):∃q:Option U,∀g,kL P g s d x=q.map (·,g):=by
 unfold Of at m;split at m
 .rename_i p u o h2;unfold kL;simp only[o,h2];cases x<;>first|exact⟨ag,λg=>rfl⟩|exact⟨_,λg=>rfl⟩
 grind
def ac1{d:Heap}{ts:Array aF}{ty:aF}{xs:List U}:iu P d .max ts ty xs=(match flatAll xs with|some l=>(cV P (Builtin.max_ ts ty l.toArray)).bind jf|none=>ag).map (·,d):=by rcases xs with _|⟨x,_|⟨g,xs⟩⟩<;>(unfold iu;simp only[];cases flatAll _<;>rfl)
def ac2{d:Heap}{ts:Array aF}{ty:aF}{xs:List U}:iu P d .min ts ty xs=(match flatAll xs with|some l=>(cV P (Builtin.min_ ts ty l.toArray)).bind jf|none=>ag).map (·,d):=by rcases xs with _|⟨x,_|⟨g,xs⟩⟩<;>(unfold iu;simp only[];cases flatAll _<;>rfl)
def Gf{o:Oper}(C:o.guard=ag)(E:wM o.op=V)(v:∀u:Env,∃q:Option U,∀g,dH P G (whole P G aJ) u g o=q.map λx=>(.ret x,u,g)){ops:Array Oper}{B:Env}{D:Heap}
 (m:bW P G (whole P G aJ) ops (bZ ops.size) e h=J (.normal,B,D)) {k:Nat} (p:ops[k]?=J o):u' P G (whole P G aJ) ops e h k:=by
 have d:k<ops.size:=(Array.getElem?_eq_some_iff.1 p).1;obtain⟨-,A,st⟩:=trace m;obtain⟨z,-⟩:=st k d;obtain⟨q,y⟩:=v (cI P G (whole P G aJ) ops e h k).1;unfold gQ at z;simp only[p,eE,C,y]at z;cases N:q with|none=>simp_all|some x=>exact⟨o,x,_,_,p,E,A k (Nat.le_of_lt d),λR g=>⟨_,_,A R g,by simp_all⟩⟩
def Sq{ops:Array Oper}(B:mo aJ L){A:Env}{C:Heap}(m:bW P G (whole P G aJ) ops (bZ ops.size) e h=J (.normal,A,C)){k:Nat}(o:Lb P ops L k=V):u' P G (whole P G aJ) ops e h k:=by
 unfold Lb at o;split at o
 .rename_i z v;simp only[bm,Option.isNone_iff_eq_none]at o;obtain⟨u,o⟩:=o;split at o
  .rename_i f args q d;obtain⟨D,y⟩:=B f (by simp_all);refine Gf u (by rw[d];rfl) (λg=>⟨D (args.toList.map g.eval),λp=>?_⟩) m v;have:dH P G (whole P G aJ) g p z=(jU P (whole P G aJ) g p {callee:=.value (.func f),args,argTypes:=q}).map λ(r,h1)=>(r,g,h1):=(by unfold dH;rw[d]);rw[this,Sh,rD];unfold k_;rw[y];simp only[Ku];rfl
  .rename_i args q d;refine Gf u (by rw[d];rfl) (λg=>⟨match flatAll (args.toList.map g.eval) with|some l=>(cV P (Builtin.max_ q z.type l.toArray)).bind jf|none=>ag,λp=>?_⟩) m v
   .unfold dH;simp only[d];show(iu P p .max q z.type (args.toList.map g.eval)).map _=_;rw[ac1,Ku];rfl
  .rename_i args q d;refine Gf u (by rw[d];rfl) (λg=>⟨match flatAll (args.toList.map g.eval) with|some l=>(cV P (Builtin.min_ q z.type l.toArray)).bind jf|none=>ag,λp=>?_⟩) m v
   .unfold dH;simp only[d];show(iu P p .min q z.type (args.toList.map g.eval)).map _=_;rw[ac2,Ku];rfl
  .rename_i s E x d;refine Gf u (by rw[d];rfl) (λg=>?_) m v;obtain⟨D,y⟩:=alU (P:=P) (x:=g.eval x) o;refine⟨D,λp=>?_⟩;unfold dH;simp only[d,dk,y,Ku];rfl
  grind
 grind
def iG{id:Nat}{ops:Array Oper}(ps:List (Nat × Nat))(u:mo aJ L)(v:AI ops (Lf P ops L) ps=V)(A:∀p∈ps,jA P G (whole P G aJ) ops e h p.1 p.2=V)
 (g:cq P G (whole P G aJ) ops ops.toList e h (tH Q)):bC (whole P G aJ) (.region id ops V) e h Q:=by
 have m:=g;obtain⟨B,o,z,q,h2⟩:=m;cases B with
 |normal=>
  have d:bW P G (whole P G aJ) ops (bZ ops.size) e h=J (.normal,o,z):=by rw[oa (aV _),<-Array.length_toList,fK];exact q
  exact Pq (LI v (λk y=>Sq u d (uU.1 y).2) A) g
 |_=>exact h2.elim
def du{id:Nat}{ops:Array Oper}(d:mo aJ L)(g:AI ops (Lf P ops L) []=V)
 (o:cq P G (whole P G aJ) ops ops.toList e h (tH Q)):bC (whole P G aJ) (.region id ops V) e h Q:=iG [] d g (λp m=>nomatch m) o
end
end Go.AE
end
section
namespace Go.AE
structure fE(S:List Nat)(n0:Nat)(h h':Heap):Prop where
 box:∀(c:Nat) (cs:List U),c∉S->h.boxes[c]?=J cs->h'.boxes[c]?=J cs
 len:h.boxes.length<=h'.boxes.length
 loop:∀(l:Nat) (r:gV),h.loops[l]?=J r->h'.loops[l]?=J r
 tn:h.tn<=h'.tn
 dead:∀n,n<n0->n∈h'.dead->n∈h.dead
 ok:c_ h=V->c_ h'=V
section
variable {S S':List Nat} {n0:Nat} {h0 h h' h2:Heap}
def fE.refl:fE S n0 h h:=⟨λ_ _ _ d=>d,aV _,λ_ _ d=>d,aV _,λ_ _ d=>d,λd=>d⟩
def fE.trans(m:fE S n0 h h')(k:fE S n0 h' h2):fE S n0 h h2:=
 ⟨λc d g q=>k.box c d g (m.box c d g q),e8 m.len k.len,λl r p=>k.loop l r (m.loop l r p),e8 m.tn k.tn,λn o p=>m.dead n o (k.dead n o p),λp=>k.ok (m.ok p)⟩
def fE.mono(m:fE S n0 h h')(o:∀b∈S,b∈S'):fE S' n0 h h':=⟨λc d g=>m.box c d λp=>g (o c p),m.len,m.loop,m.tn,m.dead,m.ok⟩
def fE.put{b:Nat}(o:b∈S)(cs:List U):fE S n0 h (h.put b cs):=
 ⟨λc m g d=>by rw[cd (λ(e:c=b)=>g (by simp_all))];exact d,by rw[je];omega,λ_ _ d=>d,aV _,λ_ _ d=>d,λd=>d⟩
def fE.fI(m:fE S n0 h h'){b:Nat}(p:F h.boxes<=b)(cs:List U):fE S n0 h (h'.put b cs):=
 ⟨λc d g o=>by have:=(aT.1 o).1;rw[cd M];exact m.box c d g o,by rw[je];exact m.len,m.loop,m.tn,m.dead,m.ok⟩
def fE.push(m:fE S n0 h h')(cs:List U):fE S n0 h (h'.push cs):=
 ⟨λc d g o=>aN (m.box c d g o),by rw[bE];exact Nat.le_succ_of_le m.len,m.loop,m.tn,m.dead,m.ok⟩
def fE.Bx(m:fE S n0 h h')(r:gV):fE S n0 h (h'.loop r):=⟨m.box,m.len,λl g d=>WK (m.loop l g d),m.tn,m.dead,m.ok⟩
def fE.fb(m:fE S n0 h h'){l:Nat}(g:F h.loops<=l)(r:gV):fE S n0 h (h'.fb l r):=
 ⟨m.box,m.len,λk o d=>by have:=(aT.1 d).1;rw[Y9 M];exact m.loop k o d,m.tn,m.dead,m.ok⟩
def fE.EG(x:Ext h h')(p:n0<=h.tn):fE S n0 h h':=⟨λc d _ g=>x.box c d g,x.len,x.loop,x.tn,λn o m=>x.dead n (my o p) m,x.ok⟩
def fE.sO{d:Nat}(m:fE S d h h')(p:n0<=d):fE S n0 h h':=⟨m.box,m.len,m.loop,m.tn,λn o g=>m.dead n (my o p) g,m.ok⟩
def Ext.Oa(x:Ext h0 h)(m:fE S h0.tn h h')(q:∀b∈S,F h0.boxes<=b):Ext h0 h':=
 ⟨λc d o=>m.box c d (λu=>by simp_all) (x.box c d o),λl r o=>m.loop l r (x.loop l r o),e8 x.tn m.tn,λn g p=>x.dead n g (m.dead n g p),λo=>m.ok (x.ok o)⟩
def Grown.Oa{t:Tok}(g:Grown n0 h h' t):fE S n0 h h':=⟨λc m _ q=>g.box c m q,by
 rcases dp (F h'.boxes) (F h.boxes) with d|o
 .have p:=g.box (F h'.boxes) _ (aP d);simp_all
 omega,g.loop,g.tn,g.dead,λ_=>g.ok⟩
end
section
variable {P:bk} {G:Nat->Option (List U)} {aJ:aR->Option (List U->Heap->Option (U × Heap))} {H:Heap} {l:Nat} {rec:gV} {args:List U}
def apW{Post:Heap->Prop}(p:H.loops[l]?=J rec)(A:rec.params.size=F args)(g:rec.state=.ready)(y:rec.pending=ag)
 (v:bC (whole P G aJ) rec.assign (nG l rec args) H (λo m d=>o=.normal/\d=H/\bC (whole P G aJ) rec.body m (H.busy l rec) (λo _ h2=>o=.normal/\h2.loops=(H.busy l rec).loops/\Post {h2 with loops:=H.loops}))):
 ∃H',(whole P G aJ).round l args H=J (.ret (.v (.bool V)),H')/\H'.loops=H.loops/\Post H':=by
 obtain⟨o,m,d,C,rfl,rfl,T,u,h2,D,rfl,E,N⟩:=v;have q:=(aT.1 p).1;have R:(d.busy l rec).loops[l]?=J {rec with state:=.busy}:=by show(d.loops.set l _)[l]?=_;simp[q]
 refine⟨{h2 with loops:=d.loops},IT p A ⟨_,m,d,C,O,rec,p,g,.normal,u,h2,D,{rec with state:=.busy},by simp_all,O,?_⟩,O,N⟩;have z:{rec with state:=LoopState.ready,pending:=ag}=rec:=by cases rec;cases g;cases y;rfl
 have B:h2.loops.set l rec=d.loops:=by
  rw[E];show(d.loops.set l _).set l rec=_;rw[CK];apply oh;intro k;rw[lM];split
  .simp_all
  .rfl
 simp_all
def OY{Post:Heap->Prop}(u:H.loops[l]?=J rec)(v:rec.params.size=F args)(d:rec.state=.ready)(q:rec.pending=ag)
 (p:bC (whole P G aJ) rec.assign (nG l rec args) H (λo g m=>o=.normal/\m=H/\bC (whole P G aJ) rec.body g (H.busy l rec) (λo _ h2=>o=.normal/\h2.loops=(H.busy l rec).loops/\Post {h2 with loops:=H.loops}))):
 ∃H',(whole P G aJ).round l args H=J (.ret (.v (.bool V)),H')/\Post H':=by
 obtain⟨H',y,_,z⟩:=apW u v d q p;simp_all
end
end Go.AE
end
section
namespace Go.NT
def atc{α:Type}{f}{p}:∀{l:List α},(∀i∈l,p i=ah->f i=0)->hh ((l.filter p).map f)=hh (l.map f):=by
 intro l
 induction l with
 |nil=>intro _;rfl|cons x l d=>
  intro h;have d:=d λi m=>h i (gx _ m);cases g:p x
  .rw[List.filter_cons_of_neg (by simp[g]),d];simp only[eI,hh];rw[h x gH g];omega
  .rw[List.filter_cons_of_pos g];simp only[eI,hh,d]
def als{α m:Type}{l:List α}{f}{g:Nat->m}(h:∀i x,l[i]?=J x->f x=g i):l.map f=(bZ (F l)).map g:=by
 apply FN
 .simp
 .intro i d h2;rw[th,th,Ka];exact h i _ (aP (by simpa using d))
def P1(rows)(target):F (fe rows target)=F target:=by unfold fe;simp
def Z3{rows}{target a}(h:a∈fe rows target):∃k,k<F target/\a=rows.map (λr=>af r k)++[af target k]:=by unfold fe at h;obtain⟨k,d,rfl⟩:=jg.1 h;exact⟨k,ie.1 d,O⟩
def acW{rows:List (List Int)}{k i}{t}(hi:i<F rows):af (rows.map (λr=>af r k)++t) i=af (rows.getD i []) k:=by unfold af;rw[eK,List.getElem?_append_left (by simpa using hi),ec,aP hi,m_ hi];rfl
def acX{rows:List (List Int)}{k}{x}:af (rows.map (λr=>af r k)++[x]) (F rows)=x:=by unfold af;rw[eK,List.getElem?_append_right b8];simp
section
variable {rows:List (List Int)} {target l:List Int}
def P2(m:∀r∈rows,∀x∈r,okF x)(o:∀x∈target,okF x):(∀a∈fe rows target,F a=F rows+1)/\∀a∈fe rows target,∀x∈a,okF x:=by
 refine⟨λa d=>?_,λa d x p=>?_⟩
 .obtain⟨k,-,rfl⟩:=Z3 d;simp
 .obtain⟨k,u,rfl⟩:=Z3 d;rcases List.mem_append.1 p with q|q
  .obtain⟨r,g,rfl⟩:=jg.1 q;exact oo (m r g) k
  .rw[ig]at q;subst q;exact oo o k
def combine_sat(R:∀r∈rows,∀x∈r,okF x)(X:∀x∈target,okF x)(h:nT rows target=J l):
 l.length=F rows/\(∀x∈l,okF x)/\∀k,k<F target->Qi∣hh ((bZ (F rows)).map λi=>af l i*af (rows.getD i []) k)-af target k:=by
 obtain⟨t1,t2⟩:=P2 R X;unfold nT at h;dsimp only at h;split at h
 .rename_i d;simp only[dt]at h;subst h;have g:∀i a,F (g' (fe rows target) rows.length).2<=i->(g' (fe rows target) (F rows)).1[i]?=J a->af a (F rows)=0:=λi a z C=>by rw[eJ]at d;have:a∈(g' (fe rows target) (F rows)).1.drop (F (g' (fe rows target) rows.length).2):=(by refine cT (i:=i-F (g' (fe rows target) rows.length).2) ?_;rw[o0];rw[show(F (g' (fe rows target) rows.length).2)+(i-F (g' (fe rows target) rows.length).2)=i by omega];exact C);simpa using d a this
  have T:=asg t1 t2 g;have Z:=(ES t1 t2 (M:F rows<=F rows+1)).1;refine⟨Jl _ _,?_,λk D=>?_⟩
  .have A:∀(o:List (Nat × Nat)) (y:List Int),(∀x∈y,okF x)->∀x∈o.foldl (λy B=>y.set B.1 (af ((g' (fe rows target) (F rows)).1.getD B.2 []) (F rows))) y,okF x:=by
    intro o
    induction o with
    |nil=>intro y v;exact v|cons B o Y=>
     intro y v;refine Y _ λx u=>?_;rcases uV u with q|q
     .exact v x q
     .rw[q];refine oo (λz0 m=>?_) _;rcases dp B.2 (F (g' (fe rows target) rows.length).1) with p|p
      .rw[m_ p]at m;exact Z.ok _ (i_ p) z0 m
      .rw[eK,List.getElem?_eq_none p]at m;simp at m
   unfold nK;exact A _ _ λx u=>by rw[QG u];exact BE
  .have N:rows.map (λr=>af r k)++[af target k]∈fe rows target:=(by unfold fe;exact jg.2 ⟨k,ie.2 D,O⟩);have:=T _ N;unfold Sat res dot at this;rw[Jl,acX]at this;have e:((bZ (F rows)).map λi=>af (nK (g' (fe rows target) (F rows)) (F rows)) i*af (rows.map (λr=>af r k)++[af target k]) i)=(bZ (F rows)).map λi=>af (nK (g' (fe rows target) (F rows)) (F rows)) i*af (rows.getD i []) k:=
    CG λi z=>by rw[acW (ie.1 z)]
   rw[e]at this;exact this
 .cases h
end
def asm{n}{d}{l}:F (oW n d l)=n:=by unfold oW;rw[Dk (λg=>af l g.2)];simp
def aso{n i}{d}{l}(h:i∉d):af (oW n d l) i=0:=by unfold oW;rw[GF (λm=>af l m.2) _ _ λm g e=>h (by subst e;obtain⟨o,p⟩:=m;have:=List.mem_zipIdx g;simp only at this ⊢;rw[this.2.2];exact i_ _)];unfold af;rw[eK,aaR];split<;>rfl
def asl{l}:∀(ps:List (Nat × Nat)) (y:List Int),(ps.map dM).Nodup->(∀p∈ps,p.1<F y)->∀p∈ps,af (ps.foldl (λy p=>y.set p.1 (af l p.2)) y) p.1=af l p.2:=by
 intro ps
 induction ps with
 |nil=>intro y _ _ p d;cases d
 |cons v ps q=>
  intro y g o p d;rw[eI,List.nodup_cons]at g;rcases gU.1 d with rfl|d
  .rw[List.foldl_cons,GF (λp=>af l p.2) _ _ λu m e=>g.1 (jg.2 ⟨u,m,e⟩),F9 (o p gH),av O]
  .exact q _ g.2 (λp d=>by rw[nr];exact o p (gx _ d)) p d
def zip_fst(d:List Nat):d.zipIdx.map dM=d:=by apply FN<;>simp
def PD{n j i}{d}{l}(p:d.Nodup)(g:∀i∈d,i<n)(m:d[j]?=J i):af (oW n d l) i=af l j:=by
 unfold oW;have o:(i,j)∈d.zipIdx:=by rw[List.mem_zipIdx_iff_getElem?];exact m
 exact asl d.zipIdx (bB n 0) (by rw[zip_fst];exact p) (λu q=>by
  rw[mw];refine g _ ?_;have:u.1∈d.zipIdx.map dM:=jg.2 ⟨u,q,O⟩
  rwa [zip_fst]at this) (i,j) o
def asn{n}{p}{l}(v:∀x∈l,okF x):∀x∈oW n p l,okF x:=by
 have u:∀(d:List (Nat × Nat)) (o:List Int),(∀x∈o,okF x)->∀x∈d.foldl (λo z=>o.set z.1 (af l z.2)) o,okF x:=by
  intro d
  induction d with
  |nil=>intro o m;exact m|cons z d y=>
   intro o m;refine y _ λx g=>?_;rcases uV g with q|q
   .exact m x q
   .rw[q];exact oo v _
 exact u _ _ λx g=>by rw[QG g];exact BE
def On{ac who}{i}:i∈dJ ac who↔i<F ac/\af ac i∈who:=by unfold dJ;rw[uU,ie,J7]
def amo(ac who):(dJ ac who).Nodup:=List.nodup_range.filter _
def uw{rows}{ac}(h:cH rows ac=0):F rows=F ac/\F rows<=64/\(∀r∈rows,F r=cg rows/\0<F r/\F r<=64/\∀x∈r,okF x)/\∀x∈ac,0<=x/\x<=63:=by
 unfold cH at h;split at h
 .cases h
 .rename_i m;simp only[Bool.or_eq_true,decide_eq_true_eq,List.any_eq_true,not_or,not_exists,not_and,Nat.not_lt]at m;split at h
  .cases h
  .rename_i h2;have h2:F rows=F ac:=(by simpa using h2);split at h
   .rename_i p;rw[eJ]at p;have g:∀i (d:i<F rows),F rows[i]=F (rows.getD 0 [])/\0<F rows[i]/\(∀x∈rows[i],okF x)/\0<=af ac i/\af ac i<=63:=λi d=>by
     have:=p i (ie.2 d);simp only[m_ d,bm,decide_eq_true_eq,eJ]at this;obtain⟨⟨⟨a,b⟩,c,v⟩,f⟩:=this;refine⟨b,?_,λx o=>?_,c,v⟩
     .rcases Kl (F rows[i]) with q|q
      .rw[List.length_eq_zero_iff]at q;rw[q]at a;cases a
      .exact q
     .have:=f x o;unfold cN at this;simpa [okF] using this
    refine⟨h2,m.1,λr u=>?_,λx o=>?_⟩
    .obtain⟨i,d,rfl⟩:=wC.1 u;obtain⟨a,b,c,-⟩:=g i d;refine⟨?_,b,m.2 _ u,c⟩;unfold cg;rw[aL M];exact a
    .obtain⟨i,d,rfl⟩:=wC.1 o;have:=(g i M).2.2.2
     rwa [gb d]at this
   .cases h
def vd{rows}{ac}(h:cH rows ac=0):0<cg rows/\cg rows<=64:=by
 obtain⟨-,-,d,-⟩:=uw h;unfold cg;split
 .omega
 .rename_i g;have:=d (rows.getD 0 []) (by rw[m_ M];exact i_ _);exact⟨this.2.1,this.2.2.1⟩
def PW{n}(h:0<n):F (fc n)=n:=by unfold fc;simp;omega
def atw{n k}:af (fc n) k=if k=0 then 1 else 0:=by
 unfold fc af;cases k with|zero=>rfl|succ k=>rw[List.getD_cons_succ,eK,aaR];split<;>rfl
def atx{n}:∀x∈fc n,okF x:=by
 intro x d;unfold fc at d;rcases gU.1 d with rfl|q
 .unfold okF;decide
 .rw[QG q];exact BE
def aca{rows}{ac who y}(h:fG rows ac who=(y,V,0)):
 cH rows ac=0/\dy (-1) who=V/\F y=F rows/\(∀x∈y,okF x)/\(∀i,af ac i∉who->af y i=0)/\
  ∀k,k<cg rows->Qi∣hh ((bZ (F rows)).map λi=>af y i*af (rows.getD i []) k)-(if k=0 then 1 else 0):=by
 unfold fG at h;split at h
 .simp at h
 .rename_i m;have m:cH rows ac=0:=by simpa using m
  obtain⟨D,p2,Z,p4⟩:=uw m;split at h
  .simp at h
  .rename_i Y;split at h
   .simp at h
   .rename_i l X;simp only[cL,and_true]at h;subst h;have z:∀i∈dJ ac who,i<F rows:=λi d=>(by rw[D];exact(On.1 d).1);have q:∀r∈(dJ ac who).map (λi=>rows.getD i []),∀x∈r,okF x:=λr q=>(by obtain⟨i,d,rfl⟩:=jg.1 q;rw[m_ (z i d)];exact(Z _ (i_ _)).2.2.2);obtain⟨E,N,u⟩:=combine_sat q atx X;rw[br]at E u;have g:∀i,i∉dJ ac who->af (oW (F rows) (dJ ac who) l) i=0:=λi d=>aso d;refine⟨m,by simpa using Y,asm,asn N,λi d=>g i λz0=>d (On.1 z0).2,λk T=>?_⟩;have:=u k (by rw[PW (vd m).1];exact T);rw[atw]at this;have e:hh ((bZ (F rows)).map λi=>af (oW (F rows) (dJ ac who) l) i*af (rows.getD i []) k)=hh ((bZ (F (dJ ac who))).map λi=>af l i*af (((dJ ac who).map λi=>rows.getD i []).getD i []) k):=(by have R:dJ ac who=(bZ (F rows)).filter λi=>who.contains (af ac i):=(by unfold dJ;rw[D]);have v:=atc (f:=λi=>af (oW (F rows) (dJ ac who) l) i*af (rows.getD i []) k) (p:=λi=>who.contains (af ac i)) (l:=bZ (F rows)) λi d C=>(by rw[g i λz0=>?_,Int.zero_mul];rw[J7.2 (On.1 z0).2]at C;cases C);rw[<-R]at v;rw[<-v];congr 1;refine als λj i o=>?_;have B:=(aT.1 o).1;rw[PD (amo ac who) z o,m_ (t:=(dJ ac who).map λi=>rows.getD i []) (by simpa using B),th];rw[(aT.1 o).2]);rw[e];exact this
end Go.NT
end
section
namespace Go.NT
def Gn:Nat:=4
def aas:elem Gn=V:=by decide+kernel
def wQ(a b:List Int):Int:=(bZ (F a)).foldl (λx j=>dx x (cS (af a j) (af b j))) 0
def si(d row:List Int):Nat:=(bZ (F d)).foldl (λx j=>x*ek (af d j).toNat (af row j)%P) 1
def p8(s:List Int):List Int:=s.map λn=>((ek Gn n:Nat):Int)
def zN(ac:List Int)(d:Int):List Nat:=(bZ (F ac)).filter λi=>decide (af ac i=d)
def gT(rows:List (List Int))(ac:List Int)(l:List Pr):List Int:=(fG rows ac (l.map Pr.aO)).1
def lK(y:List Int)(s:List (Int × Int)):Int:=s.foldl (λa d=>dx a (cS (af y d.1.toNat) d.2)) 0
def Ch(rows:List (List Int))(d:List Int)(p:Int × Int):Bool:=cN p.2&&decide (ek Gn p.2=si d (rows.getD p.1.toNat []))
def mc(rows:List (List Int))(ac d:List Int)(g:Int)(s:List (Int × Int)):Bool:=decide (s.map dM=(zN ac g).map λ(i:Nat)=>(i:Int))&&s.all (Ch rows d)
def vR(l:List Pr)(d:Int):Option Pr:=l.find? λg=>decide (g.aO=d)
def gp(c0:Int)(text:List UInt8)(l:List Pr):Nat:=Ci (jM c0 text l) c0 text
def By(rows:List (List Int))(ac:List Int)(g:List Int)(text:List UInt8)(l:List Pr)(m:Int)(s:List (Int × Int))(d f:Int):Int × Int:=
 match vR l m with
 |none=>(0,1)
 |some x=>
  if !(cN d&&cN f) then (0,1)
  else if !mc rows ac g m s then (0,340)
  else if ¬((ek Gn d:Nat):Int)=x.d∨¬((ek Gn f:Nat):Int)=x.e then (0,420)
  else (dx (dx d (cS f (i' (af g 0) text l m))) (cS (gp (af g 0) text l) (lK (gT rows ac l) s)),0)
def rC(d:Int)(text:List UInt8)(e s:Int):Bool:=bX d&&cN e&&cN s&&decide (e=((Ci ((ek Gn s*ek d.toNat (-e)%P:Nat):Int) d text:Nat):Int))
def aic(b):pF b<Q:=kC _ aY
def HO{x}:cN x=V↔okF x:=by unfold cN okF;simp
def aid(d)(v):cN ((qh d v:Nat):Int)=V:=by rw[HO];have:=aic (kn d (cB v));unfold qh okF;rw[Al];omega
end Go.NT
end
section
namespace Go.NT
def jj(f:Nat->Int)(a:List Int)(c k:Nat):List Int:=(bZ (F a)).map λj=>if c<=j/\j<k then f j else af a j
section
variable {f:Nat->Int} {a own:List Int} {c k j r w:Nat} {t:List (List Int)}
def pq:F (jj f a c k)=F a:=by unfold jj;simp
def AF(d:j<F a):af (jj f a c k) j=if c<=j/\j<k then f j else af a j:=by rw[gb (by rw[pq];exact d)];unfold jj;simp_all
def S9:jj f a c c=a:=by refine uC pq λj d=>?_;rw[pq]at d;rw[AF d,aL M]
def S8(m:c<=k)(g:k<F a):(jj f a c k).set k (f k)=jj f a c (k+1):=by
 refine uC (by rw[nr,pq,pq]) λj d=>?_;rw[nr,pq]at d;rw[F9 (by rw[pq];exact g),AF d,AF d]
 grind
def afF{n:Int}(g:c<=F a):jj (λj=>cS (af a j) n) a c (F a)=gu c a n:=by
 unfold gu;refine uC (by rw[pq,ck,br,cR,eC];omega) λj d=>?_;rw[pq]at d;rw[AF d,As g];by_cases o:j<c
 .omega
 .rw[av M,aL o];have m:j-c<F ((a.drop c).map (cS · n)):=by rw[br,eC];omega
  rw[gb m,th,List.getElem_drop,gb d];simp_all
def oq(c:Nat)(own:List Int)(r j:Nat)(t:List (List Int)):List (List Int):=t.mapIdx λi a=>if i<j/\i≠r then rL c a own else a
def SR:F (oq c own r j t)=F t:=by unfold oq;simp
def tI(i:Nat):(oq c own r j t)[i]?=t[i]?.map λa=>if i<j/\i≠r then rL c a own else a:=by unfold oq;simp_all
def afb:oq c own r 0 t=t:=by apply oh;intro i;rw[tI];simp_all
def ae9:oq c own r (r+1) t=oq c own r r t:=by
 apply oh;intro i;rw[tI,tI]
 grind
def ae8:(oq c own r j t)[j]?=t[j]?:=by rw[tI];simp_all
def ae7:(oq c own r j t)[r]?=t[r]?:=by rw[tI];simp_all
def afa{a:List Int}(d:t[j]?=J a)(m:j≠r):(oq c own r j t).set j (rL c a own)=oq c own r (j+1) t:=by
 apply oh;intro i;rw[lM,SR];have g:=(aT.1 d).1;split
 .rename_i e;subst e
  try rw[av g]
  rw[tI,d,fF,av ⟨Nat.lt_succ_self _,m⟩]
 .rename_i e;rw[tI,tI]
  grind
def Gz{j:Nat}(p:r<=j)(v:j<=F t)(y:∀k,r<=k->k<j->af (t.getD k []) c=0)(o:j<F t->af (t.getD j []) c≠0):mZ t r c=if j=F t then ag else J j:=by
 cases d:mZ t r c with
 |none=>
  by_cases e:j=F t
  .simp_all
  .exact absurd (Ty d M p) (o M)
 |some k=>
  obtain⟨z,A,B⟩:=yv d;have q:j<=k:=by
   rcases dp k j with h|h
   .grind
   .exact h
  rw[aL M];unfold mZ at d;rw[List.find?_eq_some_iff_getElem]at d;obtain⟨-,i,u,g,m⟩:=d;rw[Ka]at g;subst g;rcases dp j i with h|h<;>grind
def asI{pv:List Nat}{k:Nat}{b o:List Int}(u:mZ t (F pv) c=J k)(d:t[k]?=J b)(g:t[pv.length]?=J o):
 uK (t,pv) c=(oq c (gu c b (ej (af b c))) (F pv) (F t) (((t.set (F pv) b).set k o).set (F pv) (gu c b (ej (af b c)))),pv++[c]):=by
 have v:=(aT.1 d).1;have y:=(aT.1 g).1;have p:t.getD k []=b:=by rw[eK,d];rfl
 have q:t.getD (F pv) []=o:=by rw[eK,g];rfl
 unfold uK;simp only[u,p,q];congr 1;generalize gu c b (ej (af b c))=s;have m:((t.set (F pv) b).set k o).set (F pv) s=(t.set k o).set (F pv) s:=by
  by_cases e:k=F pv
  .simp_all
  .rw[List.set_comm _ _ (λz=>e z.symm),CK]
 rw[m];apply oh;intro i;rw[List.getElem?_mapIdx,tI]
 grind
end
end Go.NT
end
section
namespace Go.NT
def UC(d)(v):okF ((qh d v:Nat):Int):=HO.1 (aid d v)
def XU(x)(d)(v):pQ x (qh d v)=ek x ((qh d v:Nat):Int):=by unfold ek;rw[AS (UC d v),fD]
end Go.NT
end
section
namespace Go.Proofs.YtcbhpkjbiehcpaaGreatDoor
open Go.AE Go.NT
def aqB:Tryz.f213.results.toList=[.tmp 2]:=am
def arT{t}{x y}{n}(d:n<=4611686018427387903):cy aa .shl t x y (.v (.int .u64 (n:Nat))) (.v (.int .u64 1))=J (.v (.int .u64 ((2*n:Nat):Int))):=by rw[K4 aY];congr 3;show IntKind.u64.wrap (((n:Nat):Int)*2)=_;unfold IntKind.wrap;simp[IntKind.signed,IntKind.bits];omega
def arX{t}{x y}{n}(d:n<=4611686018427387903):cy aa .shr t x y (.v (.int .i64 (n:Nat))) (.v (.int .u64 63))=J (.v (.int .i64 0)):=by rw[Au aY];congr 3;show((n:Nat):Int).fdiv (2^63)=_;rw[Qq _ aY];omega
def auE{t}{x y}{n}(g:n<=4611686018427387903):cy aa .xor t x y (.v (.int .u64 ((2*n:Nat):Int))) (.v (.int .u64 0))=J (.v (.int .u64 ((2*n:Nat):Int))):=by
 rw[RU];congr 3;have d:(BitVec.ofInt IntKind.u64.bits ((2*n:Nat):Int)^^^BitVec.ofInt IntKind.u64.bits 0).toNat=2*n:=by show(BitVec.ofInt 64 ((2*n:Nat):Int)^^^0#64).toNat=2*n;rw[BitVec.xor_zero,BitVec.toNat_ofInt];omega
 rw[d];unfold IntKind.wrap;simp[IntKind.signed,IntKind.bits];omega
def wh{n}(d:n<18446744073709551616):IntKind.u64.wrap ((n:Nat):Int)=((n:Nat):Int):=by unfold IntKind.wrap;simp[IntKind.signed,IntKind.bits];omega
def at6(n)(g:n<=4611686018427387903)(h):W.call 213 [.v (.int .i64 (n:Nat))] h=J (.ret (.v (.int .u64 (hW n:Nat))),h):=by
 have e:hW (n:Int)=2*n:=by unfold hW;rw[av M,fD]
 rw[e];have m:=wh (n:=n) M;have o:IntKind.u64.wrap 0=0:=rfl;have p:=λt x d=>arT (t:=t) (x:=x) (y:=d) g;have q:=λt x d=>arX (t:=t) (x:=x) (y:=d) g;have u:=λt x d=>auE (t:=t) (x:=x) (y:=d) g;refine cr O Tryz.func213 O ?_;exact dV @aqB @pu
def L1:List aR:=[80,81,75,66,130,202,67,69,162,111,203,193,242,231,222,213,261,262]
noncomputable def OC:aR->Option (List U->Heap->Option (U × Heap)):=lU W L1
noncomputable abbrev W1:=whole aa Gt OC
def Aw:mo OC L1:=rK
def eo{t}(k):oY t (bU k)=V:=by cases k<;>rfl
def qn:∀b:List UInt8,dm (bJ b)=bJ b
 | []=>rfl
 |c::b=>by show a_ (iy c)::dm (bJ b)=_;rw[qn b];rfl
def jl{n l t}:∀b:List UInt8,fg n l t (bJ b)=V
 | []=>rfl
 |c::b=>by show(aA n l t (iy c)&&fg n l t (bJ b))=V;rw[jl b];rfl
def rT:∀l:List Int,dm (ints l)=ints l
 | []=>rfl
 |c::b=>by show a_ (vz c)::dm (ints b)=_;rw[rT b];rfl
def ju{n l t}:∀b:List Int,fg n l t (ints b)=V
 | []=>rfl
 |c::b=>by show(aA n l t (vz c)&&fg n l t (ints b))=V;rw[ju b];rfl
section
variable (a b n x:Int)
def acb:∀h,W1.call 80 [I a,I b] h=J (.ret (I (dx a b)),h):=bT (L:=L1) O O O (aci a b _) O rfl
def alD:∀h,W1.call 81 [I a,I b] h=J (.ret (I (cS a b)),h):=bT (L:=L1) O O O (N' a b _) O rfl
def ajN:∀h,W1.call 222 [I n] h=J (.ret (.tuple [I (if fmod n=0 then 0 else ej n),I (if fmod n=0 then 90 else 0)]),h):=bT (L:=L1) O O O (ajP n _) O rfl
def auf:∀h,W1.call 66 [I x] h=J (.ret (.v (.bool (bX x))),h):=bT (L:=L1) O O O (JD x _) O rfl
def ahv:∀h,W1.call 67 [I a,I b] h=J (.ret (.tuple [I (nV a b),I (rM a b)]),h):=bT (L:=L1) O O O (ahz a b _) O rfl
def ahB:∀h,W1.call 75 [I a,I n] h=J (.ret (.tuple [I (fj a n),I (oK a)]),h):=by obtain⟨h',d,-⟩:=ahF a n ⟨[],[],0,[]⟩;exact bT (L:=L1) O O O d O rfl
def an8:∀h,W1.call 130 [I a,I b] h=J (.ret (I (dx a b)),h):=bT (L:=L1) O O O (aob a b _) O rfl
def apz:∀h,W1.call 202 [I a,I b] h=J (.ret (I (cS a b)),h):=bT (L:=L1) O O O (OV a b _) O rfl
def aoQ:∀h,W1.call 231 [I n] h=J (.ret (.tuple [I (if fmod n=0 then 0 else ej n),I (if fmod n=0 then 90 else 0)]),h):=bT (L:=L1) O O O (aoV n _) O rfl
def arf:∀h,W1.call 111 [I x] h=J (.ret (.v (.bool (bX x))),h):=bT (L:=L1) O O O (arl x _) O rfl
end
def at5(n)(d:n<=4611686018427387903):∀h,W1.call 213 [.v (.int .i64 (n:Nat))] h=J (.ret (.v (.int .u64 (hW n:Nat))),h):=bT (L:=L1) O O O (at6 n d _) O rfl
def ahq(d b)(k)(g:F b<=1099511620000)(o:F d<=1099511620000):∀h,W1.call 69 [.v (.string (bs d)),.list k 1 (bJ b)] h=J (.ret (I (pF (kn d b):Nat)),h):=by obtain⟨h',m,-⟩:=ahu d b (.list (bU k) 1 (bJ b)) ⟨[],[],0,[]⟩ (dz.list (ye _) λ_=>rfl) g o;exact bT (L:=L1) (B:=[.v (.string (bs d)),.list (bU k) 1 (bJ b)]) O (by rw[a_,a_,al.eq_1,qn];rfl) (by simp[aA,au,eo,jl]) m O rfl
def sv(s:List UInt8):U:=.v (.string (bs s))
def ar(k n:Int)(s:List UInt8)(t:Tok)(sz:Nat)(rows:List (List U)):List U:=[I k,I n,sv s,.list t sz rows]
inductive b9:Vl->List U->Prop
 |int (n:Int) (hn:0<=n/\n<=4611686018427387903):b9 (.int n) (ar 1 n [] .nil 0 [])
 |text (s:List UInt8) (hs:s.length<=1099511620000):b9 (.text s) (ar 2 0 s .nil 0 [])
 |list (l:List Vl) (k:Tok) (sz:Nat) (rows:List (List U)) (hl:rows.length=l.length) (hs:rows≠[]->sz=4) (hm:rows.length<=1000000) (h:∀(i:Nat) v r,l[i]?=J v->rows[i]?=J r->b9 v r):b9 (.list l) (ar 3 0 [] k sz rows)
def b9.len{v}{r}(h:b9 v r):F r=4:=by cases h<;>rfl
def iZ{k n}{s}{t}{sz}{rows}:(U.agg (ar k n s t sz rows)).bF=J (ar k n s t sz rows):=rfl
def b9.cells{v}{r}(h:b9 v r):(U.agg r).bF=J r:=by cases h<;>rfl
def E_:Tryz.f210.results.toList=[.tmp 2,.tmp 3]:=am
def KL:fH aa 118=J V:=am
def nm:cC aa 118=J 4:=am
def Rx:fH aa 116=J ah:=am
def ag9:fH aa 9=J ah:=am
def ag4:fH aa 4=J ah:=am
def atm:cC aa 262=J 4:=am
section
variable {H:Heap} {b:Nat} {k n:Int} {s:List UInt8} {t:Tok} {sz:Nat} {rows:List (List U)}
def pN(d:H.boxes[b]?=J (ar k n s t sz rows)):aD aa Gt H 3 (.ptr (.box b) 0)=J (.v (.int .i64 k)):=by rw[fm dY d];rfl
def rX(d:H.boxes[b]?=J (ar k n s t sz rows)):aD aa Gt H 3 (.ptr (.box b) 1)=J (.v (.int .i64 n)):=by rw[fm dY d];rfl
def qu(d:H.boxes[b]?=J (ar k n s t sz rows)):aD aa Gt H 9 (.ptr (.box b) 2)=J (.v (.string (bs s))):=by rw[fm ag9 d];rfl
def jJ(d:H.boxes[b]?=J (ar k n s t sz rows)):aD aa Gt H 116 (.ptr (.box b) 3)=J (.list t sz rows):=by rw[fm Rx d];rfl
def ni{r:List U}(g:F r=4)(d:H.boxes[b]?=J r):aD aa Gt H 118 (.ptr (.box b) 0)=J (.agg r):=by rw[fR KL nm d M,gG,<-g,fK]
end
def d_:(∀b,dU aa 118 (.ptr (.box b) 0) 0=J (.ptr (.box b) 0))/\(∀b,dU aa 118 (.ptr (.box b) 0) 1=J (.ptr (.box b) 1))/\(∀b,dU aa 118 (.ptr (.box b) 0) 2=J (.ptr (.box b) 2))/\∀b,dU aa 118 (.ptr (.box b) 0) 3=J (.ptr (.box b) 3):=⟨λ_=>am,λ_=>am,λ_=>am,λ_=>am⟩
def b4(a b c:Bool):List U:=[.v (.bool ah),.v (.bool a),.v (.bool b),.v (.bool c)]
def KU(a b c):iI aa 262 [(1,.v (.bool a)),(2,.v (.bool b)),(3,.v (.bool c))]=J (.agg (b4 a b c)):=am
def auK:(fW aa 262).bind U.bF=J (b4 ah ah ah):=am
def sQ:(fW aa 118).bind U.bF=J (ar 0 0 [] .nil 0 []):=am
def PE(H:Heap)(a b c):bV aa (H.push (b4 ah ah ah)) 262 (.ptr (.box (F H.boxes)) 0) (.agg (b4 a b c))=J (H.push (b4 a b c)):=lJ O atm O rfl
def NH{b n}{k}(m:n<4):dK aa 262 (.ptr (.box b) 0) (.v (.int k (n:Nat)))=J (.ptr (.box b) n):=by have g:aa.underlying 262=J (.array 4 4):=Tryz.underlying262;have d:cC aa 4=J 1:=am;unfold dK;simp only[g,d];rw[av ⟨M,by omega⟩];simp
def NI{b}:dK aa 262 (.ptr (.box b) 0) (.v (.int .i64 1))=J (.ptr (.box b) 1)/\dK aa 262 (.ptr (.box b) 0) (.v (.int .i64 2))=J (.ptr (.box b) 2)/\dK aa 262 (.ptr (.box b) 0) (.v (.int .i64 3))=J (.ptr (.box b) 3):=⟨NH (n:=1) aY,NH (n:=2) aY,NH (n:=3) aY⟩
def ldb{H}{b}{x y z}(d:H.boxes[b]?=J (b4 x y z)):aD aa Gt H 4 (.ptr (.box b) 1)=J (.v (.bool x))/\aD aa Gt H 4 (.ptr (.box b) 2)=J (.v (.bool y))/\aD aa Gt H 4 (.ptr (.box b) 3)=J (.v (.bool z)):=by refine⟨?_,?_,?_⟩<;>(rw[fm ag4 d];rfl)
def NL{H:Heap}{x}{p q r}:aD aa Gt ((H.push x).push (b4 p q r)) 4 (.ptr (.box (F (H.push x).boxes)) 1)=J (.v (.bool p))/\aD aa Gt ((H.push x).push (b4 p q r)) 4 (.ptr (.box (F (H.push x).boxes)) 2)=J (.v (.bool q))/\aD aa Gt ((H.push x).push (b4 p q r)) 4 (.ptr (.box (F (H.push x).boxes)) 3)=J (.v (.bool r)):=ldb (aK _ _)
def PS{H:Heap}{v}{r}(d:b9 v r):bV aa (H.push (ar 0 0 [] .nil 0 [])) 118 (.ptr (.box (F H.boxes)) 0) (.agg r)=J (H.push r):=lJ d.cells nm d.len rfl
def Es{H}{rows}{i}{r}(d:F r=4)(g:rows[i]?=J r):aD aa Gt H 118 (.elem 4 rows i 0)=J (.agg r):=by rw[Ev KL nm g M,gG,<-d,fK]
def Lt:∀l m:List Vl,fY (l++m)=max (fY l) (fY m)
 | [],m=>by simp[fY]
 |v::l,m=>by rw[ey,fY,fY,Lt l m,Nat.max_assoc]
def Lu{l:List Vl}{i}{v}(h:l[i]?=J v):fY (l.take (i+1))=max (fY (l.take i)) (fA v):=by rw[gg h,Lt];simp[fY]
def Lv(l)(i):fY (l.take i)<=fY l:=by have:=Lt (l.take i) (l.drop i);rw[pX]at this;omega
def Tb{l}{i:Nat}{v}(h:l[i]?=J v):fA v<=fY l:=by have d:=Lu h;have h2:=Lv l (i+1);omega
def agY{v:Vl}{r:List U}(m:b9 v r):fA v<=100->∀h,∃h',W1.call 210 [.agg r] h=J (.ret (.tuple [.v (.int .i64 (fA v:Nat)),.v (.bool V)]),h')/\Ext h h':=by
 have u9:=An;have u94:=lO;have z1:=auK
 induction m with
 |int n hn=>
  intro _ h;refine gI O Rd O ?_;show bC _ _ _ _ (wT _ _ _ _ (.ret (.tuple [.v (.int .i64 0),.v (.bool V)])) _)
  repeat' (first|simp(maxSteps:=9999999) (disch:=first|exact dZ|fail) only[gW,reduceIte,aH,aC,E_,KU,PE,iZ,pN,rX,qu,jJ,NI,d_,NL,f_,qG,decide_true, *]|refine dX ?_ ?_<;>(intro _;try omega))
  all_goals exact⟨_,O,(Ext.push _ _).trans (Ext.push _ _)⟩
 |text s y=>
  intro _ h;refine gI O Rd O ?_;show bC _ _ _ _ (wT _ _ _ _ (.ret (.tuple [.v (.int .i64 0),.v (.bool V)])) _)
  repeat' (first|simp(maxSteps:=9999999) (disch:=first|exact dZ|fail) only[gW,reduceIte,aH,aC,E_,KU,PE,iZ,pN,rX,qu,jJ,NI,d_,NL,f_,qG,decide_true, *]|refine dX ?_ ?_<;>(intro _;try omega))
  all_goals exact⟨_,O,(Ext.push _ _).trans (Ext.push _ _)⟩
 |list l k sz rows B y hm g C=>
  intro u h;have E:=ae.mk u;have kr:=ae.mk g;have N:=ae.mk C;have kh:=ae.mk y;have R:=ae.mk B;refine gI O Rd O ?_;clear g C y u B;by_cases h0:(F rows:Int)=0
  all_goals
   repeat' (first|simp(maxSteps:=9999999) (disch:=first|exact dZ|fail) only[gW,reduceIte,aH,aC,E_,KU,PE,iZ,pN,rX,qu,jJ,NI,d_,NL,qG,decide_true, *]|refine dX ?_ ?_<;>(intro _;try omega))
   refine b_ (λz0 e H=>∃i:Nat,i<=F rows/\z0=F rows-i/\e.get 55=.list k sz rows/\e.get 56=.v (.int .i64 (F rows:Nat))/\e.get 57=.v (.int .i64 i)/\e.get 2=.v (.int .i64 (fY (l.take i):Nat))/\e.defers=[]/\Ext h H) ?_ (F rows) _ _ ?_;rotate_left 1
   .refine⟨0,bY _,O,?_,?_,?_,?_,?_,(Ext.push _ _).trans (Ext.push _ _)⟩<;>(first|assumption|(simp only[gW,reduceIte,aH,aC]<;>first|rfl|(rw[h0])))
   rintro z0 e H ⟨i,hi,rfl,g55,g56,g57,Z,u,A⟩;have z:=ae.mk A;clear A;by_cases q:i<F rows
   .obtain⟨r,g⟩:∃r,rows[i]?=J r:=⟨_,aP q⟩;obtain⟨v,m⟩:∃v,l[i]?=J v:=⟨_,aP (by have:=R.out;omega)⟩;have d:=kr.out i v r m g;have h4:sz=4:=kh.out (by rintro rfl;simp at q);subst h4;have p:fA (.list l)=fY l+1:=rfl;have hdv:=Tb m;have hdt:=Lv l i;have o:=E.out;obtain⟨H2,c1,X⟩:=N.out i v r m g M (H.push r);have ld:=Es (H:=H) d.len g;have st:=PS (H:=H) d;have l2:aD aa Gt (H.push r) 118 (.ptr (.box (F H.boxes)) 0)=J (.agg r):=ni d.len (aK _ _);have zz:=sQ;have s96:=nm;have D:=ae.mk (z.out.trans ((Ext.push H r).trans X));have T:=ae.mk (Lu m);have Hj:(i:Int)<(F rows:Int):=(by omega);clear z d m g X p o;have hmx:(if ((fY (l.take i):Nat):Int)<((fA v:Nat):Int) then ((fA v:Nat):Int) else ((fY (l.take i):Nat):Int))=((max (fY (l.take i)) (fA v):Nat):Int):=by split<;>omega
    repeat' (first|simp(maxSteps:=9999999) (disch:=first|exact dZ|fail) only[gW,reduceIte,aH,aC,E_,aU,zH, *]|refine dX ?_ ?_<;>(intro _;try omega))
    all_goals exact⟨F rows-(i+1),by omega,i+1,by omega,O,by trivial,by trivial,by simp,by rw[T.out],by trivial,D.out⟩
   .have:i=F rows:=(by omega);subst this;have o:=E.out;have Y:l.take (F rows)=l:=(by rw[R.out];exact fK);rw[Y]at Z;have p:fA (.list l)=fY l+1:=rfl;rw[p]at o ⊢;have e2:((fY l+1:Nat):Int)=((fY l:Nat):Int)+1:=by omega
    repeat' (first|simp(maxSteps:=9999999) (disch:=first|exact dZ|fail) only[gW,reduceIte,aH,aC,E_, *]|refine dX ?_ ?_<;>(intro _;try omega))
    all_goals exact⟨_,O,z.out⟩
def Pd:Tryz.f212.results.toList=[.tmp 4]:=am
def KN{H}{k}{n0 sz}{es new}{x}{t1}(o:(∃e,aa.underlying t1=J (.slice e))∨aa.underlying t1=J .string)(v:jL H 1 x=J (bJ new))(g:new≠[])(q:F es+F new<=8796093022208)(u:sz=1∨(es=[]/\k=.nil))(p:db n0 H k):
 gm aa H #[60,t1] (.list k sz (bJ es)) x=J (.list (.free H.tn) 1 (bJ (es++new)),H.app k):=by
 obtain⟨i,y,d,z,A⟩:=Bl;have B:=jt q z;have:=Ar (t0:=60) (n0:=n0) (i:=i) (sz:=sz) (es:=bJ es) (new:=bJ new) lQ o y M (by rw[d];exact A) (by rw[d];exact v) (by simpa using g)
  (by rw[br,br];omega) (by rw[br,br];omega) (u.imp (λm=>m.trans d.symm) λm=>⟨by rw[m.1];rfl,m.2⟩) p
 rw[this,d];simp[bJ]
def CY{H}{k N}{n0 sz}{es}{c}(m:F es<8796093022208)(g:sz=1∨(es=[]/\k=.nil))(d:db n0 H k):
 gm aa H #[60,60] (.list k sz (bJ es)) (.list N 1 [[cP c]])=J (.list (.free H.tn) 1 (bJ (es++[c])),H.app k):=
 KN (new:=[c]) (.inl ⟨_,lQ⟩) O b8 (by simp;omega) g d
def ya(c):fy aa 60 1 [(0,cP c)]=J (.list .tight 1 [[cP c]]):=am
def ame(c):c%256|||128=c%128+128:=by
 have h:∀d:Fin 256,(d.val|||128)=d.val%128+128:=by decide+kernel
 have:=h ⟨c%256,kC _ aY⟩;simp only at this;rw[this];omega
def amf{t}{x y}(c):cy aa .or t x y (.v (.int .u8 (IntKind.u8.wrap (c:Nat)))) (.v (.int .u8 128))=J (cP (UInt8.ofNat (c%128+128))):=by
 have o:IntKind.u8.wrap ((c:Nat):Int)=((c%256:Nat):Int):=by unfold IntKind.wrap;simp[IntKind.signed,IntKind.bits]
 have m:(UInt8.ofNat (c%128+128)).toNat=c%128+128:=by have:(UInt8.ofNat (c%128+128)).toNat=(c%128+128)%256:=UInt8.toNat_ofNat';omega
 unfold cP;rw[o,KZ,m];congr 3;have d:BitVec.ofInt IntKind.u8.bits ((c%256:Nat):Int)=BitVec.ofNat 8 (c%256):=by apply BitVec.eq_of_toNat_eq;show(BitVec.ofInt 8 ((c%256:Nat):Int)).toNat=(BitVec.ofNat 8 (c%256)).toNat;rw[BitVec.toNat_ofInt,BitVec.toNat_ofNat];omega
 have g:(BitVec.ofInt IntKind.u8.bits ((c%256:Nat):Int)|||BitVec.ofInt IntKind.u8.bits 128).toNat=c%128+128:=by rw[d];show(BitVec.ofNat 8 (c%256)|||128#8).toNat=_;rw[BitVec.toNat_or,BitVec.toNat_ofNat,mS (M:c%256<2^8)];exact ame c
 rw[g,LL M M]
def arY{t}{x y}{n}:cy aa .shr t x y (.v (.int .u64 (n:Nat))) (.v (.int .u64 7))=J (.v (.int .u64 ((n/128:Nat):Int))):=by rw[Au aY];congr 3;show((n:Nat):Int).fdiv (2^7)=_;rw[Qq _ aY];simp
def ia:∀(k u:Nat),F (eZ k u)<=k+1
 |0,u=>by simp[eZ]
 |k+1,u=>by
  rw[eZ];split
  .simp
  .have:=ia k (u/128);simp;omega
def Og(u:Nat)(Y:u<18446744073709551616)(es:List UInt8)(k:Tok)(sz n0:Nat)(h:Heap)(X:c_ h=V)(R:db n0 h k)(T:n0<=h.tn)(v:sz=1∨(es=[]/\k=.nil))(hl:F es<=1099511627776):
 ∃r h',W1.call 212 [.list k sz (bJ es),.v (.int .u64 (u:Nat))] h=J (r,h')/\∃t,r=.ret (.list t 1 (bJ (es++eZ 9 u)))/\Grown n0 h h' t:=by
 have q:=ae.mk (Grown.refl R X);clear R X;refine bL O Tryz.func212 O ?_;refine bh @Pd ?_;refine b_ (λm e H=>∃(j:Nat) (t:Tok) (d:List UInt8) (s:Nat),j<=9/\m<2*128^j/\d++eZ j m=es++eZ 9 u/\F d+j=F es+9/\(s=1∨(d=[]/\t=.nil))/\e.get 0=.list t s (bJ d)/\e.get 1=.v (.int .u64 (m:Nat))/\e.defers=[]/\Grown n0 h H t) ?_ u _ _ ?_;rotate_left 1
 .exact⟨9,k,es,sz,aV _,by simpa using Y,O,O,v,by exact gR,by exact gR,by exact gR,q.out⟩
 clear q Y;rintro m e H ⟨j,t,d,s,hj,C,o,eM,v,g0,g1,hd,B⟩;have q:=ae.mk B;have z:=ae.mk B.can;clear B;by_cases p:m<128
 .have g:=Xj (k:=j) p;rw[g]at o;have Z:cP (UInt8.ofNat m)=.v (.int .u8 ((m:Nat):Int)):=by have:(UInt8.ofNat m).toNat=m%256:=UInt8.toNat_ofNat';unfold cP;rw[this,mS M]
  have E:¬((128:Int)<=((m:Nat):Int)):=by omega
  have A:=CY (N:=.tight) (c:=UInt8.ofNat m) (M:F d<8796093022208) v z.out;rw[o]at A;have D:=ya (UInt8.ofNat m);rw[Z]at A D;clear C p g o Z;refine bG @Pd @Db ?_;exact⟨_,_,O,_,O,q.out.app T⟩
 .obtain⟨y,rfl⟩:∃y,j=y+1:=⟨j-1,by
   rcases j with _|j
   .omega
   .omega⟩
  have g:=Xk (k:=y) (M:128<=m);rw[g]at o;have E:(128:Int)<=((m:Nat):Int):=by omega
  have D:=ya (UInt8.ofNat (m%128+128));have A:=CY (N:=.tight) (c:=UInt8.ofNat (m%128+128)) (M:F d<8796093022208) v z.out;have kq:=ae.mk o;have km:=ae.mk C;clear g o C;refine bA @Pd @Db @amf @arY ?_;refine⟨m/128,by omega,y,.free H.tn,d++[UInt8.ofNat (m%128+128)],1,by omega,?_,?_,by simp;omega,.inl O,by trivial,by trivial,by trivial,q.out.app T⟩
  .have:=km.out;rw[xW]at this;omega
  .rw[iO];exact kq.out
def aqw:Tryz.f146.results.toList=[.tmp 0]:=am
def Pc:Tryz.f211.results.toList=[.tmp 4]:=am
def Pe:Tryz.f214.results.toList=[.tmp 4]:=am
def B8:Tryz.f215.results.toList=[.tmp 5]:=am
def gq:U:=.v .nilFunc
def sN(a:Nat):List U:=[gq,.func (.func 211) [] [],.func (.func 214) [] [],.func (.func 215) [] [.ptr (.box a) 0]]
def atj:cC aa 181=J 1:=am
def acn:fH aa 181=J ah:=am
def aco:fH aa 184=J ah:=am
def atk:cC aa 184=J 1:=am
def ac9:iI aa 236 []=J (.agg [gq,gq,gq,gq]):=am
def auG:(fW aa 184).bind U.bF=J [.v (.pointer ag)]:=am
def HS{b n}{k}(g:n<4):dK aa 236 (.ptr (.box b) 0) (.v (.int k (n:Nat)))=J (.ptr (.box b) n):=by have d:aa.underlying 236=J (.array 4 183):=Tryz.underlying236;have sz:cC aa 183=J 1:=am;unfold dK;simp only[d,sz];rw[av ⟨M,by omega⟩];simp
def ixw{b}:dK aa 236 (.ptr (.box b) 0) (.v (.int .i64 1))=J (.ptr (.box b) 1)/\dK aa 236 (.ptr (.box b) 0) (.v (.int .i64 2))=J (.ptr (.box b) 2)/\dK aa 236 (.ptr (.box b) 0) (.v (.int .i64 3))=J (.ptr (.box b) 3):=⟨HS (n:=1) aY,HS (n:=2) aY,HS (n:=3) aY⟩
def yq{r}{o}:dU aa 183 (.ptr r o) 0=J (.ptr r o):=am
def stw{h:Heap}{c q}{k}{f}{a b}(d:F c=4)(g:k<4):bV aa ((h.push c).push q) 181 (.ptr (.box (F h.boxes)) k) (.func f a b)=J ((h.push (c.set k (.func f a b))).push q):=by rw[fC (xs:=[.func f a b]) O atj (aN (aK _ _)) O M];congr 1;rw[anG (by rw[bE];omega),mg];congr 2;unfold dC;rw[xT,av M];simp
def Wn{H}{a b}(d:H.boxes[a]?=J [.ptr (.box b) 0]):aD aa Gt H 184 (.ptr (.box a) 0)=J (.ptr (.box b) 0):=by rw[fm aco d];rfl
def aku{h:Heap}{c}:aD aa Gt ((h.push c).push [.ptr (.box (F h.boxes)) 0]) 184 (.ptr (.box (F (h.push [gq,gq,gq,gq]).boxes)) 0)=J (.ptr (.box (F h.boxes)) 0):=by refine Wn ?_;rw[bE,<-bE h c];exact aK _ _
def asr{H:Heap}{b}:bV aa (H.push [.v (.pointer ag)]) 184 (.ptr (.box (F H.boxes)) 0) (.ptr (.box b) 0)=J (H.push [.ptr (.box b) 0]):=lJ O atk O rfl
def auB(h:Heap):W1.call 146 [] h=J (.ret (.ptr (.box (F h.boxes)) 0),(h.push (sN (F h.boxes+1))).push [.ptr (.box (F h.boxes)) 0]):=by
 have p:=auG;have d:(U.agg [gq,gq,gq,gq]).bF=J [gq,gq,gq,gq]:=rfl;have e:sN (F h.boxes+1)=(([gq,gq,gq,gq].set 1 (.func (.func 211) [] [])).set 2 (.func (.func 214) [] [])).set 3 (.func (.func 215) [] [.ptr (.box (F (h.push [gq,gq,gq,gq]).boxes)) 0]):=by rw[bE];rfl
 rw[e];have g:F [gq,gq,gq,gq]=4:=rfl;have m:F ([gq,gq,gq,gq].set 1 (.func (.func 211) [] []))=4:=rfl;have o:F (([gq,gq,gq,gq].set 1 (.func (.func 211) [] [])).set 2 (.func (.func 214) [] []))=4:=rfl;refine cr O Tryz.func146 O ?_;exact jn @aqw @ac9 @asr (aj @aku (aj @ixw (aj @yq @stw)))
def Fx:Vl->aR
 | .int _=>211
 | .text _=>214
 | .list _=>215
def Fw(a:Nat):Vl->List U
 | .list _=>[.ptr (.box a) 0]
 |_=>[]
def ph:fy aa 60 1 [(0,.v (.int .u8 1))]=J (.list .tight 1 [[cP 1]])/\fy aa 60 1 [(0,.v (.int .u8 2))]=J (.list .tight 1 [[cP 2]])/\fy aa 60 1 [(0,.v (.int .u8 3))]=J (.list .tight 1 [[cP 3]]):=⟨ya 1,ya 2,ya 3⟩
def auz(n:Nat)(C:n<=4611686018427387903)(es:List UInt8)(k:Tok)(sz n0:Nat)(H:Heap)(q:c_ H=V)(p:db n0 H k)(h0:n0<=H.tn)(y:sz=1∨(es=[]/\k=.nil))(X:F es<=1099511627000):
 ∃A H',W1.call 211 [.list k sz (bJ es),.agg (ar 1 (n:Nat) [] .nil 0 [])] H=J (A,H')/\∃t,A=.ret (.list t 1 (bJ (es++cB (.int (n:Nat)))))/\Grown n0 H H' t:=by
 have g:Grown n0 H (H.push (ar 1 (n:Nat) [] .nil 0 [])) k:=(Grown.refl p q).push _;have R:=CY (H:=H.push (ar 1 (n:Nat) [] .nil 0 [])) (N:=.tight) (c:=1) (M:F es<8796093022208) y g.can;have d:=g.app h0;have z:hW ((n:Nat):Int)<18446744073709551616:=by unfold hW;rw[av M];omega
 obtain⟨Y,E,B,t3,rfl,o⟩:=Og (hW ((n:Nat):Int)) z (es++[1]) _ 1 n0 _ d.ok d.can (e8 h0 d.tn) (.inl O) (by simp;omega);have D:=ae.mk (d.trans o);have m:es++[1]++eZ 9 (hW ((n:Nat):Int))=es++cB (.int (n:Nat)):=by rw[cB];simp
 rw[m]at B;clear g d o q p y m z;refine bL O Tryz.func211 O ?_;have T:=at5 n C;refine bA @Pc @ph @iZ (aj @rX (aj @d_ @dS)) ?_;refine iG [(2,4)] Aw am (λZ u=>?_) ?_
 .simp only[ig]at u;subst u;refine kj (x:=.ptr (.box (F H.boxes)) 1) (v:=.v (.int .i64 (n:Nat))) am O O O am (by simp[cE,gF]) ?_ ?_<;>(simp only[dw,cX];exact jn @Pc @ph @iZ (aj @rX (aj @d_ (aj @dS @and_self))))
 refine bA @Pc @ph @iZ (aj @rX (aj @d_ @dS)) ?_;exact⟨_,_,O,_,O,D.out⟩
def Xi(H)(s):jL H 1 (.v (.string (bs s)))=J (bJ s):=by unfold jL;simp[bs]
def RE{H}{k}{n0}{es s}(p:F es+F s<=8796093022208)(d:db n0 H k)(m:c_ H=V)(q:n0<=H.tn):
 ∃t H',gm aa H #[60,9] (.list k 1 (bJ es)) (.v (.string (bs s)))=J (.list t 1 (bJ (es++s)),H')/\Grown n0 H H' t:=by
 by_cases o:s=[]
 .subst o;obtain⟨i,u,g,y,v⟩:=Bl;refine⟨k,H,?_,Grown.refl d m⟩;rw[acJ lQ (.inr An) u M (by rw[g];exact v) (by rw[g];exact Xi H []) (.inl g.symm),gj]
 .exact⟨_,_,KN (.inr An) (Xi H s) o p (.inl O) d,Grown.one d m q⟩
def ZG(s):dB aa 9 (.v (.string (bs s)))=J (.v (.int .i64 (F s:Nat))):=by rw[WD An,yd]
def auA(s:List UInt8)(Y:F s<=1099511620000)(es:List UInt8)(k:Tok)(sz n0:Nat)(H:Heap)(C:c_ H=V)(B:db n0 H k)(h0:n0<=H.tn)(E:sz=1∨(es=[]/\k=.nil))(hl:F es<=1099511627000):
 ∃R H',W1.call 214 [.list k sz (bJ es),.agg (ar 2 0 s .nil 0 [])] H=J (R,H')/\∃t,R=.ret (.list t 1 (bJ (es++cB (.text s))))/\Grown n0 H H' t:=by
 have p:Grown n0 H (H.push (ar 2 0 s .nil 0 [])) k:=(Grown.refl B C).push _;have ap:=CY (H:=H.push (ar 2 0 s .nil 0 [])) (N:=.tight) (c:=2) (M:F es<8796093022208) E p.can;have d:=p.app h0;obtain⟨r3,T,c3,t3,rfl,g⟩:=Og (F s) M (es++[2]) _ 1 n0 _ d.ok d.can (e8 h0 d.tn) (.inl O) (by simp;omega);have y:=d.trans g;have nl:=ia 9 (F s);obtain⟨t4,Z,q,z⟩:=RE (es:=es++[2]++eZ 9 (F s)) (s:=s) (by simp;omega) g.can g.ok (e8 h0 (e8 d.tn g.tn));have X:=ae.mk (y.trans z);have u:es++[2]++eZ 9 (F s)++s=es++cB (.text s):=by rw[cB];simp
 rw[u]at q;have m:(H.push (ar 2 0 s .nil 0 [])).boxes[H.boxes.length]?=J (ar 2 0 s .nil 0 []):=aK _ _;have o:((H.push (ar 2 0 s .nil 0 [])).app k).boxes[H.boxes.length]?=J (ar 2 0 s .nil 0 []):=by rw[dS];exact m
 have b3:T.boxes[H.boxes.length]?=J (ar 2 0 s .nil 0 []):=g.box _ _ o;have l1:=qu o;have l3:=qu b3;have l0:=qu m;have sl:=ZG s;have A:=wh (n:=s.length) M;clear p d g y z C B E u m o b3 nl;refine bL O Tryz.func214 O ?_;refine bA @Pe @ph @iZ (aj @d_ @pu) ?_;refine iG [(2,4),(2,9),(7,9)] Aw am (λz0 D=>?_) ?_
 .simp only[gU,qJ,or_false]at D;rcases D with rfl|rfl|rfl
  all_goals
   refine kj (x:=.ptr (.box (F H.boxes)) 2) (v:=.v (.string (bs s))) am O O O am (by simp[cE,gF]) ?_ ?_<;>(simp only[dw,cX];exact jn @Pe @ph @iZ (aj @d_ (aj @pu @and_self)))
 refine bA @Pe @ph @iZ (aj @d_ @pu) ?_;exact⟨_,_,O,_,O,X.out⟩
def zA:Vl->Nat
 | .int _=>1
 | .text _=>2
 | .list _=>3
def NN{H}{x}{v}{r}(g:b9 v r)(d:H.boxes[x]?=J r):aD aa Gt H 3 (.ptr (.box x) 0)=J (.v (.int .i64 (zA v:Nat))):=by cases g<;>exact pN d
def Ep{b}{v}:dK aa 236 (.ptr (.box b) 0) (.v (.int .i64 (zA v:Nat)))=J (.ptr (.box b) (zA v)):=by exact HS (by cases v<;>simp[zA])
def NM{H}{a b}{v}(d:H.boxes[b]?=J (sN a)):aD aa Gt H 181 (.ptr (.box b) (zA v))=J (.func (.func (Fx v)) [] (Fw a v)):=by rw[fm acn d];cases v<;>rfl
def Tn{l:List Vl}{i}{v}(h:l[i]?=J v):gd (l.take (i+1))=gd (l.take i)++cB v:=by rw[gg h,Tl];simp[gd]
def Tm(l)(i):F (gd (l.take i))<=F (gd l):=by have:=Tl (l.take i) (l.drop i);rw[pX]at this;rw[this,ck];omega
mutual
def Px(v:Vl):∀r,b9 v r->fV r r=V:=by
 intro r h;cases h with|int n p=>simp[ar,fV,cE,gF,I,sv,ry,mI]|text s m=>simp[ar,fV,cE,gF,I,sv,ry,mI]|list l k sz rows d m o g=>have:=Py l rows d g;simp[ar,fV,cE,gF,I,sv,this];cases k<;>simp[ry]
def Py(l:List Vl):∀rows:List (List U),F rows=F l->(∀(i:Nat) v r,l[i]?=J v->rows[i]?=J r->b9 v r)->mI rows rows=V:=by
 intro rows d h
 match l,rows,d,h with
 | [],[],_,_=>rfl
 |v::l,r::rows,d,h=>rw[mI,Px v r (h 0 v r O O),Py l rows (by simpa using d) λi v r m g=>h (i+1) v r (by simpa using m) (by simpa using g)];rfl
end
def auy{v:Vl}{r:List U}(T:b9 v r):∀(a b:Nat) (es:List UInt8) (k:Tok) (sz n0:Nat) (H:Heap),H.boxes[a]?=J [.ptr (.box b) 0]->H.boxes[b]?=J (sN a)->c_ H=V->db n0 H k->n0<=H.tn->(sz=1∨(es=[]/\k=.nil))->F es+F (cB v)<=1099511627000->
 ∃r' H',W1.call (Fx v) (.list k sz (bJ es)::.agg r::Fw a v) H=J (r',H')/\∃t,r'=.ret (.list t 1 (bJ (es++cB v)))/\Grown n0 H H' t:=by
 induction T with
 |int n hn=>intro a b es k sz n0 H _ _ E D h0 R u;obtain⟨z0,rfl⟩:∃z0:Nat,n=z0:=⟨n.toNat,by omega⟩;exact auz z0 M es k sz n0 H E D h0 R M
 |text s z=>intro a b es k sz n0 H _ _ E D h0 R u;exact auA s z es k sz n0 H E D h0 R M|list l g d rows y z hm p ih=>
  intro a b es k sz n0 H ha hb E D h0 R u;have sr:=Py l rows y p;have kr:=ae.mk p;have kih:=ae.mk ih;have ksl:=ae.mk z;have kll:=ae.mk y;have Z:cB (.list l)=3::(eZ 9 (F l)++gd l):=by rw[cB]
  rw[Z]at u ⊢;have g1:Grown n0 H (H.push (ar 3 0 [] g d rows)) k:=(Grown.refl D E).push _;have ap:=CY (H:=H.push (ar 3 0 [] g d rows)) (N:=.tight) (c:=3) (M:F es<8796093022208) R g1.can;have B:=g1.app h0;simp only[ef,ck]at u;obtain⟨r3,H3,c3,t3,rfl,C⟩:=Og (F l) M (es++[3]) _ 1 n0 _ B.ok B.can (e8 h0 B.tn) (.inl O) (by simp;omega);have g4:=B.trans C;have b0:(H.push (ar 3 0 [] g d rows)).boxes[H.boxes.length]?=J (ar 3 0 [] g d rows):=aK _ _;have b1:((H.push (ar 3 0 [] g d rows)).app k).boxes[H.boxes.length]?=J (ar 3 0 [] g d rows):=by rw[dS];exact b0
  have b3:H3.boxes[H.boxes.length]?=J (ar 3 0 [] g d rows):=C.box _ _ b1;have l0:=jJ b0;have l1:=jJ b1;have l3:=jJ b3;have u94:=lO;have A:=wh (n:=l.length) M;have Hj:((F rows:Nat):Int)=((F l:Nat):Int):=by rw[y]
  have X:=ae.mk g4;have kha:=ae.mk ha;have khb:=ae.mk hb;have kl2:=ae.mk u;have sv0:cE (.list g d rows) (.list g d rows)=V:=by rw[cE,sr,Bool.and_true];cases g<;>simp[ry]
  clear g1 B C g4 E D R b0 b1 b3 p ih z y sr ha hb u;show ∃r' H',W1.call 215 [.list k sz (bJ es),.agg (ar 3 0 [] g d rows),.ptr (.box a) 0] H=J (r',H')/\_;refine bL O Tryz.func215 O ?_;refine bA @B8 @ph @iZ (aj @d_ @pu) ?_;refine iG [(2,4)] Aw am (λz1 hp=>?_) ?_
  .simp only[ig]at hp;subst hp;refine kj (x:=.ptr (.box (F H.boxes)) 3) (v:=.list g d rows) am O O O am (sv0) ?_ ?_<;>(simp only[dw,cX];exact jn @B8 @ph @iZ (aj @d_ (aj @pu @and_self)))
  refine bA @B8 @ph @iZ (aj @d_ @pu) ?_;refine b_ (λz0 e q=>∃(i:Nat) (t:Tok),i<=F l/\z0=F l-i/\e.get 0=.list t 1 (bJ (es++[3]++eZ 9 (F l)++gd (l.take i)))/\e.get 2=.ptr (.box a) 0/\e.get 17=.list g d rows/\e.get 18=.v (.int .i64 (F l:Nat))/\e.get 19=.v (.int .i64 i)/\e.defers=[]/\Grown n0 H q t) ?_ (F l) _ _ ?_;rotate_left 1
  .refine⟨0,t3,bY _,O,?_,?_,?_,?_,?_,?_,X.out⟩<;>(first|assumption|(simp only[gW,reduceIte,aH,aC,cX,gd,gj]<;>first|rfl|(rw[Hj])))
  clear c3 ap l0 l1 l3 X A;rintro z0 e q ⟨i,t,hi,rfl,g0,B,g17,g18,g19,hd,hG⟩;have X:=ae.mk hG;clear hG;by_cases di:i<F l
  .obtain⟨v,T⟩:∃v,l[i]?=J v:=⟨_,aP di⟩;obtain⟨r,p⟩:∃r,rows[i]?=J r:=⟨_,aP M⟩;have m:=kr.out i v r T p;have h4:d=4:=ksl.out (by rintro rfl;simp at p);subst h4;have o:=X.out.push r;have Y:=Tn T;have el:=Tm l (i+1);rw[Y,ck]at el;have u:=kl2.out;have nl:=ia 9 (F l);obtain⟨r2,H2,c2,t2,rfl,C⟩:=kih.out i v r T p a b (es++[3]++eZ 9 (F l)++gd (l.take i)) t 1 n0 (q.push r) (o.box _ _ kha.out) (o.box _ _ khb.out) o.ok o.can (e8 h0 o.tn) (.inl O) (by simp;omega);rw[show es++[3]++eZ 9 (F l)++gd (l.take i)++cB v=es++[3]++eZ 9 (F l)++gd (l.take (i+1)) by rw[Y];simp]at c2;have kG2:=ae.mk (o.trans C);have ld:=Es (H:=q) m.len p;have st:=PS (H:=q) m;have l2:aD aa Gt (q.push r) 118 (.ptr (.box (F q.boxes)) 0)=J (.agg r):=ni m.len (aK _ _);have l5:=NN m (aK q r);have l6:=Wn (o.box _ _ kha.out);have l7:=NM (v:=v) (o.box _ _ khb.out);have ik:=Ep (b:=b) (v:=v);have zz:=sQ;have s96:=nm;have avs:(i:Int)<(F rows:Int):=(by omega);generalize Fx v=fv at *
   generalize Fw a v=cv at *
   generalize zA v=kv at *
   clear o C Y el u nl T p m X;refine bA @B8 @aU @d_ @yq ?_;refine du Aw am ?_;refine bA @B8 @aU @d_ (aj @yq (aj @dO.{0} @ey.{0})) ?_;exact⟨F l-(i+1),by omega,i+1,t2,by omega,O,by trivial,by trivial,by trivial,by trivial,by simp,by trivial,kG2.out⟩
  .have:i=F l:=(by omega);subst this;rw[fK]at g0;have ee:es++[3]++eZ 9 (F l)++gd l=es++3::(eZ 9 (F l)++gd l):=(by simp);rw[ee]at g0;refine bh @B8 ?_;exact⟨_,_,O,_,O,X.out⟩
def aqv:Tryz.f145.results.toList=[.tmp 2]:=am
def I4:Tryz.f74.results.toList=[.tmp 2,.tmp 3]:=am
def aeZ{v:Vl}{r:List U}(d:b9 v r)(m:fA v<=16)(h:Heap):∃h',W1.call 145 [.agg r] h=J (.ret (I 0),h')/\Ext h h':=by
 obtain⟨y,q,g⟩:=agY d M (h.push r);have u:=d.cells;have z:=ni d.len (aK h r);have o:=ae.mk ((Ext.push h r).trans g);have p:¬((16:Int)<((fA v:Nat):Int)):=by omega
 clear d g m;unfold I;refine gI O Tryz.func145 O ?_;refine bh @aqv ?_;exact⟨_,O,o.out⟩
def agh{v:Vl}{r:List U}(g:b9 v r)(N:fA v<=16)(R:F (cB v)<=1099511627000)(h:Heap)(T:c_ h=V):
 ∃Y h',W1.call 74 [.agg r] h=J (Y,h')/\∃t,Y=.ret (.tuple [.list t 1 (bJ (cB v)),.v (.int .i64 0)])/\Ext h h':=by
 obtain⟨d,c1,B⟩:=aeZ g N (h.push r);unfold I at c1;have o:=(Ext.push h r).trans B;have cs:=g.cells;have u:=aK h r;have m:=B.box _ _ u;have c2:=auB d;have y:((d.push (sN (F d.boxes+1))).push [.ptr (.box (F d.boxes)) 0]).boxes[h.boxes.length]?=J r:=aN (aN m);have z:((d.push (sN (F d.boxes+1))).push [.ptr (.box (F d.boxes)) 0]).boxes[d.boxes.length]?=J (sN (F d.boxes+1)):=aN (aK _ _);have C:((d.push (sN (F d.boxes+1))).push [.ptr (.box (F d.boxes)) 0]).boxes[F d.boxes+1]?=J [.ptr (.box (F d.boxes)) 0]:=na (by rw[bE]);have x3:Ext d ((d.push (sN (F d.boxes+1))).push [.ptr (.box (F d.boxes)) 0]):=(Ext.push _ _).trans (.push _ _);have q:=(o.trans x3).ok T;obtain⟨r4,h4,A,t,rfl,D⟩:=auy g (F d.boxes+1) (F d.boxes) [] .nil 0 h.tn _ C z q (.inl O) (o.trans x3).tn (.inr ⟨O,O⟩) (by simpa using R);rw[dO]at A;have kX:=ae.mk (D.ext (o.trans x3) (aV _));have ld0:=ni g.len u;have ld1:=ni g.len m;have ld2:=ni g.len y;have lk1:=NN g m;have lk2:=NN g y;have lf:=NM (v:=v) z;have ik:=Ep (b:=d.boxes.length) (v:=v);have p:=Px v r g;have A:W1.call (Fx v) (.list .nil 0 []::.agg r::Fw (F d.boxes+1) v) ((d.push (sN (F d.boxes+1))).push [.ptr (.box (F d.boxes)) 0])=J (.ret (.list t 1 (bJ (cB v))),h4):=A;generalize Fx v=fv at *
 generalize Fw (F d.boxes+1) v=cv at *
 generalize hkv:zA v=kv at *
 generalize E:(d.push (sN (F d.boxes+1))).push [.ptr (.box (F d.boxes)) 0]=H3 at *
 have Z:cE (.agg r) (.agg r)=V:=by rw[cE,p]
 clear g B N o u m y z C x3 q D T R p E;refine bL O Tryz.func74 O ?_;refine bA @I4 @d_ @yq (aj @dO.{0} @ey.{0}) ?_;refine iG [(0,2),(0,7)] Aw am (λz0 X=>?_) ?_
 .simp only[gU,qJ,or_false]at X;rcases X with rfl|rfl
  .refine kj (x:=.ptr (.box (F h.boxes)) 0) (v:=.v (.int .i64 (kv:Nat))) am O O O am (by simp[cE,gF]) ?_ ?_<;>(simp only[dw,cX];exact jn @I4 @d_ @yq @and_self)
  .refine kj (x:=.ptr (.box (F h.boxes)) 0) (v:=.agg r) am O O O am (Z) ?_ ?_<;>(simp only[dw,cX];exact jn @I4 @d_ @yq @and_self)
 refine bA @I4 @d_ @yq (aj @dO.{0} @ey.{0}) ?_;exact⟨_,_,O,_,O,kX.out⟩
mutual
def b9.hold(v:Vl):∀r,b9 v r->b9 v (a_ r)/\aA 0 0 0 (a_ r)=V:=by
 intro r h;cases h with|int n p=>exact⟨.int n p,O⟩|text s d=>exact⟨.text s d,O⟩|list l k sz rows g d o q=>obtain⟨m,h2⟩:=b9.holds l rows g q;have e:a_ (ar 3 0 [] k sz rows)=ar 3 0 [] (bU k) sz (dm rows):=rfl;rw[e];refine⟨.list l _ sz _ (by rw[DZ];exact g) (λy=>d λu=>y (by rw[u];rfl)) (by rw[DZ];exact o) m,?_⟩;unfold ar;simp[aA,au,I,sv,eo,h2]
def b9.holds(l:List Vl):∀rows:List (List U),F rows=F l->(∀(i:Nat) v r,l[i]?=J v->rows[i]?=J r->b9 v r)->(∀(i:Nat) v r,l[i]?=J v->(dm rows)[i]?=J r->b9 v r)/\fg 0 0 0 (dm rows)=V:=by
 intro rows m h
 match l,rows,m,h with
 | [],[],_,_=>exact⟨λi v r d=>by simp at d,O⟩
 |v::l,r::rows,m,h=>
  obtain⟨o,h2⟩:=b9.hold v r (h 0 v r O O);obtain⟨p,q⟩:=b9.holds l rows (by simpa using m) λi v r d g=>h (i+1) v r (by simpa using d) (by simpa using g);refine⟨λi y u d g=>?_,by rw[dm,fg,h2,q];rfl⟩;cases i with
  |zero=>injection d with d;injection g with g;subst d;subst g;exact o
  |succ i=>exact p i y u d g
end
def E4:Tryz.f225.results.toList=[.tmp 2]:=am
def E6:Tryz.f226.results.toList=[.tmp 2]:=am
def aqr:Tryz.f172.results.toList=[.tmp 2]:=am
def aoF{v:Vl}{r:List U}(o:b9 v r):∀h,∃h',W1.call 225 [.agg r] h=J (.ret (.v (.bool V)),h')/\Ext h h':=by
 have u9:=An;have u94:=lO;have s96:=nm
 induction o with
 |int n hn=>
  intro h;refine gI O Re O ?_
  repeat' (first|simp(maxSteps:=9999999) (disch:=first|exact dZ|fail) only[gW,reduceIte,aH,aC,E4,iZ,pN,rX,qu,jJ,d_,f_,qG,decide_true, *]|refine dX ?_ ?_<;>(intro _;try omega))
  all_goals exact⟨_,O,Ext.push _ _⟩
 |text s q=>
  intro h;refine gI O Re O ?_
  repeat' (first|simp(maxSteps:=9999999) (disch:=first|exact dZ|fail) only[gW,reduceIte,aH,aC,E4,iZ,pN,rX,qu,jJ,d_,f_,qG,decide_true, *]|refine dX ?_ ?_<;>(intro _;try omega))
  all_goals exact⟨_,O,Ext.push _ _⟩
 |list l k sz rows A q hm d B=>
  intro h;have Y:=ae.mk d;have E:=ae.mk B;have T:=ae.mk q;have X:=ae.mk A;refine gI O Re O ?_;clear d B q A;refine bA @E4 @iZ @pN (aj @rX (aj @qu (aj @jJ (aj @d_ (aj @qG @decide_true))))) ?_;refine b_ (λz0 e H=>∃i:Nat,i<=F rows/\z0=F rows-i/\e.get 1=.ptr (.box (F h.boxes)) 0/\e.get 3=.v (.int .i64 i)/\e.defers=[]/\H.boxes[h.boxes.length]?=J (ar 3 0 [] k sz rows)/\Ext h H) ?_ (F rows) _ _ ?_;rotate_left 1
  .refine⟨0,bY _,O,?_,?_,?_,aK _ _,Ext.push _ _⟩<;>(first|assumption|(exact gR))
  rintro z0 e H ⟨i,hi,rfl,g1,g3,hd,g,z⟩;have u:=ae.mk z;have R:=ae.mk g;have l0:=pN g;have l1:=rX g;have l2:=qu g;have l3:=jJ g;clear z g;by_cases p:i<F rows
  .obtain⟨r,d⟩:∃r,rows[i]?=J r:=⟨_,aP p⟩;obtain⟨v,o⟩:∃v,l[i]?=J v:=⟨_,aP (by have:=X.out;omega)⟩;have m:=Y.out i v r o d;have N:sz=4:=T.out (by rintro rfl;simp at p);subst N;obtain⟨H2,c1,y⟩:=E.out i v r o d H;have ld:=Es (H:=H) m.len d;have C:=ae.mk (u.out.trans y);have D:=ae.mk (y.box _ _ R.out);have Z:(i:Int)<(F rows:Int):=(by omega);clear u m o d y;refine cK @E4 @aU @d_ ?_;exact⟨F rows-(i+1),by omega,i+1,by omega,O,by trivial,by simp,by trivial,D.out,C.out⟩
  .have:i=F rows:=(by omega);subst this;refine cK @E4 @d_ @decide_true ?_;exact⟨_,O,u.out⟩
def aog{v:Vl}{r:List U}(g:b9 v r):fA v<=100->∀h,∃h',W1.call 226 [.agg r] h=J (.ret (.v (.int .i64 (fA v:Nat))),h')/\Ext h h':=by
 have u9:=An;have u94:=lO;have s96:=nm
 induction g with
 |int n hn=>intro _ h;refine gI O Rf O ?_;show bC _ _ _ _ (wT _ _ _ _ (.ret (.v (.int .i64 0))) _);refine bA @E6 @iZ @pN @d_ ?_;exact⟨_,O,Ext.push _ _⟩|text s y=>intro _ h;refine gI O Rf O ?_;show bC _ _ _ _ (wT _ _ _ _ (.ret (.v (.int .i64 0))) _);refine bA @E6 @iZ @pN @d_ ?_;exact⟨_,O,Ext.push _ _⟩|list l k sz rows D y hm d E=>
  intro u h;have kd:=ae.mk u;have kr:=ae.mk d;have T:=ae.mk E;have kh:=ae.mk y;have X:=ae.mk D;refine gI O Rf O ?_;clear d E y D u;refine bA @E6 @iZ @pN @d_ ?_;refine b_ (λz0 e H=>∃i:Nat,i<=F rows/\z0=F rows-i/\e.get 1=.ptr (.box (F h.boxes)) 0/\e.get 3=.v (.int .i64 (fY (l.take i):Nat))/\e.get 4=.v (.int .i64 i)/\e.defers=[]/\H.boxes[h.boxes.length]?=J (ar 3 0 [] k sz rows)/\Ext h H) ?_ (F rows) _ _ ?_;rotate_left 1
  .refine⟨0,bY _,O,?_,?_,?_,?_,aK _ _,Ext.push _ _⟩<;>(first|assumption|(exact gR))
  rintro z0 e H ⟨i,hi,rfl,g1,g3,g4,u,q,B⟩;have z:=ae.mk B;have kb:=ae.mk q;have l3:=jJ q;have m:fA (.list l)=fY l+1:=rfl;have C:=kd.out;rw[m]at C;clear B q;by_cases p:i<F rows
  .obtain⟨r,d⟩:∃r,rows[i]?=J r:=⟨_,aP p⟩;obtain⟨v,g⟩:∃v,l[i]?=J v:=⟨_,aP (by have:=X.out;omega)⟩;have o:=kr.out i v r g d;have h4:sz=4:=kh.out (by rintro rfl;simp at p);subst h4;have hdv:=Tb g;have hdt:=Lv l i;obtain⟨H2,c1,A⟩:=T.out i v r g d M H;have ld:=Es (H:=H) o.len d;have N:=ae.mk (z.out.trans A);have R:=ae.mk (A.box _ _ kb.out);have Y:=ae.mk (Lu g);have Hj:(i:Int)<(F rows:Int):=(by omega);have hmx:(if ((fY (l.take i):Nat):Int)<((fA v:Nat):Int) then ((fA v:Nat):Int) else ((fY (l.take i):Nat):Int))=((max (fY (l.take i)) (fA v):Nat):Int):=(by split<;>omega);clear z o g d A m;refine bA @E6 @aU @d_ @zH ?_;exact⟨F rows-(i+1),by omega,i+1,by omega,O,by trivial,by rw[Y.out],by simp,by trivial,R.out,N.out⟩
  .have:i=F rows:=(by omega);subst this;have Z:l.take (F rows)=l:=(by rw[X.out];exact fK);rw[Z]at g3;rw[m];have e2:((fY l+1:Nat):Int)=((fY l:Nat):Int)+1:=(by omega);refine bG @E6 @d_ ?_;exact⟨_,O,z.out⟩
def aof{v:Vl}{r:List U}(d:b9 v r)(p:fA v<=16)(h:Heap):∃h',W1.call 172 [.agg r] h=J (.ret (I 0),h')/\Ext h h':=by
 obtain⟨o,z,g⟩:=aoF d (h.push r);obtain⟨h2,A,m⟩:=aog d M o;have B:=d.cells;have C:=ni d.len (aK h r);have y:=ni d.len (g.box _ _ (aK h r));have q:=ae.mk (((Ext.push h r).trans g).trans m);have u:¬((16:Int)<((fA v:Nat):Int)):=by omega
 clear d g m p;unfold I;refine gI O Tryz.func172 O ?_;refine bh @aqr ?_;exact⟨_,O,q.out⟩
def YM:Tryz.f227.results.toList=[.tmp 2]:=am
def aqx:Tryz.f228.results.toList=[.tmp 2]:=am
def zO:Tryz.f173.results.toList=[.tmp 2]:=am
def aqe:Tryz.f100.results.toList=[.tmp 2,.tmp 3]:=am
def JA(c:Nat)(d:c<256):cP (UInt8.ofNat c)=.v (.int .u8 (c:Nat)):=by have:(UInt8.ofNat c).toNat=c%256:=UInt8.toNat_ofNat';unfold cP;rw[this,mS d]
def Ie(k u):eZ k u≠[]:=by
 cases k with|zero=>simp[eZ]|succ k=>rw[eZ];split<;>simp
def CZ{H}{k t}{n0}{es new}(d:new≠[])(m:F es+F new<=8796093022208)(g:db n0 H k):
 gm aa H #[60,60] (.list k 1 (bJ es)) (.list t 1 (bJ new))=J (.list (.free H.tn) 1 (bJ (es++new)),H.app k):=
 KN (.inl ⟨_,lQ⟩) EC d m (.inl O) g
def OX:∀(k u:Nat),k<=9->u<2*128^k->∀h,c_ h=V->∃r h',W1.call 227 [.v (.int .u64 (u:Nat))] h=J (r,h')/\∃t,r=.ret (.list t 1 (bJ (eZ k u)))/\Grown h.tn h h' t:=by
 have p:∀(k u:Nat),u<128->∀h,c_ h=V->∃r h',W1.call 227 [.v (.int .u64 (u:Nat))] h=J (r,h')/\∃t,r=.ret (.list t 1 (bJ (eZ k u)))/\Grown h.tn h h' t:=by
  intro k u d h m;rw[Xj d];have q:=ya (UInt8.ofNat u);rw[JA u M]at q;have e:bJ [UInt8.ofNat u]=[[.v (.int .u8 (u:Nat))]]:=by show[[cP (UInt8.ofNat u)]]=_;rw[JA u M]
  rw[e];have A:((u:Nat):Int)<128:=by omega
  have v:=ae.mk (Grown.refl (n0:=h.tn) (k:=.tight) (.inr (.inl O)) m);clear m d e;refine bL O abJ O ?_;refine bG @YM @Db ?_;exact⟨_,_,O,_,O,v.out⟩
 intro k
 induction k with
 |zero=>intro u _ d;exact p 0 u (by simpa using Nat.lt_trans d aY)|succ k B=>
  intro u D d h m;by_cases o:u<128
  .exact p _ u o h m
  .rw[Xk M];obtain⟨T,z,E,t,rfl,g⟩:=B (u/128) M (by rw[xW]at d;omega) h m;have q:=ya (UInt8.ofNat (u%128+128));have nl:=ia k (u/128);have C:=CZ (H:=z) (k:=.tight) (t:=t) (n0:=h.tn) (es:=[UInt8.ofNat (u%128+128)]) (Ie k (u/128)) (by simp;omega) (.inr (.inl O));have e:bJ [UInt8.ofNat (u%128+128)]=[[.v (.int .u8 ((u%128+128:Nat):Int))]]:=(by show[[cP (UInt8.ofNat (u%128+128))]]=_;rw[JA _ M]);rw[e]at C;rw[JA (u%128+128) M]at q;have y:Grown h.tn h z .tight:=⟨g.box,g.loop,.inr (.inl O),g.ok,g.tn,g.dead⟩;have v:=ae.mk (y.app (aV _));have A:¬((u:Nat):Int)<128:=(by omega);have N:((u:Nat):Int).tmod 128=((u%128:Nat):Int):=pS u 128;have R:((u:Nat):Int).tdiv 128=((u/128:Nat):Int):=Jw u 128;have X:IntKind.u64.wrap (((u%128:Nat):Int)+128)=((u%128+128:Nat):Int):=(by rw[show((u%128:Nat):Int)+128=((u%128+128:Nat):Int) by omega,wh M]);have Y:IntKind.u64.wrap ((u/128:Nat):Int)=((u/128:Nat):Int):=(by have:2*128^(k+1)<=2*128^9:=Nat.mul_le_mul_left _ (abq aY D);exact wh M);clear m d o B g y e nl;refine bL O abJ O ?_;refine bG @YM @Db ?_;exact⟨_,_,O,_,O,v.out⟩
def ard(n:Nat)(o:n<=4611686018427387903)(h:Heap):W1.call 228 [.v (.int .i64 (n:Nat))] h=J (.ret (.v (.int .u64 (hW n:Nat))),h):=by
 have e:hW (n:Int)=2*n:=by unfold hW;rw[av M,fD]
 rw[e];have d:=wh (n:=n) M;have g:IntKind.u64.wrap (2*((n:Nat):Int))=((2*n:Nat):Int):=by rw[show 2*((n:Nat):Int)=((2*n:Nat):Int) by omega,wh M]
 have m:(0:Int)<=((n:Nat):Int):=by omega
 refine cr O Tryz.func228 O ?_;exact dV @aqx @pu
def agd(v):cB v≠[]:=by cases v<;>simp[cB]
def _root_.Go.AE.Grown.re{n0:Nat}{h h':Heap}{t k:Tok}(g:Grown n0 h h' t)(d:db n0 h' k):Grown n0 h h' k:=⟨g.box,g.loop,d,g.ok,g.tn,g.dead⟩
def _root_.Go.AE.Grown.sO{n0 m:Nat}{h h':Heap}{t:Tok}(g:Grown m h h' t)(d:n0<=m):Grown n0 h h' t:=⟨g.box,g.loop,g.can.mono d,g.ok,g.tn,λn p o=>g.dead n (my p d) o⟩
def _root_.Go.AE.Grown.beside{n0:Nat}{h h':Heap}{t k:Tok}(g:Grown h.tn h h' t)(p:db n0 h k):db n0 h' k:=by
 rcases p with rfl|rfl|⟨u,rfl,q,d⟩
 .exact .inl O
 .exact .inr (.inl O)
 .refine .inr (.inr ⟨u,O,q,?_⟩);have m:=qN d;unfold alive at d ⊢;simp only[bm,decide_eq_true_eq,Bool.not_eq_true',List.contains_eq_mem,decide_eq_false_iff_not]at d ⊢;exact⟨my m g.tn,λo=>d.2 (g.dead u m o)⟩
def aou{v:Vl}{r:List U}(T:b9 v r):F (cB v)<=1099511627000->∀h,c_ h=V->∃r' h',W1.call 173 [.agg r] h=J (r',h')/\∃t,r'=.ret (.list t 1 (bJ (cB v)))/\Grown h.tn h h' t:=by
 induction T with
 |int n hn=>
  intro _ h B;obtain⟨Y,rfl⟩:∃Y:Nat,n=Y:=⟨n.toNat,by omega⟩;have hu:hW ((Y:Nat):Int)<2*128^9:=by unfold hW;rw[av M];omega
  have m:Grown h.tn h (h.push (ar 1 (Y:Nat) [] .nil 0 [])) .tight:=(Grown.refl (.inr (.inl O)) B).push _;obtain⟨r1,d,c1,t,rfl,o⟩:=OX 9 (hW ((Y:Nat):Int)) (aV _) hu _ m.ok;have nl:=ia 9 (hW ((Y:Nat):Int));have p:=CZ (H:=d) (k:=.tight) (t:=t) (n0:=h.tn) (es:=[1]) (Ie 9 (hW ((Y:Nat):Int))) (by simp;omega) (.inr (.inl O));have g:=ae.mk ((m.trans (o.re (.inr (.inl O)))).app (aV _));have cu:=ard Y M;have p:gm aa d #[60,60] (.list .tight 1 [[cP 1]]) (.list t 1 (bJ (eZ 9 (hW ((Y:Nat):Int)))))=J (.list (.free d.tn) 1 (bJ (cB (.int (Y:Nat)))),d.app .tight):=by rw[cB];exact p
  clear m o hu hn B nl;refine bL O Rc O ?_;refine bA @zO @ph @iZ (aj @pN (aj @rX @d_)) ?_;exact⟨_,_,O,_,O,g.out⟩
 |text s hs=>
  intro q h B;have y:cB (.text s)=2::(eZ 9 (F s)++s):=by rw[cB]
  rw[y]at q ⊢;simp only[ef,ck]at q;have m:Grown h.tn h (h.push (ar 2 0 s .nil 0 [])) .tight:=(Grown.refl (.inr (.inl O)) B).push _;obtain⟨r1,d,c1,t,rfl,o⟩:=OX 9 (F s) (aV _) M _ m.ok;have p:=CZ (H:=d) (k:=.tight) (t:=t) (n0:=h.tn) (es:=[2]) (Ie 9 (F s)) (by simp;omega) (.inr (.inl O));have z:=(m.trans (o.re (.inr (.inl O)))).app (aV _);obtain⟨t4,h4,ap4,E⟩:=RE (es:=[2]++eZ 9 (F s)) (s:=s) (by simp;omega) z.can z.ok z.tn;have g:=ae.mk (z.trans E);have p:gm aa d #[60,60] (.list .tight 1 [[cP 2]]) (.list t 1 (bJ (eZ 9 (F s))))=J (.list (.free d.tn) 1 (bJ ([2]++eZ 9 (F s))),d.app .tight):=p;have e4:[2]++eZ 9 (F s)++s=2::(eZ 9 (F s)++s):=by simp
  rw[e4]at ap4;have C:=aK h (ar 2 0 s .nil 0 []);have R:=o.box _ _ C;have b2:(d.app .tight).boxes[h.boxes.length]?=J (ar 2 0 s .nil 0 []):=by rw[dS];exact R
  have l0:=qu C;have l1:=qu R;have l2:=qu b2;have sl:=ZG s;have A:=wh (n:=s.length) M;clear m o z E B y e4 C R b2 q;refine bL O Rc O ?_;refine bA @zO @ph @iZ (aj @pN (aj @d_ @pu)) ?_;refine iG [(5,8),(6,8)] Aw am (λz0 hp=>?_) ?_
  .simp only[gU,qJ,or_false]at hp;rcases hp with rfl|rfl
   all_goals
    refine kj (x:=.ptr (.box (F h.boxes)) 2) (v:=.v (.string (bs s))) am O O O am (by simp[cE,gF]) ?_ ?_<;>(simp only[dw,cX];exact jn @zO @ph @iZ (aj @d_ (aj @pu @and_self)))
  refine bA @zO @ph @iZ (aj @d_ @pu) ?_;exact⟨_,_,O,_,O,g.out⟩
 |list l X sz rows q hs hm N ih=>
  intro u h B;have kr:=ae.mk N;have kih:=ae.mk ih;have kh:=ae.mk hs;have kl2:=ae.mk q;have y:cB (.list l)=3::(eZ 9 (F l)++gd l):=by rw[cB]
  rw[y]at u ⊢;simp only[ef,ck]at u;have m:Grown h.tn h (h.push (ar 3 0 [] X sz rows)) .tight:=(Grown.refl (.inr (.inl O)) B).push _;obtain⟨r1,d,c1,t,rfl,o⟩:=OX 9 (F l) (aV _) M _ m.ok;have nl:=ia 9 (F l);have p:=CZ (H:=d) (k:=.tight) (t:=t) (n0:=h.tn) (es:=[3]) (Ie 9 (F l)) (by simp;omega) (.inr (.inl O));have z:=(m.trans (o.re (.inr (.inl O)))).app (aV _);have p:gm aa d #[60,60] (.list .tight 1 [[cP 3]]) (.list t 1 (bJ (eZ 9 (F l))))=J (.list (.free d.tn) 1 (bJ ([3]++eZ 9 (F l))),d.app .tight):=p;have C:=aK h (ar 3 0 [] X sz rows);have R:=o.box _ _ C;have b2:(d.app .tight).boxes[h.boxes.length]?=J (ar 3 0 [] X sz rows):=by rw[dS];exact R
  have l0:=jJ C;have u94:=lO;have A:=wh (n:=rows.length) M;have c1:W1.call 227 [.v (.int .u64 ((F rows:Nat):Int))] (h.push (ar 3 0 [] X sz rows))=J (.ret (.list t 1 (bJ (eZ 9 (F l)))),d):=by rw[q];exact c1
  have g:=ae.mk z;have kb:=ae.mk b2;have klen:=ae.mk u;clear m o z B y N ih hs q u C R b2;refine bL O Rc O ?_;refine bA @zO @ph @iZ (aj @pN (aj @d_ @pu)) ?_;refine b_ (λY e H1=>∃(i:Nat) (t:Tok),i<=F rows/\Y=F rows-i/\e.get 1=.ptr (.box (F h.boxes)) 0/\e.get 3=.list t 1 (bJ ([3]++eZ 9 (F l)++gd (l.take i)))/\e.get 4=.v (.int .i64 i)/\e.defers=[]/\H1.boxes[h.boxes.length]?=J (ar 3 0 [] X sz rows)/\Grown h.tn h H1 t) ?_ (F rows) _ _ ?_;rotate_left 1
  .refine⟨0,.free d.tn,bY _,O,?_,?_,?_,?_,kb.out,g.out⟩<;>(first|assumption|(simp only[gW,reduceIte,aH,aC,cX,gd,gj]<;>rfl))
  clear c1 p l0 g kb A;rintro Y e H1 ⟨i,t,hi,rfl,o,g3,g4,hd,hb,hG⟩;have g:=ae.mk hG;have kb:=ae.mk hb;have l3:=jJ hb;clear hG hb;by_cases di:i<F rows
  .obtain⟨r,N⟩:∃r,rows[i]?=J r:=⟨_,aP di⟩;obtain⟨v,T⟩:∃v,l[i]?=J v:=⟨_,aP (by have:=kl2.out;omega)⟩;have uj:=kr.out i v r T N;have h4:sz=4:=kh.out (by rintro rfl;simp at di);subst h4;have es1:=Tn T;have el:=Tm l (i+1);rw[es1,ck]at el;have q:=klen.out;obtain⟨r2,H2,c2,t2,rfl,E⟩:=kih.out i v r T N M H1 g.out.ok;have D:=E.beside g.out.can;have ap2:=CZ (H:=H2) (k:=t) (t:=t2) (n0:=h.tn) (es:=[3]++eZ 9 (F l)++gd (l.take i)) (agd v) (by simp;omega) D;rw[show[3]++eZ 9 (F l)++gd (l.take i)++cB v=[3]++eZ 9 (F l)++gd (l.take (i+1)) by rw[es1];simp]at ap2;have kG2:=ae.mk ((g.out.trans ((E.sO g.out.tn).re D)).app (aV _));have kb2:ae ((H2.app t).boxes[h.boxes.length]?=J (ar 3 0 [] X 4 rows)):=⟨by rw[dS];exact E.box _ _ kb.out⟩;have ld:=Es (H:=H1) uj.len N;have s96:=nm;have Hj:(i:Int)<(F rows:Int):=(by omega);clear g uj T N E D es1 el q nl;refine cK @zO @aU @d_ ?_;exact⟨F rows-(i+1),by omega,i+1,.free H2.tn,by omega,O,by trivial,by trivial,by simp,by trivial,kb2.out,kG2.out⟩
  .have:i=F rows:=(by omega);subst this;rw[show l.take (F rows)=l by rw[kl2.out];exact fK]at g3;have ee:[3]++eZ 9 (F l)++gd l=3::(eZ 9 (F l)++gd l):=(by simp);rw[ee]at g3;refine bG @zO @d_ ?_;exact⟨_,_,O,_,O,g.out⟩
def an7{v:Vl}{r:List U}(d:b9 v r)(p:fA v<=16)(q:F (cB v)<=1099511627000)(h:Heap)(u:c_ h=V):
 ∃y h',W1.call 100 [.agg r] h=J (y,h')/\∃t,y=.ret (.tuple [.list t 1 (bJ (cB v)),.v (.int .i64 0)])/\Ext h h':=by
 obtain⟨A,z,m⟩:=aof d p (h.push r);unfold I at z;have g:=(Ext.push h r).trans m;obtain⟨R,h2,D,t,rfl,o⟩:=aou d q A (g.ok u);have E:=d.cells;have N:=ni d.len (aK h r);have C:=ni d.len (m.box _ _ (aK h r));have B:=ae.mk (o.ext g g.tn);clear d m g p o u q;refine bL O Tryz.func100 O ?_;refine bh @aqe ?_;exact⟨_,_,O,_,O,B.out⟩
def kW:List eG:=(bZ 64).map Br
def aqf:Tryz.f96.results.toList=[.cell 2 118]:=am
def aqg:Tryz.f97.results.toList=[.cell 2 118]:=am
def aqh:Tryz.f99.results.toList=[.cell 2 118]:=am
def KV(n):iI aa 118 [(0,.v (.int .i64 1)),(1,.v (.int .i64 n))]=J (.agg (ar 1 n [] .nil 0 [])):=am
def KW(s):iI aa 118 [(0,.v (.int .i64 2)),(2,.v (.string (bs s)))]=J (.agg (ar 2 0 s .nil 0 [])):=am
def bdl(k)(sz)(rows):iI aa 118 [(0,.v (.int .i64 3)),(3,.list k sz rows)]=J (.agg (ar 3 0 [] k sz rows)):=am
def Jt{H:Heap}{k n}{s}{t}{sz}{rows}:bV aa (H.push (ar 0 0 [] .nil 0 [])) 118 (.ptr (.box (F H.boxes)) 0) (.agg (ar k n s t sz rows))=J (H.push (ar k n s t sz rows)):=lJ O nm O rfl
def NQ{H:Heap}{k n}{s}{t}{sz}{rows}:aD aa Gt (H.push (ar k n s t sz rows)) 118 (.ptr (.box (F H.boxes)) 0)=J (.agg (ar k n s t sz rows)):=ni O (aK _ _)
def aoP(n:Int)(h:Heap):W1.call 97 [.v (.int .i64 n)] h=J (.ret (.agg (ar 1 n [] .nil 0 [])),h.push (ar 1 n [] .nil 0 [])):=by have d:=sQ;refine cr O Tryz.func97 O ?_;exact jn @aqg @KV @Jt @NQ
def aqT(s:List UInt8)(h:Heap):W1.call 99 [.v (.string (bs s))] h=J (.ret (.agg (ar 2 0 s .nil 0 [])),h.push (ar 2 0 s .nil 0 [])):=by have d:=sQ;refine cr O Tryz.func99 O ?_;exact jn @aqh @KW @Jt @NQ
def apy(k:Tok)(sz:Nat)(rows:List (List U))(h:Heap):W1.call 96 [.list k sz rows] h=J (.ret (.agg (ar 3 0 [] k sz rows)),h.push (ar 3 0 [] k sz rows)):=by have d:=sQ;refine cr O Tryz.func96 O ?_;exact jn @aqf @bdl @Jt @NQ
def L2:List aR:=[80,81,75,66,130,202,67,69,162,111,100,96,97,99,241,203,193,242,74,231,222]
noncomputable def OD:aR->Option (List U->Heap->Option (U × Heap)):=lU W1 L2
noncomputable abbrev W2:=whole aa Gt OD
def wK:mo OD L2:=rK
section
variable (a b n x:Int)
def Rp:∀h,W2.call 80 [I a,I b] h=J (.ret (I (dx a b)),h):=bT (L:=L2) O O O (acb a b _) O rfl
def N9:∀h,W2.call 81 [I a,I b] h=J (.ret (I (cS a b)),h):=bT (L:=L2) O O O (alD a b _) O rfl
def ajO:∀h,W2.call 222 [I n] h=J (.ret (.tuple [I (if fmod n=0 then 0 else ej n),I (if fmod n=0 then 90 else 0)]),h):=bT (L:=L2) O O O (ajN n _) O rfl
def aui:∀h,W2.call 66 [I x] h=J (.ret (.v (.bool (bX x))),h):=bT (L:=L2) O O O (auf x _) O rfl
def ahw:∀h,W2.call 67 [I a,I b] h=J (.ret (.tuple [I (nV a b),I (rM a b)]),h):=bT (L:=L2) O O O (ahv a b _) O rfl
def ahC:∀h,W2.call 75 [I a,I n] h=J (.ret (.tuple [I (fj a n),I (oK a)]),h):=bT (L:=L2) O O O (ahB a n _) O rfl
def an9:∀h,W2.call 130 [I a,I b] h=J (.ret (I (dx a b)),h):=bT (L:=L2) O O O (an8 a b _) O rfl
def apA:∀h,W2.call 202 [I a,I b] h=J (.ret (I (cS a b)),h):=bT (L:=L2) O O O (apz a b _) O rfl
def aoR:∀h,W2.call 231 [I n] h=J (.ret (.tuple [I (if fmod n=0 then 0 else ej n),I (if fmod n=0 then 90 else 0)]),h):=bT (L:=L2) O O O (aoQ n _) O rfl
def arh:∀h,W2.call 111 [I x] h=J (.ret (.v (.bool (bX x))),h):=bT (L:=L2) O O O (arf x _) O rfl
def aoL:∀h,W2.call 97 [I n] h=J (.ret (.agg (ar 1 n [] .nil 0 [])),h):=bT (L:=L2) O O O (aoP n _) O rfl
end
def aqO(s):∀h,W2.call 99 [sv s] h=J (.ret (.agg (ar 2 0 s .nil 0 [])),h):=bT (L:=L2) O O O (aqT s _) O rfl
def vM:c_ ⟨[],[],0,[]⟩=V:=rfl
def ahr(d b)(k)(g:F b<=1099511620000)(m:F d<=1099511620000):∀h,W2.call 69 [.v (.string (bs d)),.list k 1 (bJ b)] h=J (.ret (I (pF (kn d b):Nat)),h):=
 bT (L:=L2) (B:=[.v (.string (bs d)),.list (bU k) 1 (bJ b)]) O (by rw[a_,a_,al.eq_1,qn];rfl) (by simp[aA,au,eo,jl]) (ahq d b _ g m _) O rfl
def age{v}{r}(o:b9 v r)(m:fA v<=16)(p:F (cB v)<=1099511600000):∃t,∀h,W2.call 74 [.agg r] h=J (.ret (.tuple [.list t 1 (bJ (cB v)),.v (.int .i64 0)]),h):=by obtain⟨d,h2⟩:=b9.hold v r o;obtain⟨q,h',g,t,rfl,-⟩:=agh d m M ⟨[],[],0,[]⟩ vM;exact⟨bU t,bT (L:=L2) (B:=[.agg (a_ r)]) O O (by simpa [aA,au] using h2) g O (by simp[au,aA,eo,jl])⟩
def aop{v}{r}(o:b9 v r)(m:fA v<=16)(p:F (cB v)<=1099511600000):∃t,∀h,W2.call 100 [.agg r] h=J (.ret (.tuple [.list t 1 (bJ (cB v)),.v (.int .i64 0)]),h):=by obtain⟨d,h2⟩:=b9.hold v r o;obtain⟨q,h',g,t,rfl,-⟩:=an7 d m M ⟨[],[],0,[]⟩ vM;exact⟨bU t,bT (L:=L2) (B:=[.agg (a_ r)]) O O (by simpa [aA,au] using h2) g O (by simp[au,aA,eo,jl])⟩
def fX(l:List Vl)(rows:List (List U)):Prop:=F rows=F l/\∀(i:Nat) v r,l[i]?=J v->rows[i]?=J r->b9 v r
def aqA:Tryz.f223.results.toList=[.tmp 4]:=am
def Pf:Tryz.f249.results.toList=[]:=am
def mW:fH aa 23=J ah:=am
def acm:fH aa 207=J ah:=am
def vD{H}{b}{x}(d:H.boxes[b]?=J [x]):aD aa Gt H 23 (.ptr (.box b) 0)=J x:=by rw[fm mW d];rfl
def um{H}{b}{x}(d:H.boxes[b]?=J [x]):aD aa Gt H 207 (.ptr (.box b) 0)=J x:=by rw[fm acm d];rfl
def vH{H}{b k}{cs}{x}(d:H.boxes[b]?=J cs)(g:cs[k]?=J x):aD aa Gt H 3 (.ptr (.box b) k)=J x:=by rw[fm dY d,FO,g]
def qs{H}{b k}{cs}{x}(d:H.boxes[b]?=J cs)(g:cs[k]?=J x):aD aa Gt H 23 (.ptr (.box b) k)=J x:=by rw[fm mW d,FO,g]
def nZ{b len aS n}{k}(d:n<len):dK aa 23 (.arr b 0 len aS) (.v (.int k (n:Nat)))=J (.ptr (.box b) n):=by rw[Bm cU eX M M,fD,jS,oj]
def Bp{b len aS n}{k}(d:n<len):dK aa 207 (.arr b 0 len aS) (.v (.int k (n:Nat)))=J (.ptr (.box b) n):=by rw[Bm Tryz.underlying207 hw M M,fD,jS,oj]
def Rr(d w c:Nat)(h:Heap):W2.call 223 [.arr d 0 w w,I (c:Nat)] h=J (.ret (.func (.func 249) [] [.ptr (.box (F h.boxes+1)) 0,.ptr (.box (F h.boxes)) 0]),(h.push [.arr d 0 w w]).push [I (c:Nat)]):=by have g:(U.arr d 0 w w).bF=J [.arr d 0 w w]:=rfl;have m:(U.v (.int .i64 (c:Nat))).bF=J [.v (.int .i64 (c:Nat))]:=rfl;unfold I;refine cr O Tryz.func223 O ?_;exact pC @aqA @bg @bE
def Rs(l p y z w c:Nat)(row:List Int)(Inv:Nat->Heap->Prop)
 (q:∀k H,Inv k H->H.boxes[p]?=J [I (c:Nat)]/\H.boxes[y]?=J [.arr z 0 w w]/\(k<w->∃cs,H.boxes[z]?=J cs/\cs[k]?=J (I (af row k))))
 (B:∀k H,c<=k->k<w->Inv k H->∃H',W2.round l [I (k:Nat),I (af row k)] H=J (.ret (.v (.bool V)),H')/\Inv (k+1) H')
 (T:c<=w) (qp:w<=1000000) (o:Heap) (h0:Inv c o):∃H',W2.call 249 [.yield l,.ptr (.box p) 0,.ptr (.box y) 0] o=J (.ret (.tuple []),H')/\Inv w H':=by
 have Y:=ae.mk q;have Z:=ae.mk B;have D:=ae.mk h0;obtain⟨m,d,-⟩:=q c o h0;have N:=lq m;unfold I at N;have u23:=cU;clear q B h0 m d;refine gI O Tryz.func249 O ?_;refine bh @Pf ?_;refine b_ (λz0 e H=>∃k:Nat,c<=k/\k<=w/\z0=w-k/\e.get 0=.yield l/\e.get 1=.ptr (.box p) 0/\e.get 2=.ptr (.box y) 0/\e.get 4=.v (.int .i64 k)/\e.defers=[]/\Inv k H) ?_ (w-c) _ _ ?_;rotate_left 1
 .refine⟨c,aV _,T,O,?_,?_,?_,?_,?_,D.out⟩<;>(first|assumption|(exact gR))
 clear N D;rintro z0 e H ⟨k,C,yR,rfl,g0,g1,g2,g4,hd,u⟩;obtain⟨m,d,b3⟩:=Y.out k H u;have l2:=vD d;have v:=ae.mk u;clear m u;by_cases g:k<w
 .obtain⟨cs,b4,A⟩:=b3 g;obtain⟨H',r1,R⟩:=Z.out k H C g v.out;have ix:=nZ (b:=z) (len:=w) (aS:=w) (k:=.i64) g;have l3:=vH b4 A;have E:=ae.mk R;have X:((k:Nat):Int)<((w:Nat):Int):=by omega
  unfold I at *
  clear d b3 b4 A R v;refine bG @Pf @yf ?_;exact⟨w-(k+1),by omega,k+1,by omega,by omega,O,by trivial,by trivial,by trivial,by simp,by trivial,E.out⟩
 .have:k=w:=by omega
  subst this;clear d b3;refine bh @Pf ?_;exact⟨_,O,v.out⟩
def O':Tryz.f224.results.toList=[]:=am
structure iS(H:Heap)(tb:Nat)(B:List Nat)(t:List (List Int))(w:Nat):Prop where
 hJ:H.boxes[tb]?=J (B.map λb=>U.arr b 0 w w)
 len:B.length=t.length
 nd:B.Nodup
 row:∀(i b:Nat) (r:List Int),B[i]?=J b->t[i]?=J r->H.boxes[b]?=J (r.map I)
 wid:∀r∈t,r.length=w
 out:tb∉B
def W9{l:List Nat}(h:l.Nodup){i j x:Nat}(hi:l[i]?=J x)(m:l[j]?=J x):i=j:=by obtain⟨o,d⟩:=aT.1 hi;obtain⟨h2,g⟩:=aT.1 m;exact(List.getElem_inj h).1 (d.trans g.symm)
def iS.set{H}{A w i b}{B}{t}(T:iS H A B t w)(hi:B[i]?=J b){r}(C:F r=w):iS (H.put b (r.map I)) A B (t.set i r) w:=by
 have o:=(aT.1 hi).1;have v:=cT hi;refine⟨?_,by rw[nr];exact T.len,T.nd,λj u p g d=>?_,λp d=>?_,T.out⟩
 .rw[cd (λe=>T.out (by rw[e];exact v))];exact T.hJ
 .by_cases m:j=i
  .subst m;rw[hi]at g;injection g with g;subst g;rw[List.getElem?_set_self (by rw[<-T.len];exact o)]at d;injection d with d;subst d;have y:j<F t:=(by rw[<-T.len];exact o);exact dh (aT.1 (T.row j b _ hi (aP y))).1
  .have z:u≠b:=λe=>m (W9 T.nd (by rw[<-e];exact g) hi);rw[cd z];rw[List.getElem?_set_ne (λe=>m e.symm)]at d;exact T.row j u p g d
 .rcases uV d with q|q
  .exact T.wid p q
  .rw[q];exact C
def iS.mono{H H'}{d w}{B}{t}(T:iS H d B t w)(m:∀(c:Nat) cs,H.boxes[c]?=J cs->H'.boxes[c]?=J cs):iS H' d B t w:=
 ⟨m _ _ T.hJ,T.len,T.nd,λi b r g o=>m _ _ (T.row i b r g o),T.wid,T.out⟩
def kQ(n:Int)(a own:List Int)(c k:Nat):List Int:=(bZ (F a)).map λj=>if c<=j/\j<k then iV n (af a j) (af own j) else af a j
def qQ{n}{a own}{c k}:F (kQ n a own c k)=F a:=by unfold kQ;simp
def Da{n}{a own}{c k j}(d:j<F a):af (kQ n a own c k) j=if c<=j/\j<k then iV n (af a j) (af own j) else af a j:=by rw[gb (by rw[qQ];exact d)];unfold kQ;rw[th,Ka]
def afI{n}{a own}{c}:kQ n a own c c=a:=by refine uC qQ λj d=>?_;rw[qQ]at d;rw[Da d,aL M]
def afH{n}{a own}{c k}(p:c<=k)(m:k<F a):(kQ n a own c k).set k (iV n (af a k) (af own k))=kQ n a own c (k+1):=by
 refine uC (by rw[nr,qQ,qQ]) λj g=>?_;rw[nr,qQ]at g;rw[F9 (by rw[qQ];exact m),Da g,Da g];by_cases d:j=k
 .subst d;rw[av O,av M]
 .rw[aL d];by_cases o:c<=j/\j<k
  .rw[av o,av M]
  .rw[aL o,aL M]
def afG{n}{a own}{c}(o:F a=F own)(m:c<=F a):kQ n a own c (F a)=a.take c++g_ n (a.drop c) (own.drop c):=by
 have d:F (a.drop c)=F (own.drop c):=by simp[o]
 refine uC (by rw[qQ,ck,rY d,cR,eC];omega) λj g=>?_;rw[qQ]at g;rw[Da g,As m];by_cases p:j<c
 .rw[aL M,av p]
 .rw[av M,aL p,tE d (by rw[eC];omega),F8,F8,(M:c+(j-c)=j)]
def us{r}{k}(d:k<F r):(r.map I)[k]?=J (I (af r k)):=by rw[ec,aP d,gb d];rfl
def uJ{H}{b k}{r:List Int}{x}(g:H.boxes[b]?=J (r.map I))(d:k<F r):bV aa H 3 (.ptr (.box b) k) (.v (.int .i64 x))=J (H.put b ((r.set k x).map I)):=by rw[fC (xs:=[I x]) O eX g O (by rw[br];exact d)];congr 2;unfold dC;rw[aaZ,xT,av (by rw[br];exact d)];simp
def vO{x}(h:okF x):0<=x/\x<=9223372036854775807:=by obtain⟨d,h2⟩:=h;have:Qi=1073741789:=rfl;omega
def ae1(h:Heap)(o:Nat)(B:List Nat)(t:List (List Int))(w i y c:Nat)(a own:List Int)(T:iS h o B t w)(hi:t[i]?=J a)(E:t[y]?=J own)(fP:i≠y)(hc:c<w)(A:w<=1000000)(z:∀r∈t,∀x∈r,okF x):
 ∃h',W2.call 224 [.arr o 0 (F B) (F B),I (i:Nat),I (y:Nat),I (c:Nat)] h=J (.ret (.tuple []),h')/\iS h' o B (t.set i (rL c a own)) w/\∀n0,fE B n0 h h':=by
 have eH:=(aT.1 hi).1;have El:=(aT.1 E).1;obtain⟨m,v⟩:∃b,B[i]?=J b:=⟨_,aP (by rw[T.len];exact eH)⟩;obtain⟨p,G1⟩:∃b,B[y]?=J b:=⟨_,aP (by rw[T.len];exact El)⟩;have ra:=T.row i m a v hi;have ro:=T.row y p own G1 E;have wa:=T.wid a (cT hi);have wo:=T.wid own (cT E);have tZ:m≠p:=λe=>fP (W9 T.nd (by rw[e]at v;exact v) G1);have lY:=(aT.1 T.hJ).1;have avd:=(aT.1 ra).1;have avh:=(aT.1 ro).1;have ai7:o≠m:=λe=>T.out (by rw[e];exact cT v);have UQ:(B.map λb=>U.arr b 0 w w)[i]?=J (.arr m 0 w w):=by rw[ec,v];rfl
 have hdy:(B.map λb=>U.arr b 0 w w)[y]?=J (.arr p 0 w w):=by rw[ec,G1];rfl
 have oka:=z a (cT hi);have oko:=z own (cT E);have hiB:i<F B:=by rw[T.len];exact eH
 have hyB:y<F B:=by rw[T.len];exact El
 have z3:=JF;have bx1:∀b n z4:Nat,(U.arr b 0 n z4).bF=J [.arr b 0 n z4]:=λ_ _ _=>rfl;have bx2:∀n:Int,(U.v (.int .i64 n)).bF=J [.v (.int .i64 n)]:=λ_=>rfl;have ixi:=Bp (b:=o) (len:=B.length) (aS:=B.length) (k:=.i64) hiB;have ixy:=Bp (b:=o) (len:=B.length) (aS:=B.length) (k:=.i64) hyB;have ixc:=nZ (b:=m) (len:=w) (aS:=w) (k:=.i64) hc;have n0:=vO (oo oka c);have unf:rL c a own=if af a c=0 then a else kQ (af a c) a own c w:=by unfold rL;rw[<-wa,afG M M]
 rw[unf];clear unf;generalize hn:af a c=n at *
 have aih:∀(z5:U) (q ds:List U),((h.push q).push ds).boxes[o]?=J (B.map λb=>U.arr b 0 w w)/\((h.push q).push ds).boxes[m]?=J (a.map I):=λz5 q ds=>⟨aN (aN T.hJ),aN (aN ra)⟩;generalize g:(h.push [.arr o 0 (F B) (F B)]).push [I (i:Nat)]=d;have l1:∀q,aD aa Gt (d.push q) 207 (.ptr (.box (F h.boxes)) 0)=J (.arr o 0 (F B) (F B)):=λq=>um (by rw[<-g];exact aN (aN (aK _ _)));have l1':aD aa Gt d 207 (.ptr (.box (F h.boxes)) 0)=J (.arr o 0 (F B) (F B)):=um (by rw[<-g];exact aN (aK _ _));have l2:aD aa Gt d 3 (.ptr (.box (F h.boxes+1)) 0)=J (.v (.int .i64 (i:Nat))):=lq (by rw[<-g];exact na (by rw[bE]));have l3:aD aa Gt d 23 (.ptr (.box o) i)=J (.arr m 0 w w):=qs (by rw[<-g];exact aN (aN T.hJ)) UQ;have l4:aD aa Gt d 3 (.ptr (.box m) c)=J (.v (.int .i64 n)):=by have:=vH (k:=c) (x:=I (af a c)) (show d.boxes[m]?=J (a.map I) by rw[<-g];exact aN (aN ra)) (us M);rw[hn]at this;exact this
 have l5:aD aa Gt (d.push [.v (.int .i64 n)]) 3 (.ptr (.box (F d.boxes)) 0)=J (.v (.int .i64 n)):=lq (aK _ _);have s5:bV aa (d.push [I 0]) 3 (.ptr (.box (F d.boxes)) 0) (.v (.int .i64 n))=J (d.push [.v (.int .i64 n)]):=lJ O eX O O;have l6:∀q,aD aa Gt (d.push q) 23 (.ptr (.box o) y)=J (.arr p 0 w w):=λq=>qs (by rw[<-g];exact aN (aN (aN T.hJ))) hdy;have Z:ae (F d.boxes=F h.boxes+2):=⟨by rw[<-g,bE,bE]⟩;have kM2:ae (∀n0,fE B n0 h d):=⟨λn0=>by rw[<-g];exact(fE.refl.push _).push _⟩;have kT2:ae (iS d o B t w):=⟨T.mono λcc q z0=>by rw[<-g];exact aN (aN z0)⟩;have e0:(h.push [U.arr o 0 (F B) (F B)]).push [.v (.int .i64 (i:Nat))]=d:=g;have kL2:ae (d.loops=h.loops):=⟨by rw[<-g];rfl⟩;have kb0:ae (d.boxes[h.boxes.length]?=J [.arr o 0 (F B) (F B)]):=⟨by rw[<-g];exact aN (aK _ _)⟩;have kb1:ae (d.boxes[F h.boxes+1]?=J [I (i:Nat)]):=⟨by rw[<-g];exact na (by rw[bE])⟩;have e1:F (h.push [U.arr o 0 (F B) B.length]).boxes=F h.boxes+1:=bE _ _;have kT:=ae.mk T;have ko:=ae.mk (aj oka oko);clear aih lY T ra ro z oka oko g;unfold I at *
 refine gI O Tryz.func224 O ?_;by_cases hz:n=0
 .subst hz;rw[av O];refine bG @O' @bg ?_;exact⟨_,O,by
   have e:t.set i a=t:=by
    apply oh;intro j;rw[lM];split
    .rename_i z0;subst z0;exact hi.symm
    .rfl
   rw[e];exact kT2.out.mono λcc q z0=>aN z0,λn0=>(kM2.out n0).push _⟩
 .rw[aL hz];have Y:=Rr p w c (d.push [.v (.int .i64 n)]);unfold I at Y;refine bG @O' @bg ?_;refine bC.gen λe he hd hp nx=>?_;have g4:e.get 4=.ptr (.box (F h.boxes)) 0:=by rw[he];exact gS
  have g5:e.get 5=.ptr (.box (F h.boxes+1)) 0:=by rw[he];exact gS
  have g8:e.get 8=.ptr (.box (F d.boxes)) 0:=by rw[he];exact gS
  have g25:e.get 25=.func (.func 249) [] [.ptr (.box (F d.boxes+1+1)) 0,.ptr (.box (F d.boxes+1)) 0]:=by rw[he];simp only[gW,reduceIte,aH,aC];simp only[bE]
  have hdf:e.defers=[]:=by rw[hd];exact gS
  clear he hd hp nx;refine Fa (by rw[AN];exact g25) λrec w1 w2 w3 w4 w5 w6=>?_;have yS:=Z.out;have Ut:=kT2.out;have z:=ko.out;have Uj:∀n0,fE B n0 h (((d.push [.v (.int .i64 n)]).push [.arr p 0 w w]).push [.v (.int .i64 c)]):=λn0=>(((kM2.out n0).push _).push _).push _;have R:iS (((d.push [.v (.int .i64 n)]).push [.arr p 0 w w]).push [.v (.int .i64 c)]) o B t w:=Ut.mono λcc q z0=>aN (aN (aN z0));have p0:(((d.push [.v (.int .i64 n)]).push [.arr p 0 w w]).push [.v (.int .i64 c)]).boxes[d.boxes.length]?=J [.v (.int .i64 n)]:=aN (aN (aK _ _));have p1:(((d.push [.v (.int .i64 n)]).push [.arr p 0 w w]).push [.v (.int .i64 c)]).boxes[F d.boxes+1]?=J [.arr p 0 w w]:=aN (na (by rw[bE]));have p2:(((d.push [.v (.int .i64 n)]).push [.arr p 0 w w]).push [.v (.int .i64 c)]).boxes[F d.boxes+1+1]?=J [.v (.int .i64 c)]:=na (by rw[bE,bE]);have p3:(((d.push [.v (.int .i64 n)]).push [.arr p 0 w w]).push [.v (.int .i64 c)]).boxes[h.boxes.length]?=J [.arr o 0 (F B) (F B)]:=aN (aN (aN kb0.out));have p4:(((d.push [.v (.int .i64 n)]).push [.arr p 0 w w]).push [.v (.int .i64 c)]).boxes[F h.boxes+1]?=J [.v (.int .i64 i)]:=aN (aN (aN kb1.out));have pL:(((d.push [.v (.int .i64 n)]).push [.arr p 0 w w]).push [.v (.int .i64 c)]).loops=h.loops:=kL2.out;generalize ((d.push [.v (.int .i64 n)]).push [.arr p 0 w w]).push [.v (.int .i64 c)]=u at *
  have Ui:F u.loops=F h.loops:=congrArg F pL;rw[Ui];clear pL;clear l1 l1' l2 l3 l4 l5 s5 l6 e0 e1 Y Ut kb0 kb1;have D:=R.row i m a v hi;have N:=R.row y p own G1 E;have pG:=(aT.1 D).1;have xl:=(aT.1 (kT.out.hJ)).1;have avf:=(aT.1 (kT.out.row i m a v hi)).1;have nw:(u.loop rec).loops[h.loops.length]?=J rec:=by rw[<-Ui];exact @Ew u rec
  have I1:∀(k:Nat) (H:Heap),H=(u.loop rec).put m ((kQ n a own c k).map I)->H.boxes[F d.boxes+1+1]?=J [I (c:Nat)]/\H.boxes[F d.boxes+1]?=J [.arr p 0 w w]/\(k<w->∃q,H.boxes[p]?=J q/\q[k]?=J (I (af own k))):=by
   rintro k H rfl;refine⟨?_,?_,λhk=>⟨_,?_,us M⟩⟩
   .rw[cd M];exact p2
   .rw[cd M];exact p1
   .rw[cd (Ne.symm tZ)];exact N
  have I2:∀(k:Nat) (H:Heap),c<=k->k<w->H=(u.loop rec).put m ((kQ n a own c k).map I)->∃H',W2.round (F h.loops) [I (k:Nat),I (af own k)] H=J (.ret (.v (.bool V)),H')/\H'=(u.loop rec).put m ((kQ n a own c (k+1)).map I):=by
   rintro k H xh yR rfl;refine OY (Post:=λH=>H=(u.loop rec).put m ((kQ n a own c (k+1)).map I)) nw (by rw[w2];rfl) w5 w6 ?_;have kq:=afH (n:=n) (own:=own) xh (M:k<F a);have cat:af (kQ n a own c k) k=af a k:=(by rw[Da M,aL M]);have r1:∀t,(nG (F h.loops) rec [I (k:Nat),I (af own k)]).get t=if 27=t then I (af own k) else if 26=t then I (k:Nat) else e.get t:=λt=>IQ w2 w1
   have d1:(nG (F h.loops) rec [I (k:Nat),I (af own k)]).defers=[]:=rfl;obtain⟨K,X⟩:∃K,((u.loop rec).put m ((kQ n a own c k).map I)).busy (F h.loops) rec=K:=⟨_,O⟩;rw[X];have b1:K.boxes[m]?=J ((kQ n a own c k).map I):=(by rw[<-X];exact dh pG);have b2:K.boxes[h.boxes.length]?=J [.arr o 0 (F B) (F B)]:=(by rw[<-X];exact(cd M).trans p3);have b3:K.boxes[F h.boxes+1]?=J [I (i:Nat)]:=(by rw[<-X];exact(cd M).trans p4);have b4:K.boxes[d.boxes.length]?=J [I n]:=(by rw[<-X];exact(cd M).trans p0);have b5:K.boxes[o]?=J (B.map λb=>U.arr b 0 w w):=(by rw[<-X];exact(cd ai7).trans R.hJ);have m1:=vH b1 (us (r:=kQ n a own c k) (k:=k) (by rw[qQ];omega));rw[cat]at m1;have m2:=um b2;have m3:=lq b3;have m4:=lq b4;have m5:=qs b5 UQ;have Ep:=nZ (b:=m) (len:=w) (aS:=w) (k:=.i64) yR;have sk:=uJ (r:=kQ n a own c k) (k:=k) (x:=iV n (af a k) (af own k)) b1 (by rw[qQ];omega);rw[kq]at sk;have vN:=vO (oo z.1 k);have ok2:=vO (oo z.2 k);have f1:=λh=>N9 n (af own k) h;have f2:=λh=>Rp (af a k) (0-cS n (af own k)) h;have f3:=vO (Dj n (af own k));have fl:iV n (af a k) (af own k)=dx (af a k) (0-cS n (af own k)):=(by rw[Int.zero_sub];rfl);rw[fl]at sk;generalize cS n (af own k)=z5 at *
   generalize af a k=z1 at *
   generalize af own k=z2 at *
   clear yS g25 D N p0 p1 p2 p3 p4 Z kM2 kT2 kT ko cat Uj R b1 b2 b3 b4 b5 kq fl z;unfold I at *
   rw[w3,w4];refine w9 ?_;refine⟨aX,aX,?_⟩;refine bC.gen λe2 C jw rU Bc=>?_;have q4:e2.get 4=.ptr (.box (F h.boxes)) 0:=(by rw[C];simp only[gW,reduceIte,aH,aC,r1];exact g4);have q5:e2.get 5=.ptr (.box (F h.boxes+1)) 0:=(by rw[C];simp only[gW,reduceIte,aH,aC,r1];exact g5);have q8:e2.get 8=.ptr (.box (F d.boxes)) 0:=(by rw[C];simp only[gW,reduceIte,aH,aC,r1];exact g8);have q9:e2.get 9=.v (.int .i64 k):=(by rw[C];simp only[gW,reduceIte,aH,aC,r1]);have q10:e2.get 10=.v (.int .i64 z2):=(by rw[C];simp only[gW,reduceIte,aH,aC,r1]);clear C jw rU Bc r1 d1
   repeat' (first|simp(maxSteps:=9999999) (disch:=first|exact dZ|fail) only[gW,reduceIte,aH,aC, *]|(refine dX ?_ ?_<;>(intro _;try omega))|refine du wK am ?_)
   rw[<-X];simp only[Heap.put,Heap.busy,Heap.loop,CK];exact⟨aX,aX,aX⟩
  obtain⟨h',c1,c2⟩:=Rs (F h.loops) (F d.boxes+1+1) (F d.boxes+1) p w c own (λk H=>H=(u.loop rec).put m ((kQ n a own c k).map I)) I1 I2 M A ((u.loop rec).put m ((kQ n a own c c).map I)) O;have e3:u.loop rec=(u.loop rec).put m ((kQ n a own c c).map I):=by rw[afI];exact(lH (h:=u.loop rec) D).symm
  rw[<-e3]at c1;subst c2;clear e3;refine⟨_,_,c1,rec,nw,by rw[w5];decide,.inl ⟨w6,?_⟩⟩;clear c1 w1 w2 w3 w4 w5 w6 nw D N p0 p1 p2 p3 p4 Z kM2 kT2 kT ko;refine bh @O' ?_;refine⟨_,O,?_,λn0=>(((Uj n0).Bx _).trans (.put (cT v) _)).fb (aV _) _⟩;have T5:=iS.set (H:=u.loop rec) (R.mono λ_ _ z0=>z0) v (r:=kQ n a own c w) (by rw[qQ];exact wa);exact T5.mono λ_ _ z0=>z0
end Go.Proofs.YtcbhpkjbiehcpaaGreatDoor
end
