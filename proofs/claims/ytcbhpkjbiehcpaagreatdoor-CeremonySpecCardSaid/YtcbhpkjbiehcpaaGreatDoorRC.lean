/-
  The engine, part 47: lists that grow.
-/
import Derived.Test.YtcbhpkjbiehcpaaGreatDoorRB
open True renaming intro->aX
open Go.Proofs.Tryz renaming prog->aa,underlying60->k_,underlying29->Kb,underlying3->mD,func247->abc,underlying23->cT,underlying9->zT,underlying116->kY,func210->QC,func225->QD,func226->QE,func227->aba,func173->QB
open Option renaming some->J,none->af,bind_some->iH,map_some->fk,some.injEq->dt,map_map->J2
open List renaming length->F,replicate->bB,set_set->Cp,set_eq_take_append_cons_drop->xz,getElem?_eq_some_iff->aS,length_map->br,take->Qa,take_of_length_le->fR,map_drop->aap,length_drop->ev,mem_cons->gL,not_mem_nil->qp,take_succ_cons->dw,take_zero->cX,drop_zero->gw,drop_succ_cons->su,head?_cons->xw,mem_singleton->hY,set_cons_zero->aay,range->bZ,drop_of_length_le->mW,append_nil->ga,take_append_drop->pG,length_append->cg,length_take->cR,getElem_map->sH,getElem_range->JH,append_assoc->iE,set_append_right->Fq,drop_drop->pF,drop_append_of_le_length->aad,length_cons->dY,length_replicate->l8,nil_append->dM,map_congr_left->Cl,mem_range->hy,drop_replicate->JD,replicate_succ->Co,map_append->jB,map_cons->eD,drop_append->xv,all_eq_true->eF,mem_map->iV,getElem?_map->dW,getD_eq_getElem?_getD->eG,getElem?_eq_getElem->aN,take_left'->qr,cons_append->eu,length_set->mX,flatten_cons->jA,length_nil->fQ,getElem?_toArray->iG,getElem?_cons_zero->iF,getElem?_cons_succ->jS,flatten_append->oi,take_length->fB,mem_of_getElem?->cU,mem_flatten->JL,mem_cons_self->gx,head?_drop->Fo,getElem?_set->kQ,map_set->aaq,getElem?_take->mr,getElem?_drop->oL,mem_filter->uA,ext_getElem?->nV,mem_cons_of_mem->gj,ext_getElem->Fm,mem_or_eq_of_mem_set->uB,getElem_mem->iP,eq_of_mem_replicate->P4,getElem?_replicate->aai,contains_iff_mem->JC,mem_iff_getElem->wc
open Nat renaming reduceEqDiff->aJ,zero_le->bV,le_refl->aV,sub_zero->aaV,sub_self->qs,mul_one->jC,min_eq_left->Ct,zero_add->nX,le_trans->eS,mul_zero->aaP,beq->gX,ble->JR,eq_of_beq_eq_true->kU,le_of_ble_eq_true->jq,mul_le_mul->ji,eq_zero_or_pos->JS,and_two_pow_sub_one_eq_mod->aaE,pow_succ->xC,mul_pos->JV,pow_pos->JX,mod_lt->jU,add_mul->jh,mod_eq_of_lt->mA,pow_le_pow_right->aaR,lt_of_lt_of_le->l_,lt_succ_of_lt->JU,lt_or_ge->dp
open Int renaming toNat_natCast->fh,fdiv_eq_ediv_of_nonneg->PM,sub_zero->Cg,natCast_zero->qm
open Go renaming TypeId->aC,Program->bj,FuncId->aQ,Value->aG
open Bool renaming true->V,false->ai,and_eq_true->bm
open And renaming intro->aj
open Prod renaming mk.injEq->cL,fst->dN
set_option maxHeartbeats 64000000
set_option maxRecDepth 100000
set_option linter.unusedSimpArgs false
set_option linter.unusedVariables false
set_option linter.constructorNameAsVariable false
set_option linter.defProp false
section
namespace Go.Proofs.YtcbhpkjbiehcpaaGreatDoor
open Go.AE Go.NT
def vI{t}{x y}{u}:cy aa .shr t x y (bM u) (.v (.int .u64 3))=J (bM (u>>>3)):=qV (n:=3) aY
def vH{t}{x y}{u}:cy aa .shr t x y (bM u) (.v (.int .u64 10))=J (bM (u>>>10)):=qV (n:=10) aY
def FR{s}(d:F s=8):(U.agg (eg s)).bG=J (eg s):=by obtain⟨a,b,c,g,e,f,m,j,rfl⟩:=eight d;rfl
def Zb(n):eg (bB n 0#32)=bB n (bM 0#32):=by simp[eg]
def tu{R}{c}{e}{h}{o}{m}{d}(g:∀Q,bC R c e h (yW o m Q)):bC R c e h (yW o m d):=g d
def HZ{h:Heap}{b}{xs d}:(h.put b xs).put b d=h.put b d:=by unfold Heap.put;simp only[Cp]
def ldp{H:Heap}{b k}{cs}(d:b<F H.boxes):aD aa Gt (H.put b cs) 69 (.ptr (.box b) k)=(cs.drop k).head?:=fe CC (dn d)
def stp{H:Heap}{b k}{cs}{x:ey}(g:b<F H.boxes)(d:k+1<=F cs):bY aa (H.put b cs) 69 (.ptr (.box b) k) (bM x)=J (H.put b (cs.set k (bM x))):=by rw[fE (xs:=[bM x]) O vJ (dn g) O d,HZ];congr 2;unfold dC;rw[xz,av (show k<F cs from d)];simp
def arv{b}:gi aa 257 (.ptr (.box b) 0) (J (.v (.int .i64 1))) af af=J (.arr b 1 7 7):=am
def arw{b}:gi aa 257 (.ptr (.box b) 0) af (J (.v (.int .i64 7))) af=J (.arr b 0 7 8):=am
def ae6{H}{b}{a0 g m o p q u z}(v:H.boxes[b]?=J [a0,g,m,o,p,q,u,z]):wr aa H #[68,68] (.arr b 1 7 7) (.arr b 0 7 8)=J (.v (.int .i64 7),H.put b [a0,a0,g,m,o,p,q,u]):=by
 have C:jx H 1 (.arr b 0 7 8)=J [[a0],[g],[m],[o],[p],[q],[u]]:=by show rowsOf H 1 (.arr b 0 7 8)=_;unfold rowsOf;simp only[v];rfl
 have B:∃i,aa.info? 69=J i/\i.size=1:=by
  have d:=vJ;unfold cB at d;cases y:aa.info? 69 with
  |none=>rw[y]at d;cases d
  |some i=>rw[y]at d;exact⟨i,O,by simpa using d⟩
 obtain⟨i,A,h2⟩:=B;have D:((#[68,68]:Array Nat)[0]?).bind aa.underlying=J (.slice 69):=am;unfold wr;rw[D];simp only[A,h2,C,v];rfl
def Kc(s:List ey)(b:List UInt8)(p:Nat)(x:U)(h:Heap)(D:F s=8)(hb:64<=F b)(Z:h.boxes[p]?=J (eg s))
 (hx:∀H,e8 p h.tn h H->dA 1 H x (bI b)):
 ∃h',W.call 245 [.ptr (.box p) 0,x] h=J (.ret (.tuple []),h')/\h'.boxes[p]?=J (eg (xJ s b))/\e8 p h.tn h h':=by
 have kX:=ae.mk hx;clear hx;have avc:=(aS.1 Z).1;have kz:=ae.mk (atV b);have z242:=aub;refine gy O Tryz.func245 O ?_
 repeat' (first|simp(maxSteps:=9999999) (disch:=first|exact dZ|fail) only[gW,reduceIte,aJ,aB,oF,bF, *]|refine dX ?_ ?_<;>(intro _;try omega))
 refine b9 (λz0 e H=>∃i:Nat,i<=16/\z0=16-i/\e.get 0=.ptr (.box p) 0/\e.get 1=x/\e.get 4=.ptr (.box (F h.boxes)) 0/\e.get 14=.v (.int .i64 i)/\e.defers=[]/\H.boxes[h.boxes.length]?=J (eg (wl b i))/\H.boxes[p]?=J (eg s)/\e8 p h.tn h H) ?_ 16 _ _ ?_;rotate_left 1
 .refine⟨0,bV _,O,?_,?_,?_,?_,?_,?_,aM Z,(e8.refl _ _ _).push _⟩
  iterate 5 (first|assumption|(exact gR))
  rw[kz.out];exact aK _ _
 clear z242 kz;rintro z0 e H ⟨i,z,rfl,g0,g1,g4,g14,hd,m,d,u⟩;have v:=ae.mk u;have R:=u.len;clear u;by_cases Y:i=16;rotate_left 1
 .refine tu λQ=>?_;have q:i<16:=by omega
  have Hc:=kX.out H v.out;obtain⟨z4,y1,y2⟩:=Hc.slice (t:=60) (lo:=J (.v (.int .i64 ((4*i:Nat):Int)))) (hi:=af) (l:=4*i) (m:=b.length) aY k_ qX (.inl ⟨O,by rw[br]⟩) (.inr ⟨.i64,O⟩) M;have y3:dA 1 H z4 (bI (b.drop (4*i))):=by have e:(Qa (F b) (bI b)).drop (4*i)=bI (b.drop (4*i)):=(by rw[fR (by rw[br];exact aV _),<-aap]);rw[<-e];exact y2
  have cw:=atX _ z4 H y3 (by rw[ev];omega);rw[atW]at cw;have e4:IntKind.i64.wrap (4*((i:Nat):Int))=((4*i:Nat):Int):=by rw[ja M M];omega
  have st:=λz1=>O0 (x:=z1) m (n:=i) (by rw[B6 M];omega);have gP:=λz1 hz=>Zd (b:=b) (i:=i) (x:=z1) M hz;have B:=gP (vL b (4*i)) (by rw[av q]);have kst:=ae.mk B;have pZ:=(aS.1 m).1;have y:=ae.mk d;clear gP B Hc y2 y3 m d Z;have ix:=yN (b:=h.boxes.length) (n:=i) (k:=.i64) M
  repeat' (first|simp(maxSteps:=9999999) (disch:=first|exact dZ|fail) only[gW,reduceIte,aJ,aB,oF, *]|refine dX ?_ ?_<;>(intro _;try omega))
  refine⟨16-(i+1),by omega,i+1,by omega,O,aX,aX,aX,O,aX,?_,?_,v.out.fy (aV _) _⟩
  .rw[kst.out];exact dn pZ
  .rw[cr M];exact y.out
 subst Y;have E:=ae.mk m;have y:=ae.mk d;clear m d Z
 repeat' (first|simp(maxSteps:=9999999) (disch:=first|exact dZ|fail) only[gW,reduceIte,aJ,aB,oF, *]|refine dX ?_ ?_<;>(intro _;try omega))
 refine b9 (λz0 e H=>∃i:Nat,16<=i/\i<=64/\z0=64-i/\e.get 0=.ptr (.box p) 0/\e.get 4=.ptr (.box (F h.boxes)) 0/\e.get 6=.v (.int .i64 i)/\e.defers=[]/\H.boxes[h.boxes.length]?=J (eg (wl b i))/\H.boxes[p]?=J (eg s)/\e8 p h.tn h H) ?_ 48 _ _ ?_;rotate_left 1
 .refine⟨16,by decide,by decide,O,?_,?_,?_,?_,E.out,y.out,v.out⟩<;>(first|assumption|(exact gR))
 clear E y v g0 g1 g4 g14 hd R z;rintro z0 e H ⟨i,ah7,z,rfl,g0,g4,g6,hd,m,d,u⟩;have v:=ae.mk u;have R:=u.len;clear u;by_cases Y:i=64;rotate_left 1
 .refine tu λQ=>?_;have l0:=yR m (n:=i-16) (by rw[B6 z];omega);have l1:=yR m (n:=i-15) (by rw[B6 z];omega);have l2:=yR m (n:=i-7) (by rw[B6 z];omega);have l3:=yR m (n:=i-2) (by rw[B6 z];omega);rw[atU M]at l0 l1 l2 l3;have i0:=yN (b:=h.boxes.length) (n:=i-16) (k:=.i64) M;have i1:=yN (b:=h.boxes.length) (n:=i-15) (k:=.i64) M;have i2:=yN (b:=h.boxes.length) (n:=i-7) (k:=.i64) M;have i3:=yN (b:=h.boxes.length) (n:=i-2) (k:=.i64) M;have i4:=yN (b:=h.boxes.length) (n:=i) (k:=.i64) M;have e0:IntKind.i64.wrap (((i:Nat):Int)-16)=((i-16:Nat):Int):=by rw[ja M M];omega
  have e1:IntKind.i64.wrap (((i:Nat):Int)-15)=((i-15:Nat):Int):=by rw[ja M M];omega
  have e2:IntKind.i64.wrap (((i:Nat):Int)-7)=((i-7:Nat):Int):=by rw[ja M M];omega
  have e3:IntKind.i64.wrap (((i:Nat):Int)-2)=((i-2:Nat):Int):=by rw[ja M M];omega
  have st:=λz1=>O0 (x:=z1) m (n:=i) (by rw[B6 z];omega);have B:=Zd (b:=b) (i:=i) (x:=HA (jM b i) i) M (by rw[aP M]);unfold HA at B;have kst:=ae.mk B;have r7:=λH=>apc (ej (jM b i) (i-15)) H;have r18:=λH=>ao6 (ej (jM b i) (i-15)) H;have r17:=λH=>ao5 (ej (jM b i) (i-2)) H;have r19:=λH=>ao7 (ej (jM b i) (i-2)) H;have E:=ae.mk m;have y:=ae.mk d;clear B m d
  repeat' (first|simp(maxSteps:=9999999) (disch:=first|exact dZ|fail) only[gW,reduceIte,aJ,aB,oF,og,nY,vI,vH, *]|refine dX ?_ ?_<;>(intro _;try omega))
  refine qT am ?_
  repeat' (first|simp(maxSteps:=9999999) (disch:=first|exact dZ|fail) only[gW,reduceIte,aJ,aB,oF,og,nY,vI,vH, *]|refine dX ?_ ?_<;>(intro _;try omega))
  refine IE [6,8,20,22] [] am ?_ (λz3 hp=>nomatch hp) ?_
  .intro k T;simp only[gL,qp,or_false]at T;rcases T with rfl|rfl|rfl|rfl
   .refine Ab (x:=bM (NT.eQ (ej (jM b i) (i-15)) 7)) O O ?_ ?_
    .simp only[dw,cX]
     repeat' (first|simp(maxSteps:=9999999) (disch:=first|exact dZ|fail) only[gW,reduceIte,aJ,aB, *]|refine dX ?_ ?_<;>(intro _;try omega))
     exact⟨by trivial,λ_=>by trivial⟩
    .repeat' (first|simp(maxSteps:=9999999) (disch:=first|exact dZ|fail) only[gW,reduceIte,aJ,aB,og,nY,vI,vH, *]|refine dX ?_ ?_<;>(intro _;try omega))
   .refine Ab (x:=bM (NT.eQ (ej (jM b i) (i-15)) 18)) O O ?_ ?_
    .simp only[dw,cX]
     repeat' (first|simp(maxSteps:=9999999) (disch:=first|exact dZ|fail) only[gW,reduceIte,aJ,aB, *]|refine dX ?_ ?_<;>(intro _;try omega))
     exact⟨by trivial,λ_=>by trivial⟩
    .repeat' (first|simp(maxSteps:=9999999) (disch:=first|exact dZ|fail) only[gW,reduceIte,aJ,aB,og,nY,vI,vH, *]|refine dX ?_ ?_<;>(intro _;try omega))
   .refine Ab (x:=bM (NT.eQ (ej (jM b i) (i-2)) 17)) O O ?_ ?_
    .simp only[dw,cX]
     repeat' (first|simp(maxSteps:=9999999) (disch:=first|exact dZ|fail) only[gW,reduceIte,aJ,aB,og,nY,vI,vH, *]|refine dX ?_ ?_<;>(intro _;try omega))
     exact⟨by trivial,λ_=>by trivial⟩
    .repeat' (first|simp(maxSteps:=9999999) (disch:=first|exact dZ|fail) only[gW,reduceIte,aJ,aB,og,nY,vI,vH, *]|refine dX ?_ ?_<;>(intro _;try omega))
   .refine Ab (x:=bM (NT.eQ (ej (jM b i) (i-2)) 19)) O O ?_ ?_
    .simp only[dw,cX]
     repeat' (first|simp(maxSteps:=9999999) (disch:=first|exact dZ|fail) only[gW,reduceIte,aJ,aB,og,nY,vI,vH, *]|refine dX ?_ ?_<;>(intro _;try omega))
     exact⟨by trivial,λ_=>by trivial⟩
    .repeat' (first|simp(maxSteps:=9999999) (disch:=first|exact dZ|fail) only[gW,reduceIte,aJ,aB,og,nY,vI,vH, *]|refine dX ?_ ?_<;>(intro _;try omega))
  repeat' (first|simp(maxSteps:=9999999) (disch:=first|exact dZ|fail) only[gW,reduceIte,aJ,aB,oF,og,nY,vI,vH, *]|refine dX ?_ ?_<;>(intro _;try omega))
  refine⟨64-(i+1),by omega,i+1,by omega,by omega,O,aX,aX,O,aX,?_,?_,v.out.fy (aV _) _⟩
  .rw[kst.out];exact dn (aS.1 E.out).1
  .rw[cr M];exact y.out
 subst Y;rw[atT]at m;have a230:=FE;have s230:=BY;have lds:aD aa Gt H 257 (.ptr (.box p) 0)=J (.agg (eg s)):=by
  have X:F (eg s)=8:=by rw[br];exact D
  rw[fC FE BY d (by rw[X];exact aV _),gw,fR (by rw[X];exact aV _)]
 have cs8:(U.agg (eg s)).bG=J (eg s):=FR D;have zz:(fM aa 257).bind U.bG=J (eg (bB 8 0#32)):=by rw[Zb];exact Zg
 have spz:∀H:Heap,bY aa (H.push (eg (bB 8 0#32))) 257 (.ptr (.box (F H.boxes)) 0) (.agg (eg s))=J (H.push (eg s)):=λH=>kL (FR D) BY (by rw[br];exact D) (by rw[br];rfl);have pZ:=(aS.1 m).1;have E:=ae.mk m;have y:=ae.mk d;clear m d;have u:=v.out
 repeat' (first|simp(maxSteps:=9999999) (disch:=first|exact dZ|fail) only[gW,reduceIte,aJ,aB,oF, *]|refine dX ?_ ?_<;>(intro _;try omega))
 refine b9 (λz0 e N=>∃i:Nat,i<=64/\z0=64-i/\e.get 0=.ptr (.box p) 0/\e.get 4=.ptr (.box (F h.boxes)) 0/\e.get 9=.ptr (.box (F H.boxes)) 0/\e.get 69=.v (.int .i64 i)/\e.defers=[]/\N.boxes[h.boxes.length]?=J (eg (jM b 64))/\N.boxes[p]?=J (eg s)/\N.boxes[H.boxes.length]?=J (eg (vF s b i))/\e8 p h.tn h N) ?_ 64 _ _ ?_;rotate_left 1
 .refine⟨0,by decide,O,?_,?_,?_,?_,?_,aM E.out,aM y.out,aK _ _,v.out.push _⟩<;>(first|assumption|(exact gR))
 clear E y v g0 g4 g6 hd lds cs8 zz spz z ah7 u;have hHL:F h.boxes<F H.boxes:=pZ;generalize DS:F H.boxes=o at *
 clear DS pZ R;rintro z0 e H ⟨i,z,rfl,g0,g4,g9,g69,hd,m,d,C,u⟩;have v:=ae.mk u;have R:=u.len;clear u;by_cases Y:i=64;rotate_left 1
 .refine tu λQ=>?_;have q:i<64:=by omega
  have lw:=yR m (n:=i) (by rw[EN];exact q);have lk:=λH=>aj1 (H:=H) q;have iw:=yN (b:=h.boxes.length) (n:=i) (k:=.i64) q;have ik:=ajp (g:=1) (n:=i) (k:=.i64) q;have kR:=ae.mk (Y9 s b i);obtain⟨v0,v1,v2,v3,v4,v5,v6,v7,AU⟩:=eight (Ps b D i);have kE:=ae.mk (apg (jM b 64) _ i _ _ _ _ _ _ _ _ AU);rw[AU]at C;have r1:=λH=>ape v4 H;have r2:=λH=>apd v0 H;have wW:H.boxes[o]?=J [bM v0,bM v1,bM v2,bM v3,bM v4,bM v5,bM v6,bM v7]:=C;have E:=ae.mk m;have y:=ae.mk d;clear m d C AU;have j0:dH aa 257 (.ptr (.box o) 0) (.v (.int .i64 0))=J (.ptr (.box o) 0):=vd (n:=0) aY;have j1:dH aa 257 (.ptr (.box o) 0) (.v (.int .i64 1))=J (.ptr (.box o) 1):=vd (n:=1) aY;have j2:dH aa 257 (.ptr (.box o) 0) (.v (.int .i64 2))=J (.ptr (.box o) 2):=vd (n:=2) aY;have j4:dH aa 257 (.ptr (.box o) 0) (.v (.int .i64 4))=J (.ptr (.box o) 4):=vd (n:=4) aY;have j5:dH aa 257 (.ptr (.box o) 0) (.v (.int .i64 5))=J (.ptr (.box o) 5):=vd (n:=5) aY;have j6:dH aa 257 (.ptr (.box o) 0) (.v (.int .i64 6))=J (.ptr (.box o) 6):=vd (n:=6) aY;have j7:dH aa 257 (.ptr (.box o) 0) (.v (.int .i64 7))=J (.ptr (.box o) 7):=vd (n:=7) aY;have pj:=(aS.1 wW).1;have a42:=CC;have s42:=vJ;have cp:=ae6 wW;have sla:=arv (b:=o);have slb:=arw (b:=o)
  repeat' (first|simp(maxSteps:=9999999) (disch:=first|exact dZ|fail) only[gW,reduceIte,aJ,aB,oF,og,nY,CE,oe,su,gw,xw, *]|refine dX ?_ ?_<;>(intro _;try omega))
  refine IE [4] [] am ?_ (λz3 hp=>nomatch hp) ?_
  .intro k T;simp only[hY]at T;subst T;refine Ab (x:=bM (NT.eQ v4 6^^^NT.eQ v4 11^^^NT.eQ v4 25)) O O ?_ ?_
   .simp only[dw,cX]
    repeat' (first|simp(maxSteps:=9999999) (disch:=first|exact dZ|fail) only[gW,reduceIte,aJ,aB,su,gw,xw, *]|refine dX ?_ ?_<;>(intro _;try omega))
    exact⟨by trivial,λ_=>by trivial⟩
   .repeat' (first|simp(maxSteps:=9999999) (disch:=first|exact dZ|fail) only[gW,reduceIte,aJ,aB,og,nY,CE,oe,su,gw,xw, *]|refine dX ?_ ?_<;>(intro _;try omega))
  repeat' (first|simp(maxSteps:=9999999) (disch:=first|exact dZ|fail) only[gW,reduceIte,aJ,aB,oF,og,nY,CE,oe,su,gw,xw, *]|refine dX ?_ ?_<;>(intro _;try omega))
  refine IE [2] [] am ?_ (λz3 hp=>nomatch hp) ?_
  .intro k T;simp only[hY]at T;subst T;refine Ab (x:=bM (NT.eQ v0 2^^^NT.eQ v0 13^^^NT.eQ v0 22)) O O ?_ ?_
   .simp only[dw,cX]
    repeat' (first|simp(maxSteps:=9999999) (disch:=first|exact dZ|fail) only[gW,reduceIte,aJ,aB,su,gw,xw, *]|refine dX ?_ ?_<;>(intro _;try omega))
    exact⟨by trivial,λ_=>by trivial⟩
   .repeat' (first|simp(maxSteps:=9999999) (disch:=first|exact dZ|fail) only[gW,reduceIte,aJ,aB,og,nY,CE,oe,su,gw,xw, *]|refine dX ?_ ?_<;>(intro _;try omega))
  repeat' (first|simp(maxSteps:=9999999) (disch:=first|exact dZ|fail) only[gW,reduceIte,aJ,aB,oF,og,nY,CE,oe,su,gw,xw, *]|refine dX ?_ ?_<;>(intro _;try omega))
  refine qT am ?_;clear wW
  repeat' (first|simp(maxSteps:=9999999) (disch:=first|exact dZ|fail) only[gW,reduceIte,aJ,aB,oF,ldp,stp,HZ,nY,su,gw,xw,aay,List.set_cons_succ, *]|refine dX ?_ ?_<;>(intro _;try omega))
  refine⟨64-(i+1),by omega,i+1,by omega,O,aX,aX,aX,O,aX,?_,?_,?_,v.out.fy M _⟩
  .rw[cr M];exact E.out
  .rw[cr M];exact y.out
  .rw[dn pj,kR.out,kE.out];rfl
 subst Y;have TO:xJ s b=List.zipWith (·+·) s (vF s b 64):=rfl;rw[TO];have X:=Ps b D 64;generalize vF s b 64=z2 at *
 have pj:=(aS.1 C).1;have y:=ae.mk d;have kv:=ae.mk C;clear m d C TO
 repeat' (first|simp(maxSteps:=9999999) (disch:=first|exact dZ|fail) only[gW,reduceIte,aJ,aB,oF, *]|refine dX ?_ ?_<;>(intro _;try omega))
 refine b9 (λz0 e N=>∃i:Nat,i<=8/\z0=8-i/\e.get 0=.ptr (.box p) 0/\e.get 9=.ptr (.box o) 0/\e.get 129=.v (.int .i64 i)/\e.defers=[]/\N.boxes[p]?=J (eg (vO s z2 i))/\N.boxes[o]?=J (eg z2)/\e8 p h.tn h N) ?_ 8 _ _ ?_;rotate_left 1
 .refine⟨0,by decide,O,?_,?_,?_,?_,y.out,kv.out,v.out⟩<;>(first|assumption|(exact gR))
 clear y kv v g0 g4 g9 g69 hd R z;rintro z0 e H ⟨i,z,rfl,g0,g9,g129,hd,d,C,u⟩;have v:=ae.mk u;clear u;by_cases Y:i=8;rotate_left 1
 .refine tu λQ=>?_;have q:i<8:=by omega
  have hz:=aup D X z;have l1:=yR d (n:=i) M;have l2:=yR C (n:=i) M;rw[auo D X q]at l1;have j1:=vd (b:=p) (n:=i) (k:=.i64) q;have j2:=vd (b:=o) (n:=i) (k:=.i64) q;have st:=O0 (x:=ej s i+ej z2 i) d (n:=i) M;rw[auq D X q]at st;have qG:=(aS.1 d).1;have kv:=ae.mk C;clear d C
  repeat' (first|simp(maxSteps:=9999999) (disch:=first|exact dZ|fail) only[gW,reduceIte,aJ,aB,oF, *]|refine dX ?_ ?_<;>(intro _;try omega))
  refine qT am ?_
  repeat' (first|simp(maxSteps:=9999999) (disch:=first|exact dZ|fail) only[gW,reduceIte,aJ,aB,oF,nY, *]|refine dX ?_ ?_<;>(intro _;try omega))
  refine⟨8-(i+1),by omega,i+1,by omega,O,aX,aX,O,aX,dn qG,?_,v.out.trans (.put _ _ _ _)⟩;rw[cr M];exact kv.out
 subst Y;rw[aun D X]at d;have y:=ae.mk d;clear d C
 repeat' (first|simp(maxSteps:=9999999) (disch:=first|exact dZ|fail) only[gW,reduceIte,aJ,aB,oF, *]|refine dX ?_ ?_<;>(intro _;try omega))
 exact⟨_,O,y.out,v.out⟩
def Ox:Tryz.f246.results.toList=[]:=am
def afc(n)(h):jX aa h 69 238 (.v (.int .u32 n))=J (.v (.int .u64 (IntKind.u64.wrap n)),h):=am
def oW(n)(h):jX aa h 3 238 (.v (.int .i64 n))=J (.v (.int .u64 (IntKind.u64.wrap n)),h):=am
def CT(n)(h):jX aa h 238 5 (.v (.int .u64 n))=J (.v (.int .u8 (IntKind.u8.wrap n)),h):=am
def cP(b:UInt8):U:=.v (.int .u8 b.toNat)
abbrev da(l:List UInt8):List U:=l.map cP
def rh(n k:Nat):List UInt8:=(bZ k).map λi=>UInt8.ofNat (n/256^(k-1-i))
def Ku(n k):F (rh n k)=k:=by simp[rh]
def rP(cs:List U)(off len n i:Nat):List U:=cs.take (off+len-i)++da ((rh n len).drop (len-i))++cs.drop (off+len)
def amZ{cs}{off len n}:rP cs off len n 0=cs:=by unfold rP;rw[aaV,aaV,mW (by rw[Ku];exact aV _)];show Qa (off+len) cs++[]++_=_;rw[ga,pG]
def amX{cs}{off len n i}(hi:i<=len)(d:off+len<=F cs):F (rP cs off len n i)=F cs:=by unfold rP;simp only[cg,cR,br,ev,Ku];omega
def amY{cs}{off len n i}(hi:i<len)(q:off+len<=F cs):(rP cs off len n i).set (off+(len-1-i)) (cP (UInt8.ofNat (n/256^i)))=rP cs off len n (i+1):=by
 unfold rP;have g:off+len-i=(off+(len-1-i))+1:=by omega
 have m:off+len-(i+1)=off+(len-1-i):=by omega
 have d:off+(len-1-i)<F cs:=by omega
 have o:(rh n len).drop (len-(i+1))=UInt8.ofNat (n/256^i)::(rh n len).drop (len-i):=by
  rw[List.drop_eq_getElem_cons (by rw[Ku];omega)];congr 1
  .unfold rh;rw[sH,JH];congr 3;omega
  .congr 1;omega
 rw[g,m,o,List.take_succ_eq_append_getElem d];generalize p:cs[off+(len-1-i)]=z;rw[iE,iE,Fq _ _ (by rw[cR];omega),cR,show off+(len-1-i)-min (off+(len-1-i)) (F cs)=0 by omega];simp
def y0(cs:List U)(off len n:Nat):List U:=cs.take off++da (rh n len)++cs.drop (off+len)
def amW{cs}{off len n}:rP cs off len n len=y0 cs off len n:=by unfold rP y0;rw[qs,gw,Nat.add_sub_cancel]
def Vi{b off len aR n}{k}(d:n<len):dH aa 60 (.arr b off len aR) (.v (.int k (n:Nat)))=J (.ptr (.box b) (off+n)):=by rw[A1 k_ qX M M,fh,jC]
def Pb{H}{b k}{cs}{v}(g:H.boxes[b]?=J cs)(d:k<F cs):bY aa H 5 (.ptr (.box b) k) (cP v)=J (H.put b (cs.set k (cP v))):=by rw[fE (xs:=[cP v]) O qX g O d];congr 2;unfold dC;rw[xz,av (show k<F cs from d)];simp
def atq(m):U.v (.int .u8 (IntKind.u8.wrap ((m:Nat):Int)))=cP (UInt8.ofNat m):=by unfold cP;rw[show(UInt8.ofNat m).toNat=m%256 from UInt8.toNat_ofNat'];unfold IntKind.wrap;simp[IntKind.signed,IntKind.bits]
def N9(b off len aR n:Nat)(cs:List U)(h:Heap)(Z:len<=8)(hn:n<18446744073709551616)(d:h.boxes[b]?=J cs)(m:off+len<=F cs):
 W.call 246 [.arr b off len aR,.v (.int .u64 (n:Nat))] h=J (.ret (.tuple []),h.put b (y0 cs off len n)):=by
 have z:=k_;have g:=(aS.1 d).1;have u:=ae.mk (kC d);clear d;refine cq O Tryz.func246 O ?_;refine mK @Ox ?_;refine b9 (λy e H=>∃i:Nat,i<=len/\y=len-i/\e.get 0=.arr b off len aR/\e.get 1=.v (.int .u64 (n:Nat))/\e.get 6=.v (.int .i64 (len:Nat))/\e.get 7=.v (.int .i64 i)/\e.defers=[]/\H=h.put b (rP cs off len n i)) ?_ len _ _ ?_;rotate_left 1
 .refine⟨0,bV _,O,?_,?_,?_,?_,?_,by rw[amZ];exact u.out.symm⟩<;>(first|assumption|(exact gR))
 rintro y e H ⟨i,Y,rfl,E,N,R,T,X,rfl⟩;by_cases o:i=len
 .subst o;rw[amW];exact jc @Ox
 .refine tu λQ=>?_;have p:i<len:=by omega
  have B:IntKind.i64.wrap (8*((i:Nat):Int))=((8*i:Nat):Int):=by rw[ja M M];omega
  have C:IntKind.i64.wrap (((len:Nat):Int)-1)=((len-1:Nat):Int):=by rw[ja M M];omega
  have D:IntKind.i64.wrap (((len-1:Nat):Int)-((i:Nat):Int))=((len-1-i:Nat):Int):=by rw[ja M M];omega
  have sh:∀(t:aC) (x A:Operand),cy aa .shr t x A (.v (.int .u64 (n:Nat))) (.v (.int .i64 ((8*i:Nat):Int)))=J (.v (.int .u64 ((n/256^i:Nat):Int))):=λt x A=>by rw[z_ M,fh,show IntKind.u64.bits=64 from O,Ct M];congr 3;rw[PM _ (by have:(0:Int)<2^(8*i):=Int.pow_pos aY;omega)];have q:(2:Int)^(8*i)=((256^i:Nat):Int):=(by rw[Int.pow_mul];simp);rw[q];rfl
  have uv:=atq (n/256^i);have ix:=Vi (b:=b) (off:=off) (aR:=aR) (k:=.i64) (M:len-1-i<len);have st:=Pb (H:=h.put b (rP cs off len n i)) (v:=UInt8.ofNat (n/256^i)) (k:=off+(len-1-i)) (dn g) (by rw[amX M m];omega);rw[amY p m,HZ]at st;refine Lj @Ox @CT ?_;refine⟨len-(i+1),by omega,i+1,by omega,O,aX,aX,aX,O,aX,O⟩
def FN:∀(i:Nat) (s:List ey) (b:List UInt8),iu (i+1) s b=xJ (iu i s b) ((b.drop (64*i)).take 64)
 |0,s,b=>rfl
 |i+1,s,b=>by rw[iu,FN i,iu,pF];congr 3;omega
def Ri:∀(i j:Nat) (s:List ey) (b:List UInt8),iu (i+j) s b=iu j (iu i s b) (b.drop (64*i))
 |0,j,s,b=>by rw[nX];rfl
 |i+1,j,s,b=>by rw[(M:i+1+j=(i+j)+1),iu,Ri i j,iu,pF];congr 2;omega
def Ky:∀(i:Nat) (s:List ey) (a b:List UInt8),64*i<=F a->iu i s (a++b)=iu i s a
 |0,_,_,_,_=>rfl
 |i+1,s,a,b,h=>by rw[iu,iu,List.take_append_of_le_length M,aad M];exact Ky i _ _ b (by rw[ev];omega)
def adl{s}{b}(d:F s=8):F (xJ s b)=8:=by have:=Ps b d 64;unfold vF at this;unfold xJ;simp[d,this]
def wj:∀(i:Nat) (s:List ey) (b:List UInt8),F s=8->F (iu i s b)=8
 |0,_,_,h=>h
 |i+1,s,b,h=>wj i _ _ (adl h)
def mG(r:Nat):Nat:=if r>55 then 128 else 64
def lq(rest:List UInt8)(n:Nat):List UInt8:=rest++0x80::bB (mG (F rest)-9-F rest) 0++A8 n
def Sz{rest}{n}(d:F rest<64):F (lq rest n)=mG (F rest):=by
 unfold lq mG;simp only[cg,dY,l8];have:F (A8 n)=8:=by simp[A8]
 rw[this];split<;>omega
def alT(b):HN b=b.take (64*(F b/64))++lq (b.drop (64*(F b/64))) (F b):=by
 unfold HN lq;have e:Pv (F b)=mG (F (b.drop (64*(b.length/64))))-9-F (b.drop (64*(b.length/64))):=by unfold Pv mG;rw[ev];split<;>omega
 rw[e,<-iE,<-iE,pG]
def ard(b):jf b=np (iu (mG (F (b.drop (64*(b.length/64))))/64) (iu (F b/64) NT.start b) (lq (b.drop (64*(F b/64))) (F b))):=by
 unfold jf;have m:F (b.drop (64*(b.length/64)))<64:=by rw[ev];omega
 have d:F (b.take (64*(b.length/64)))=64*(F b/64):=by rw[cR];omega
 rw[alT,cg,Sz m,d,show(64*(F b/64)+mG (F (b.drop (64*(b.length/64)))))/64=F b/64+mG (F (b.drop (64*(b.length/64))))/64 by rw[Nat.mul_add_div aY]];have h2:iu (F b/64) NT.start (b.take (64*(F b/64)))=iu (F b/64) NT.start b:=by have:=Ky (F b/64) NT.start (b.take (64*(F b/64))) (b.drop (64*(F b/64))) (by rw[d];exact aV _);rw[pG]at this;exact this.symm
 have g:(b.take (64*(F b/64))).drop (64*(F b/64))=[]:=mW (by rw[d];exact aV _);rw[Ri,aad (by rw[d];exact aV _),g,dM];rw[Ky _ _ _ _ (by rw[d];exact aV _),h2]
def aka(n):rh (n*8) 8=A8 n:=by unfold rh A8;apply Cl;intro i d;rw[hy]at d;congr 2;rw[show(256:Nat)=2^8 from O,<-Nat.pow_mul]
def acL(x:ey):rh x.toNat 4=[UInt8.ofNat (x.toNat/16777216),UInt8.ofNat (x.toNat/65536),UInt8.ofNat (x.toNat/256),UInt8.ofNat x.toNat]:=by show[UInt8.ofNat (x.toNat/256^3),UInt8.ofNat (x.toNat/256^2),UInt8.ofNat (x.toNat/256^1),UInt8.ofNat (x.toNat/256^0)]=_;simp
def alN{s:List ey}{i}{x}(hi:s[i]?=J x):np (s.take (i+1))=np (s.take i)++rh x.toNat 4:=by rw[fY hi,acL];unfold np;rw[List.flatMap_append];simp
def Bo(s):F (np s)=4*F s:=by
 unfold np
 induction s with
 |nil=>rfl|cons a s d=>rw[List.flatMap_cons,cg,d];simp;omega
def mn(l):F (da l)=F l:=br _
def afT{rest}{n}(u:F rest<64):
 y0 ((da rest++(bB 128 (cP 0)).drop (F rest)).set (F rest) (cP 0x80)) (mG (F rest)-8) 8 (n*8)=da (lq rest n)++bB (128-mG (F rest)) (cP 0):=by
 have q:mG (F rest)=64∨mG (F rest)=128:=by unfold mG;split<;>omega
 have p:F rest+9<=mG (F rest):=by unfold mG;split<;>omega
 rw[JD];obtain⟨k,o⟩:∃k,128-F rest=k+1:=⟨127-F rest,by omega⟩;rw[o,Co,Fq _ _ (by rw[mn];exact aV _),mn,qs,aay];unfold y0 lq;rw[aka];generalize mG (F rest)=L at *
 have g:Qa (L-8) (da rest++cP 0x80::bB k (cP 0))=da (rest++0x80::bB (L-9-F rest) 0):=by rw[List.take_append,mn,fR (by rw[mn];omega)];obtain⟨j,d⟩:∃j,L-8-F rest=j+1:=⟨L-9-F rest,by omega⟩;rw[d,dw,List.take_replicate,Ct M];unfold da;rw[jB,eD,List.map_replicate,(M:L-9-F rest=j)]
 have m:List.drop (L-8+8) (da rest++cP 0x80::bB k (cP 0))=bB (128-L) (cP 0):=by rw[xv,mn,mW (by rw[mn];omega),dM];obtain⟨j,d⟩:∃j,L-8+8-F rest=j+1:=⟨L-1-F rest,by omega⟩;rw[d,su,JD];congr 1;omega
 rw[g,m];unfold da;rw[<-jB]
def qQ:Tryz.f204.results.toList=[.cell 2 29]:=am
def Ke:fx aa 29=J V:=am
def xk:cB aa 29=J 32:=am
def Pu:(fM aa 29).bind U.bG=J (bB 32 (cP 0)):=am
def ajZ(H):aD aa Gt H 256 (.ptr (.dB 0) 0)=J (.agg (eg NT.start)):=am
def E3(l):(U.agg (da l)).bG=J (da l):=by
 have:(da l).all U.cW=V:=by rw[eF];intro x d;obtain⟨b,-,rfl⟩:=iV.1 d;rfl
 unfold U.bG;simp[this]
def V9(H):vj aa H 60 (.v (.int .i64 64)) (.v (.int .i64 128))=J (.arr (F H.boxes) 0 64 128,H.push (bB 128 (cP 0))):=am
def I7(l):(bI l).flatten=da l:=by rw[KC];rfl
def ae5{H}{eb len aR}{x}{rest}{cs}(s:dA 1 H x (bI rest))(o:H.boxes[eb]?=J cs)(z:len<=F cs)(h2:len<=aR)(m:F rest<=len):
 wr aa H #[60,60] (.arr eb 0 len aR) x=J (.v (.int .i64 (F rest:Nat)),H.put eb (da rest++cs.drop (F rest))):=by
 have p:∃i,aa.info? 5=J i/\i.size=1:=by
  have d:=qX;unfold cB at d;cases g:aa.info? 5 with
  |none=>rw[g]at d;cases d
  |some i=>rw[g]at d;exact⟨i,O,by simpa using d⟩
 obtain⟨i,v,y⟩:=p;have u:((#[60,60]:Array Nat)[0]?).bind aa.underlying=J (.slice 5):=am;unfold wr;rw[u];simp only[v,y,s.news,o];rw[av ⟨M,h2⟩];have q:Nat.min (F (bI rest)) len=F rest:=by rw[br];exact Ct m
 rw[q,fR (by rw[br];exact aV _),I7];have e:dC cs 0 (da rest)=da rest++cs.drop (F rest):=by unfold dC;rw[cX,dM,nX,mn]
 rw[e];rfl
def OW{R:Heap->Prop}{q}{x}{l}(A:∀H,R H->dA 1 H x (bI l))(h0:R q)(v:64<=F l):
 ∃y z,gi aa 60 x af (J (.v (.int .i64 64))) af=J y/\gi aa 60 x (J (.v (.int .i64 64))) af af=J z/\
  (∀H,R H->dA 1 H y (bI (l.take 64)))/\∀H,R H->dA 1 H z (bI (l.drop 64)):=by
 have D:∀H,R H->∃y,gi aa 60 x af (J (.v (.int .i64 64))) af=J y/\dA 1 H y (bI (l.take 64)):=λH d=>by obtain⟨y,g,p⟩:=(A H d).slice (t:=60) (lo:=af) (hi:=J (.v (.int .i64 64))) (l:=0) (m:=64) aY k_ qX (.inr ⟨.i64,O,by rw[br];exact v⟩) (.inl ⟨O,O⟩) aY;rw[gw,<-List.map_take]at p;exact⟨y,g,p⟩
 have E:∀H,R H->∃y,gi aa 60 x (J (.v (.int .i64 64))) af af=J y/\dA 1 H y (bI (l.drop 64)):=λH d=>by obtain⟨y,g,p⟩:=(A H d).slice (t:=60) (lo:=J (.v (.int .i64 64))) (hi:=af) (l:=64) (m:=l.length) aY k_ qX (.inl ⟨O,by rw[br]⟩) (.inr ⟨.i64,O⟩) v;rw[fR (by rw[br];exact aV _),<-aap]at p;exact⟨y,g,p⟩
 obtain⟨y,g,-⟩:=D q h0;obtain⟨z,B,-⟩:=E q h0;refine⟨y,z,g,B,λH d=>?_,λH d=>?_⟩
 .obtain⟨C,o,u⟩:=D H d;rw[g]at o;cases o;exact u
 .obtain⟨C,o,u⟩:=E H d;rw[B]at o;cases o;exact u
def Vh{l}{i}{k}(m:F l=8)(hi:i<8):yL aa 257 (.agg (eg l)) (.v (.int k (i:Nat)))=J (bM (ej l i)):=by
 have g:=Tryz.underlying257;unfold yL;rw[g];simp only[vJ];rw[av ⟨M,by omega⟩];unfold Ek;rw[CC];simp only[vJ];rw[fh,jC];have d:i<F l:=by omega
 show(eg l)[i]?=_;rw[dW,ej,eG,aN d];rfl
def Yo{b i}(hi:i<8):gi aa 29 (.ptr (.box b) 0) (J (.v (.int .i64 ((4*i:Nat):Int)))) (J (.v (.int .i64 ((4*i+4:Nat):Int)))) af=J (.arr b (4*i) 4 (32-4*i)):=by
 have m:=Kb;unfold gi;rw[m];have d:fT 32 af 32=J 32:=rfl;have h2:fT 32 (J (.v (.int .i64 ((4*i+4:Nat):Int)))) 32=J (4*i+4):=by show(if _ then _ else _)=_;rw[av ⟨M,by omega⟩,fh]
 have g:fT (4*i+4) (J (.v (.int .i64 ((4*i:Nat):Int)))) 0=J (4*i):=by show(if _ then _ else _)=_;rw[av ⟨M,by omega⟩,fh]
 simp only[qX,d,h2,g];rw[aP b7,aP M,nX,jC,(M:4*i+4-4*i=4)]
def Si{v:ey}{H}:jX aa H 69 238 (bM v)=J (.v (.int .u64 (v.toNat:Nat)),H):=by unfold bM;rw[afc];congr 4;unfold IntKind.wrap;simp[IntKind.signed,IntKind.bits];have:=v.isLt;omega
def Yu(cs):dC cs 0 cs=cs:=by unfold dC;simp
def WG{s}(m:F s=8){i}(hi:i<8):y0 (da (np (s.take i))++bB (32-4*i) (cP 0)) (4*i) 4 (ej s i).toNat=da (np (s.take (i+1)))++bB (32-4*(i+1)) (cP 0):=by
 have d:F (da (np (s.take i)))=4*i:=by rw[mn,Bo,cR];omega
 have g:s[i]?=J (ej s i):=by unfold ej;rw[eG,aN M];rfl
 unfold y0;rw[alN g,qr d,xv,d,mW M,dM,JD,(M:32-4*i-(4*i+4-4*i)=32-4*(i+1))];unfold da;rw[jB]
def afy(b)(i):xJ (iu i NT.start b) ((b.drop (64*i)).take 64)=iu (i+1) NT.start b:=(FN i _ b).symm
def Yl(b:List UInt8)(x:U)(h:Heap)(s:dA 1 h x (bI b))(hb:F b<=1152921504606846975):
 ∃h',W.call 204 [x] h=J (.ret (.agg (da (jf b))),h')/\Ext h h':=by
 have u28:=k_;have z177:=Pu;have zz:(fM aa 257).bind U.bG=J (eg (bB 8 0#32)):=by rw[Zb];exact Zg
 have cs8:(U.agg (eg NT.start)).bG=J (eg NT.start):=FR O;have spz:∀H:Heap,bY aa (H.push (eg (bB 8 0#32))) 257 (.ptr (.box (F H.boxes)) 0) (.agg (eg NT.start))=J (H.push (eg NT.start)):=λH=>kL (FR O) BY O O;have spz2:∀H:Heap,∀z0,bY aa ((H.push z0).push (eg (bB 8 0#32))) 257 (.ptr (.box (F H.boxes+1)) 0) (.agg (eg NT.start))=J ((H.push z0).push (eg NT.start)):=λH z0=>by rw[<-bF H z0];exact spz _
 have lx:=s.len k_;rw[br]at lx;have kS:=ae.mk s;have kSs:=ae.mk (ard b);clear s;refine gy O Tryz.func204 O ?_;refine cK @qQ @bF @ajZ ?_;generalize rt:(h.push (bB 32 (cP 0))).push (eg NT.start)=H0;generalize m:F h.boxes+1=sb;have kx:ae (∀p,e8 sb h.tn H0 p->dA 1 p x (bI b)):=⟨λp T=>kS.out.mono λc cs A=>by have R:=(aS.1 A).1;refine T.box c cs M ?_;rw[<-rt];exact aM (aM A)⟩;have g':H0.boxes[h.boxes.length]?=J (bB 32 (cP 0)):=by rw[<-rt];exact aM (aK _ _)
 have AR:H0.boxes[sb]?=J (eg (iu 0 NT.start b)):=by rw[<-rt,<-m];exact mJ (by rw[bF])
 have To:Ext h H0:=by rw[<-rt];exact(Ext.push _ _).trans (.push _ _)
 have avb:F h.boxes<sb:=by omega
 have auB:F H0.boxes=sb+1:=by rw[<-rt,<-m,bF,bF]
 have kd:=ae.mk g';have kE:=ae.mk To;have ks:=ae.mk AR;clear g' To AR rt m z177 zz cs8 spz spz2 kS;refine b9 (λT e H=>∃(i:Nat) (z0:U),64*i<=F b/\T=F b-64*i/\e.get 0=x/\e.get 2=.ptr (.box (F h.boxes)) 0/\e.get 3=.ptr (.box sb) 0/\e.get 4=.func (.func 245) [.ptr (.box sb) 0] []/\e.get 5=z0/\e.defers=[]/\(∀p,e8 sb h.tn H0 p->dA 1 p z0 (bI (b.drop (64*i))))/\H.boxes[sb]?=J (eg (iu i NT.start b))/\e8 sb h.tn H0 H) ?_ (F b) _ _ ?_;rotate_left 1
 .refine⟨0,x,bV _,O,?_,?_,?_,?_,?_,?_,kx.out,ks.out,e8.refl _ _ _⟩<;>(first|assumption|(exact gR))
 clear ks;rintro T e H ⟨i,z0,hi,rfl,g0,g2,g3,g4,g5,hd,B,m,g⟩;have ly:=(B H g).len k_;rw[br,ev]at ly;by_cases A:64<=F b-64*i
 .refine tu λQ=>?_;obtain⟨y1,y2,q1,q2,q3,q4⟩:=OW B g (by rw[ev];exact A);obtain⟨H2,c1,X,c3⟩:=Kc _ _ sb y1 H (wj i NT.start b O) (by rw[cR,ev];omega) m (λp T=>q3 p (g.trans (T.r_ (eS kE.out.tn g.tn))));rw[afy]at X;have kM:=ae.mk (g.trans (c3.r_ (eS kE.out.tn g.tn)));have kq:=ae.mk q4;have k2:=ae.mk X;clear g X c3 q3 q4 B m;refine cK @qQ @eu.{0} @dM.{0} ?_;refine⟨F b-64*(i+1),by omega,i+1,y2,by omega,O,aX,aX,aX,aX,O,aX,?_,k2.out,kM.out⟩;rw[(M:64*(i+1)=64*i+64),<-pF];exact kq.out
 have uR:F b/64=i:=by omega
 have Z:=ae.mk kSs.out;rw[uR]at Z;have lH:F (b.drop (64*i))<64:=by rw[ev];omega
 have AP:F b-64*i=F (b.drop (64*i)):=by rw[ev]
 rw[AP]at ly A;have h8:=wj i NT.start b O;generalize iu i NT.start b=s1 at *
 generalize b.drop (64*i)=r at *
 clear AP kSs;have kM:=ae.mk g;have De:=g.len;have MT:=B (H.push (bB 128 (cP 0))) (g.push _);have cp:=ae5 (len:=64) (aR:=128) MT (aK _ _) (by rw[l8];decide) aY M;rw[lO]at cp;have e1:IntKind.u64.wrap ((F b:Nat):Int)=((F b:Nat):Int):=by unfold IntKind.wrap;simp[IntKind.signed,IntKind.bits];omega
 have e2:IntKind.u64.wrap (((F b:Nat):Int)*8)=((F b*8:Nat):Int):=by unfold IntKind.wrap;simp[IntKind.signed,IntKind.bits];omega
 have ix:=Vi (b:=H.boxes.length) (off:=0) (aR:=128) (k:=.i64) lH;rw[nX]at ix;have Ll:F (da r++(bB 128 (cP 0)).drop r.length)=128:=by rw[cg,mn,ev,l8];omega
 have st:bY aa (H.push (da r++(bB 128 (cP 0)).drop (F r))) 5 (.ptr (.box (F H.boxes)) (F r)) (.v (.int .u8 128))=J (H.push ((da r++(bB 128 (cP 0)).drop (F r)).set (F r) (cP 0x80))):=by have:=Pb (H:=H.push (da r++(bB 128 (cP 0)).drop (F r))) (v:=0x80) (aK _ _) (k:=r.length) (by rw[Ll];omega);rw[lO]at this;exact this
 have hE:=afT (n:=b.length) lH;have qD:F ((da r++(bB 128 (cP 0)).drop (F r)).set (F r) (cP 0x80))=128:=by rw[mX,Ll]
 generalize da r++(bB 128 (cP 0)).drop (F r)=C1 at *
 generalize C1.set (F r) (cP 0x80)=C2 at *
 have kEl:=ae.mk (Sz (n:=b.length) lH);have pe:=λ(off aR:Nat) (ho:off+8<=128)=>N9 (F H.boxes) off 8 aR (F b*8) C2 (H.push C2) aY M (aK _ _) (by rw[qD];exact ho);simp only[lO]at pe;have ks:=ae.mk m;clear MT B g m Ll qD hi uR;have hL:(F r<=55/\mG (F r)=64)∨(55<F r/\mG (F r)=128):=by unfold mG;split<;>omega
 rcases hL with⟨hr,hL⟩|⟨hr,hL⟩
 .rw[hL]at hE kEl Z;have p1:=pe 56 72 aY;rw[hE]at p1;have sl:gi aa 60 (.arr (F H.boxes) 0 64 128) (J (.v (.int .i64 (((64:Nat):Int)-8)))) af af=J (.arr (F H.boxes) 56 8 72):=am;clear pe hE hL;refine cK @qQ @V9 @oW ?_;have o:=kEl.out;generalize D:H.push (da (lq r (F b))++bB (128-64) (cP 0))=H1;generalize hz:F H.boxes=eb;have Y:H1.boxes[eb]?=J (da (lq r (F b))++bB (128-64) (cP 0)):=by rw[<-D,<-hz];exact aK _ _
  have Dg:e8 sb h.tn H0 H1:=by rw[<-D];exact kM.out.push _
  have eo:H1.boxes[sb]?=J (eg s1):=by rw[<-D];exact aM ks.out
  have fI:eb≠sb:=by omega
  have hR:∀p,e8 sb h.tn H1 p->dA 1 p (.arr eb 0 64 128) (bI ((lq r (F b)).drop (64*0))):=λp T=>by
   rw[aaP,gw];refine⟨xM _,.inr ⟨eb,0,128,_,by rw[br,o],by rw[br,o];decide,T.box _ _ fI Y,?_,?_⟩⟩
   .rw[I7,br,jC,gw,qr (mn _)]
   .rw[br,cg,mn,o,l8];decide
  have kR:=ae.mk hR;have kB:=ae.mk Y;have y:=ae.mk Dg;have kS1:=ae.mk eo;clear Y Dg eo hR D hz kM ks cp st p1 sl ix;refine b9 (λT e H=>∃(i:Nat) (z0:U),64*i<=64/\T=64-64*i/\e.get 2=.ptr (.box (F h.boxes)) 0/\e.get 3=.ptr (.box sb) 0/\e.get 4=.func (.func 245) [.ptr (.box sb) 0] []/\e.get 6=z0/\e.defers=[]/\(∀p,e8 sb h.tn H1 p->dA 1 p z0 (bI ((lq r (F b)).drop (64*i))))/\H.boxes[sb]?=J (eg (iu i s1 (lq r (F b))))/\e8 sb h.tn H1 H) ?_ 64 _ _ ?_;rotate_left 1
  .refine⟨0,.arr eb 0 64 128,bV _,O,?_,?_,?_,?_,?_,kR.out,kS1.out,e8.refl _ _ _⟩<;>(first|assumption|(exact gR))
  clear kR kS1 g0 g2 g3 g4 g5 hd ly A;rintro T e H ⟨i,z0,hi,rfl,g2,g3,g4,g6,hd,B,m,g⟩;have ly:=(B H g).len k_;rw[br,ev,o]at ly;by_cases A:0<64-64*i
  .refine tu λQ=>?_;obtain⟨y1,y2,q1,q2,q3,q4⟩:=OW B g (by rw[ev,o];omega);obtain⟨H2,c1,X,c3⟩:=Kc _ _ sb y1 H (wj i s1 _ h8) (by rw[cR,ev,o];omega) m (λp T=>q3 p (g.trans (T.r_ (eS kE.out.tn (eS y.out.tn g.tn)))));rw[<-FN]at X;have kM:=ae.mk (g.trans (c3.r_ (eS kE.out.tn (eS y.out.tn g.tn))));have kq:=ae.mk q4;have k2:=ae.mk X;clear g X c3 q3 q4 B m;refine cK @qQ @eu.{0} @dM.{0} ?_;refine⟨64-64*(i+1),by omega,i+1,y2,by omega,O,aX,aX,aX,O,aX,?_,k2.out,kM.out⟩;rw[(M:64*(i+1)=64*i+64),<-pF];exact kq.out
  have uR:i=64/64:=by omega
  subst uR;have C_:=wj (64/64) s1 (lq r (F b)) h8;generalize iu (64/64) s1 (lq r (F b))=q at *
  have z:Ext h H:=kE.out.mut (y.out.trans g) M;have d:=(y.out.trans g).box _ _ M kd.out;have C:F q=8:=C_;have lds:aD aa Gt H 257 (.ptr (.box sb) 0)=J (.agg (eg q)):=by have DT:F (eg q)=8:=(by rw[br];exact C);rw[fC FE BY m (by rw[DT];exact aV _),gw,fR (by rw[DT];exact aV _)]
  have N:=ae.mk z;have kdb:=ae.mk d;clear z d m g B y kd kB kE C_;have kSh2:ae (jf b=np q):=⟨Z.out⟩;clear Z;refine bg @qQ ?_;refine b9 (λT e H=>∃(i:Nat),i<=8/\T=8-i/\e.get 2=.ptr (.box (F h.boxes)) 0/\e.get 53=.agg (eg q)/\e.get 54=.v (.int .i64 i)/\e.defers=[]/\H.boxes[h.boxes.length]?=J (da (np (q.take i))++bB (32-4*i) (cP 0))/\Ext h H) ?_ 8 _ _ ?_;rotate_left 1
  .refine⟨0,by decide,O,?_,?_,?_,?_,kdb.out,N.out⟩<;>(first|assumption|(exact gR))
  clear kdb N lds g2 g3 g4 g6 hd ly A;rintro T e H ⟨i,hi,rfl,g2,g53,g54,hd,d,z⟩;by_cases A:i=8
  .subst A;rw[fR M]at d;have e0:da (np q)++bB (32-4*8) (cP 0)=da (np q):=ga _;rw[e0,<-kSh2.out]at d;have u:F (da (jf b))=32:=(by rw[mn,kSh2.out,Bo,C]);have l177:aD aa Gt H 29 (.ptr (.box (F h.boxes)) 0)=J (.agg (da (jf b))):=(by rw[fC Ke xk d (by rw[u];exact aV _),gw,fR (by rw[u];exact aV _)]);have s177:bY aa H 29 (.ptr (.box (F h.boxes)) 0) (.agg (da (jf b)))=J H:=(by rw[fE (E3 _) xk d u (by rw[u];exact aV _),Yu,kC d]);have N:=ae.mk z;clear d z;refine bg @qQ ?_;exact⟨_,O,N.out⟩
  .refine tu λQ=>?_;have R:i<8:=(by omega);have iv:=Vh (k:=.i64) C R;have e4:IntKind.i64.wrap (4*((i:Nat):Int))=((4*i:Nat):Int):=(by rw[ja M M];omega);have e5:IntKind.i64.wrap (((4*i:Nat):Int)+4)=((4*i+4:Nat):Int):=(by rw[ja M M];omega);have sl:=Yo (b:=h.boxes.length) R;have pe:=N9 (F h.boxes) (4*i) 4 (32-4*i) (ej q i).toNat _ H aY (by have:=(ej q i).isLt;omega) d (by rw[cg,mn,Bo,cR,l8];omega);rw[WG C R]at pe;have yv:=(aS.1 d).1;have N:=ae.mk z;clear d z;refine bE @qQ @Si ?_;refine⟨8-(i+1),by omega,i+1,by omega,O,aX,aX,O,aX,dn yv,N.out.fy (aV _) _⟩
 .rw[hL]at hE kEl Z;have p1:=pe 120 8 aY;rw[hE]at p1;have sl0:gi aa 60 (.arr (F H.boxes) 0 64 128) af (J (.v (.int .i64 128))) af=J (.arr (F H.boxes) 0 128 128):=am;have sl:gi aa 60 (.arr (F H.boxes) 0 128 128) (J (.v (.int .i64 (((128:Nat):Int)-8)))) af af=J (.arr (F H.boxes) 120 8 8):=am;clear pe hE hL;refine cK @qQ @V9 @oW ?_;have o:=kEl.out;generalize D:H.push (da (lq r (F b))++bB (128-128) (cP 0))=H1;generalize hz:F H.boxes=eb;have Y:H1.boxes[eb]?=J (da (lq r (F b))++bB (128-128) (cP 0)):=by rw[<-D,<-hz];exact aK _ _
  have Dg:e8 sb h.tn H0 H1:=by rw[<-D];exact kM.out.push _
  have eo:H1.boxes[sb]?=J (eg s1):=by rw[<-D];exact aM ks.out
  have fI:eb≠sb:=by omega
  have hR:∀p,e8 sb h.tn H1 p->dA 1 p (.arr eb 0 128 128) (bI ((lq r (F b)).drop (64*0))):=λp T=>by
   rw[aaP,gw];refine⟨xM _,.inr ⟨eb,0,128,_,by rw[br,o],by rw[br,o];decide,T.box _ _ fI Y,?_,?_⟩⟩
   .rw[I7,br,jC,gw,qr (mn _)]
   .rw[br,cg,mn,o,l8];decide
  have kR:=ae.mk hR;have kB:=ae.mk Y;have y:=ae.mk Dg;have kS1:=ae.mk eo;clear Y Dg eo hR D hz kM ks cp st p1 sl ix;refine b9 (λT e H=>∃(i:Nat) (z0:U),64*i<=128/\T=128-64*i/\e.get 2=.ptr (.box (F h.boxes)) 0/\e.get 3=.ptr (.box sb) 0/\e.get 4=.func (.func 245) [.ptr (.box sb) 0] []/\e.get 6=z0/\e.defers=[]/\(∀p,e8 sb h.tn H1 p->dA 1 p z0 (bI ((lq r (F b)).drop (64*i))))/\H.boxes[sb]?=J (eg (iu i s1 (lq r (F b))))/\e8 sb h.tn H1 H) ?_ 128 _ _ ?_;rotate_left 1
  .refine⟨0,.arr eb 0 128 128,bV _,O,?_,?_,?_,?_,?_,kR.out,kS1.out,e8.refl _ _ _⟩<;>(first|assumption|(exact gR))
  clear kR kS1 g0 g2 g3 g4 g5 hd ly A;rintro T e H ⟨i,z0,hi,rfl,g2,g3,g4,g6,hd,B,m,g⟩;have ly:=(B H g).len k_;rw[br,ev,o]at ly;by_cases A:0<128-64*i
  .refine tu λQ=>?_;obtain⟨y1,y2,q1,q2,q3,q4⟩:=OW B g (by rw[ev,o];omega);obtain⟨H2,c1,X,c3⟩:=Kc _ _ sb y1 H (wj i s1 _ h8) (by rw[cR,ev,o];omega) m (λp T=>q3 p (g.trans (T.r_ (eS kE.out.tn (eS y.out.tn g.tn)))));rw[<-FN]at X;have kM:=ae.mk (g.trans (c3.r_ (eS kE.out.tn (eS y.out.tn g.tn))));have kq:=ae.mk q4;have k2:=ae.mk X;clear g X c3 q3 q4 B m;refine cK @qQ @eu.{0} @dM.{0} ?_;refine⟨128-64*(i+1),by omega,i+1,y2,by omega,O,aX,aX,aX,O,aX,?_,k2.out,kM.out⟩;rw[(M:64*(i+1)=64*i+64),<-pF];exact kq.out
  have uR:i=128/64:=by omega
  subst uR;have C_:=wj (128/64) s1 (lq r (F b)) h8;generalize iu (128/64) s1 (lq r (F b))=q at *
  have z:Ext h H:=kE.out.mut (y.out.trans g) M;have d:=(y.out.trans g).box _ _ M kd.out;have C:F q=8:=C_;have lds:aD aa Gt H 257 (.ptr (.box sb) 0)=J (.agg (eg q)):=by have DT:F (eg q)=8:=(by rw[br];exact C);rw[fC FE BY m (by rw[DT];exact aV _),gw,fR (by rw[DT];exact aV _)]
  have N:=ae.mk z;have kdb:=ae.mk d;clear z d m g B y kd kB kE C_;have kSh2:ae (jf b=np q):=⟨Z.out⟩;clear Z;refine bg @qQ ?_;refine b9 (λT e H=>∃(i:Nat),i<=8/\T=8-i/\e.get 2=.ptr (.box (F h.boxes)) 0/\e.get 53=.agg (eg q)/\e.get 54=.v (.int .i64 i)/\e.defers=[]/\H.boxes[h.boxes.length]?=J (da (np (q.take i))++bB (32-4*i) (cP 0))/\Ext h H) ?_ 8 _ _ ?_;rotate_left 1
  .refine⟨0,by decide,O,?_,?_,?_,?_,kdb.out,N.out⟩<;>(first|assumption|(exact gR))
  clear kdb N lds g2 g3 g4 g6 hd ly A;rintro T e H ⟨i,hi,rfl,g2,g53,g54,hd,d,z⟩;by_cases A:i=8
  .subst A;rw[fR M]at d;have e0:da (np q)++bB (32-4*8) (cP 0)=da (np q):=ga _;rw[e0,<-kSh2.out]at d;have u:F (da (jf b))=32:=(by rw[mn,kSh2.out,Bo,C]);have l177:aD aa Gt H 29 (.ptr (.box (F h.boxes)) 0)=J (.agg (da (jf b))):=(by rw[fC Ke xk d (by rw[u];exact aV _),gw,fR (by rw[u];exact aV _)]);have s177:bY aa H 29 (.ptr (.box (F h.boxes)) 0) (.agg (da (jf b)))=J H:=(by rw[fE (E3 _) xk d u (by rw[u];exact aV _),Yu,kC d]);have N:=ae.mk z;clear d z;refine bg @qQ ?_;exact⟨_,O,N.out⟩
  .refine tu λQ=>?_;have R:i<8:=(by omega);have iv:=Vh (k:=.i64) C R;have e4:IntKind.i64.wrap (4*((i:Nat):Int))=((4*i:Nat):Int):=(by rw[ja M M];omega);have e5:IntKind.i64.wrap (((4*i:Nat):Int)+4)=((4*i+4:Nat):Int):=(by rw[ja M M];omega);have sl:=Yo (b:=h.boxes.length) R;have pe:=N9 (F h.boxes) (4*i) 4 (32-4*i) (ej q i).toNat _ H aY (by have:=(ej q i).isLt;omega) d (by rw[cg,mn,Bo,cR,l8];omega);rw[WG C R]at pe;have yv:=(aS.1 d).1;have N:=ae.mk z;clear d z;refine bE @qQ @Si ?_;refine⟨8-(i+1),by omega,i+1,by omega,O,aX,aX,O,aX,dn yv,N.out.fy (aV _) _⟩
def Of(z:U):∀n:Nat,(bB n [z]).flatten=bB n z
 |0=>rfl|n+1=>by rw[Co,jA,Of z n,Co];rfl
def XU:Tryz.f247.results.toList=[.tmp 4]:=am
def xg:Tryz.f205.results.toList=[.tmp 2]:=am
def RG:Ad aa 60 (.list .nil 0 [])=J (.v (.int .i64 0)):=am
def Yr:gi aa 60 (.list .nil 0 []) af (J (.v (.int .i64 0))) af=J (.list .nil 0 []):=am
def A0:∃i,aa.info? 5=J i/\i.size=1/\i.bytes<=8/\(i.zero.map λz=>z.cells.size)=J 1:=by
 have h:(match aa.info? 5 with|some i=>gX i.size 1&&JR i.bytes 8&&decide ((i.zero.map λz=>z.cells.size)=J 1)|none=>ai)=V:=am;split at h
 .rename_i i d;simp only[bm,decide_eq_true_eq]at h;exact⟨i,d,kU h.1.1,jq h.1.2,h.2⟩
 .cases h
def zr5:(fM aa 5).bind U.bG=J [cP 0]:=am
def acr{H}{n}(h0:0<n)(m:n<=1099511627776):gb aa H #[60,3] (.list .nil 0 []) (.v (.int .i64 (n:Nat)))=J (.arr (F H.boxes) 0 n n,H.push (bB n [cP 0]).flatten):=by obtain⟨i,d,h2,g,o⟩:=A0;have:=ji m g;exact Q4 k_ mD d zr5 h0 M M M h2.symm
def ahe(n:Nat)(h0:0<n)(m:n<=1099511627776)(H:Heap):W.call 247 [.list .nil 0 [],.v (.int .i64 (n:Nat))] H=J (.ret (.arr (F H.boxes) 0 0 n),H.push (bB n [cP 0]).flatten):=by
 have g:=k_;have a:=acr (H:=H) h0 m;have p:IntKind.i64.wrap ((0:Int)-0)=0:=by rfl
 have q:IntKind.i64.wrap (((n:Nat):Int)-0)=((n:Nat):Int):=by rw[Cg,ja M M]
 have d:gi aa 60 (.arr (F H.boxes) 0 n n) af (J (.v (.int .i64 (0:Nat)))) af=J (.arr (F H.boxes) 0 0 n):=Yp g qX aY aY M h0;have d:gi aa 60 (.arr (F H.boxes) 0 n n) af (J (.v (.int .i64 0))) af=J (.arr (F H.boxes) 0 0 n):=d;have o:(0:Int)<(n:Nat):=by omega
 refine cq O abc O ?_;exact Gm @XU @CO @RG (aj @Yr (aj @fQ.{0} (aj @qm @Cg)))
def ahf(H:Heap):W.call 247 [.list .nil 0 [],.v (.int .i64 (0:Nat))] H=J (.ret (.list .nil 0 []),H):=by
 have d:=k_;refine cq O abc O ?_;have g:IntKind.i64.wrap ((0:Int)-0)=0:=by rfl
 have m:IntKind.i64.wrap (((0:Nat):Int)-0)=0:=by rfl
 exact Gm @XU @CO @RG (aj @Yr (aj @fQ.{0} (aj @qm @Cg)))
def abQ:fx aa 60=J ai:=am
def asP:cB aa 60=J 1:=am
def abr{H}{b len aR}{cs}{new}{x}(s:dA 1 H x new)(o:H.boxes[b]?=J cs)(h2:len+F new<=aR)(p:aR<=F cs):
 gb aa H #[60,60] (.arr b 0 len aR) x=J (.arr b 0 (len+F new) aR,H.put b (dC cs len new.flatten)):=by
 obtain⟨i,g,d,-,m⟩:=A0;have:=Q3 (off:=0) k_ k_ g M (by rw[d];exact m) (by rw[d];exact s.news) o h2 (by rw[d];omega)
 rwa [d,jC,nX]at this
def ab0{H}{x}(s:dA 1 H x []):gb aa H #[60,60] (.list .nil 0 []) x=J (.list .nil 0 [],H):=by
 obtain⟨i,g,d,-,m⟩:=A0;have o:jx H i.size x=J []:=by rw[d];exact s.news
 unfold gb;simp only[iG,iF,jS,iH,k_,g,o];rw[av ⟨M,by rw[d];exact m⟩];simp
def aeZ(k:Tok)(xs:List U)(d:List (List (List U)))(hl:F xs=F d)(H:Heap)(hs:∀(i:Nat) x g,xs[i]?=J x->d[i]?=J g->dA 1 H x g)(hb:F d.flatten<=1099511627776)(fa:F xs<=1000):
 ∃r H',W.call 205 [.list k 1 (xs.map λx=>[x])] H=J (r,H')/\∃y,r=.ret y/\Ext H H'/\dA 1 H' y d.flatten:=by
 have u28:=k_;have u233:=Tryz.underlying260;have aE:=abQ;have sE:=asP;have R:∀(i:Nat) x,xs[i]?=J x->(xs.map λx=>[x])[i]?=J [x]:=λi x o=>by rw[dW,o];rfl
 have iq:∀i,F (d.take i).flatten<=1099511627776:=λi=>by
  refine eS ?_ hb
  conv=>rhs;rw[<-pG i d,oi,cg]
  omega
 have N:∀(i:Nat) g,d[i]?=J g->(d.take (i+1)).flatten=(d.take i).flatten++g:=λi g B=>by rw[fY B,oi];simp
 have kS:=ae.mk hs;have D:=ae.mk hl;have kr:=ae.mk R;have kst:=ae.mk N;have kle:=ae.mk iq;have X:F (xs.map λx=>[x])=F xs:=by simp
 clear hs R N iq hl;generalize hM:(xs.map λx=>[x])=Z at *
 refine bL O Tryz.func205 O ?_;refine bg @xg ?_;refine b9 (λz1 e h'=>∃i:Nat,i<=F xs/\z1=F xs-i/\e.get 0=.list k 1 Z/\e.get 9=.list k 1 Z/\e.get 10=.v (.int .i64 (F xs:Nat))/\e.get 11=.v (.int .i64 i)/\e.get 3=.v (.int .i64 (F (d.take i).flatten:Nat))/\e.get 2=.list .nil 0 []/\e.defers=[]/\h'=H) ?_ (F xs) _ _ ?_;rotate_left 1
 .refine⟨0,bV _,O,?_,?_,?_,?_,?_,?_,?_,O⟩<;>(first|assumption|(simp only[gW,reduceIte,aJ,aB,X]<;>rfl))
 rintro z1 e h' ⟨i,B,rfl,g0,g9,g10,g11,g3,g2,hd,rfl⟩;by_cases z:i<F xs
 .obtain⟨x,o⟩:∃x,xs[i]?=J x:=⟨_,aN z⟩;obtain⟨g,m⟩:∃g,d[i]?=J g:=⟨_,aN (by have:=D.out;omega)⟩;have q:=kS.out i x g o m;have ls:=q.len u28;have A:=kr.out i x o;have DD:(i:Int)<(F Z:Int):=by omega
  have z0:=kst.out i g m;have q1:=kle.out (i+1);rw[z0,cg]at q1;have ksum:=ae.mk (show(F (d.take (i+1)).flatten)=F (d.take i).flatten+F g by rw[z0,cg]);generalize F (d.take i).flatten=n1 at *
  have e1:IntKind.i64.wrap (((n1:Nat):Int)+((F g:Nat):Int))=((n1+F g:Nat):Int):=by rw[ja M M];omega
  have nn:¬(((n1+F g:Nat):Int)<0):=by omega
  have ld:aD aa Gt h' 60 (.elem 1 Z i 0)=J x:=by rw[oA aE A];rfl
  clear z0 q1 q;refine bE @xg @aT ?_;exact⟨F xs-(i+1),by omega,i+1,by omega,O,by trivial,by trivial,by trivial,by simp,by rw[ksum.out],by trivial,by trivial,by trivial⟩
 have:i=F xs:=by omega
 subst this;rw[show d.take (F xs)=d by rw[D.out];exact fB]at g3;have hn:=kle.out (F xs);rw[show d.take (F xs)=d by rw[D.out];exact fB]at hn;generalize hN:F d.flatten=n at *
 rcases JS n with h0|h0
 .subst h0;have gn:=ahf h';have Y:d.flatten=[]:=List.eq_nil_of_length_eq_zero hN;refine bg @xg ?_;refine b9 (λz1 e u=>∃i:Nat,i<=F xs/\z1=F xs-i/\e.get 25=.list k 1 Z/\e.get 26=.v (.int .i64 (F xs:Nat))/\e.get 27=.v (.int .i64 i)/\e.get 6=.list .nil 0 []/\e.defers=[]/\u=h') ?_ (F xs) _ _ ?_;rotate_left 1
  .refine⟨0,bV _,O,?_,?_,?_,?_,?_,O⟩<;>(first|assumption|(simp only[gW,reduceIte,aJ,aB,X]<;>rfl))
  clear g0 g9 g10 g11 g3 g2 hd gn;rintro z1 e u ⟨i,B,rfl,g25,g26,g27,g6,hd,rfl⟩;by_cases z:i<F xs
  .obtain⟨x,o⟩:∃x,xs[i]?=J x:=⟨_,aN z⟩;obtain⟨g,m⟩:∃g,d[i]?=J g:=⟨_,aN (by have:=D.out;omega)⟩;have q:=kS.out i x g o m;have MD:g=[]:=by
    have:=cU m;cases g with|nil=>rfl|cons a l=>exact absurd (JL.2 ⟨_,this,gx⟩) (by rw[Y];exact qp)
   subst MD;have an:=ab0 q;have A:=kr.out i x o;have DD:(i:Int)<(F Z:Int):=(by omega);have ld:aD aa Gt u 60 (.elem 1 Z i 0)=J x:=(by rw[oA aE A];rfl);clear q;refine bE @xg @aT ?_;exact⟨F xs-(i+1),by omega,i+1,by omega,O,by trivial,by trivial,by simp,by trivial,by trivial,by trivial⟩
  .have:i=F xs:=(by omega);subst this;refine bg @xg ?_;exact⟨_,_,O,_,O,Ext.refl _,by(try rw[Y]);exact dA.list (λr R=>by cases R) (λz0=>absurd O z0)⟩
 .have gn:=ahe n h0 hn h';refine bg @xg ?_;rw[Of];have uW:∀(i:Nat) g,d[i]?=J g->∀r∈g,F r=1:=λi g B=>by obtain⟨x,o⟩:∃x,xs[i]?=J x:=⟨_,aN (by rw[D.out];exact(aS.1 B).1)⟩;exact(kS.out i x g o B).1
  have p:∀i,∀r∈(d.take i).flatten,F r=1:=λi r R=>by obtain⟨g,h1,h2⟩:=JL.1 R;obtain⟨j,hj⟩:=List.mem_iff_getElem?.1 (List.mem_of_mem_take h1);exact uW j g hj r h2
  have na:∀i,F (d.take i).flatten.flatten=F (d.take i).flatten:=λi=>by rw[lu (p i),jC]
  have E:∀i,F (d.take i).flatten<=n:=λi=>by
   rw[<-hN]
   conv=>rhs;rw[<-pG i d,oi,cg]
   omega
  have kfl:=ae.mk na;have kmo:=ae.mk E;have kr2:=ae.mk p;clear uW na E p gn;refine b9 (λz1 e u=>∃i:Nat,i<=F xs/\z1=F xs-i/\e.get 25=.list k 1 Z/\e.get 26=.v (.int .i64 (F xs:Nat))/\e.get 27=.v (.int .i64 i)/\e.get 6=.arr (F h'.boxes) 0 (F (d.take i).flatten) n/\e.defers=[]/\u.boxes[h'.boxes.length]?=J ((d.take i).flatten.flatten++bB (n-F (d.take i).flatten) (cP 0))/\Ext h' u) ?_ (F xs) _ _ ?_;rotate_left 1
  .refine⟨0,bV _,O,?_,?_,?_,?_,?_,?_,Ext.push _ _⟩<;>(first|assumption|exact aK _ _|(simp only[gW,reduceIte,aJ,aB,X]<;>rfl))
  clear g0 g9 g10 g11 g3 g2 hd;rintro z1 e u ⟨i,B,rfl,g25,g26,g27,g6,hd,v,T⟩;by_cases z:i<F xs
  .obtain⟨x,o⟩:∃x,xs[i]?=J x:=⟨_,aN z⟩;obtain⟨g,m⟩:∃g,d[i]?=J g:=⟨_,aN (by have:=D.out;omega)⟩;have q:=(kS.out i x g o m).ext T;have z0:=kst.out i g m;have m1:=kmo.out (i+1);have f0:=kfl.out i;have C:F (d.take (i+1)).flatten=F (d.take i).flatten+F g:=(by rw[z0,cg]);rw[C]at m1;have ME:F g.flatten=F g:=(by rw[lu q.1,jC]);have ap:=abr q v m1 (by rw[cg,l8,f0];omega);have uY:dC ((d.take i).flatten.flatten++bB (n-F (d.take i).flatten) (cP 0)) (F (d.take i).flatten) g.flatten=(d.take (i+1)).flatten.flatten++bB (n-F (d.take (i+1)).flatten) (cP 0):=(by unfold dC;rw[qr f0,xv,mW (by rw[f0];omega),dM,f0,JD,z0,oi,cg,ME];congr 2;omega);rw[uY]at ap;have A:=kr.out i x o;have DD:(i:Int)<(F Z:Int):=(by omega);have ld:aD aa Gt u 60 (.elem 1 Z i 0)=J x:=(by rw[oA aE A];rfl);have kX:=ae.mk T;have yv:=(aS.1 v).1;have ks:=ae.mk C;clear q T v uY z0 f0 C;refine bE @xg @aT ?_;refine⟨F xs-(i+1),by omega,i+1,by omega,O,by trivial,by trivial,by simp,by rw[ks.out],by trivial,?_,kX.out.fy (aV _) _⟩;exact dn yv
  .have:i=F xs:=(by omega);subst this;have ht:d.take (F xs)=d:=(by rw[D.out];exact fB);have f0:=kfl.out (F xs);have p:=kr2.out (F xs);rw[ht]at v g6 f0 p;rw[hN]at v g6;rw[qs,List.replicate_zero,ga]at v;have kB:=ae.mk v;have kX:=ae.mk T;clear v T;refine bg @xg ?_;exact⟨_,_,O,_,O,kX.out,dA.box p hN.symm kB.out⟩
def XP:Tryz.f207.results.toList=[.tmp 4]:=am
def xd:Tryz.f141.results.toList=[.tmp 2]:=am
def RF:Ad aa 23 (.list .nil 0 [])=J (.v (.int .i64 0)):=am
def Yq:gi aa 23 (.list .nil 0 []) af (J (.v (.int .i64 0))) af=J (.list .nil 0 []):=am
def AZ:∃i,aa.info? 3=J i/\i.size=1/\i.bytes<=8/\(i.zero.map λz=>z.cells.size)=J 1:=by
 have h:(match aa.info? 3 with|some i=>gX i.size 1&&JR i.bytes 8&&decide ((i.zero.map λz=>z.cells.size)=J 1)|none=>ai)=V:=am;split at h
 .rename_i i d;simp only[bm,decide_eq_true_eq]at h;exact⟨i,d,kU h.1.1,jq h.1.2,h.2⟩
 .cases h
def zr3:(fM aa 3).bind U.bG=J [I 0]:=am
def acq{H}{n}(h0:0<n)(m:n<=1099511627776):gb aa H #[23,3] (.list .nil 0 []) (.v (.int .i64 (n:Nat)))=J (.arr (F H.boxes) 0 n n,H.push (bB n [I 0]).flatten):=by obtain⟨i,d,h2,g,o⟩:=AZ;have:=ji m g;exact Q4 cT mD d zr3 h0 M M M h2.symm
def abP:fx aa 23=J ai:=am
def gV:cB aa 23=J 1:=am
def abq{H}{b len aR}{cs}{new}{x}(s:dA 1 H x new)(o:H.boxes[b]?=J cs)(h2:len+F new<=aR)(p:aR<=F cs):
 gb aa H #[23,23] (.arr b 0 len aR) x=J (.arr b 0 (len+F new) aR,H.put b (dC cs len new.flatten)):=by
 obtain⟨i,g,d,-,m⟩:=AZ;have:=Q3 (off:=0) cT cT g M (by rw[d];exact m) (by rw[d];exact s.news) o h2 (by rw[d];omega)
 rwa [d,jC,nX]at this
def abZ{H}{x}(s:dA 1 H x []):gb aa H #[23,23] (.list .nil 0 []) x=J (.list .nil 0 [],H):=by
 obtain⟨i,g,d,-,m⟩:=AZ;have o:jx H i.size x=J []:=by rw[d];exact s.news
 unfold gb;simp only[iG,iF,jS,iH,cT,g,o];rw[av ⟨M,by rw[d];exact m⟩];simp
def apF:Tryz.f138.results.toList=[.cell 4 29]:=am
def aff(l)(h):jX aa h 9 60 (.v (.string (bs l)))=J (.list (.free h.tn) 1 (bI l),h.app .nil):=by have d:aa.underlying 9=J .string:=zT;have h2:aa.underlying 60=J (.slice 5):=k_;have g:aa.underlying 5=J (.int .u8):=Tryz.underlying5;obtain⟨i,m,o,-⟩:=A0;unfold jX;simp only[d,h2,g,m,o,if_true];simp[bs,Heap.fresh,Heap.app]
def ada(x y)(d:x.cW=V)(g:y.cW=V):ff aa 260 2 [(0,x),(1,y)]=J (.list .tight 1 [[x],[y]]):=by cases x<;>first|(cases d;done)|(cases y<;>first|(cases g;done)|kernel_rfl)
def dA.cell{sz}{h}{x}{rows}(s:dA sz h x rows):x.cW=V:=by rcases s.2 with⟨k,o,rfl,-⟩|⟨b,g,d,m,rfl,-⟩<;>rfl
def BR(b):F (jf b)=32:=by unfold jf;rw[Bo,wj _ _ _ O]
def aru(d):gi aa 29 (.ptr (.box d) 0) af af af=J (.arr d 0 32 32):=am
def asV(d b:List UInt8)(x:U)(h:Heap)(s:dA 1 h x (bI b))(hb:F b<=1099511620000)(ht:F d<=1099511620000):
 ∃h',W.call 138 [.v (.string (bs d)),x] h=J (.ret (.agg (da (jQ d b))),h')/\Ext h h':=by
 have Y:=Pu;have B:Ext h ((h.push (bB 32 (cP 0))).app .nil):=(Ext.push _ _).trans (Ext.app (Ext.refl _) (.inl O));have E:((h.push (bB 32 (cP 0))).app .nil).boxes=(h.push (bB 32 (cP 0))).boxes:=dP _ _;obtain⟨g,c2,u⟩:=Yl d (.list (.free (h.push (bB 32 (cP 0))).tn) 1 (bI d)) ((h.push (bB 32 (cP 0))).app .nil) (dA.list (xM _) λ_=>rfl) M;have d0:g.boxes[h.boxes.length]?=J (bB 32 (cP 0)):=u.box _ _ (by rw[E];exact aK _ _);have tl:F (da (jf d))=32:=by rw[mn,BR]
 have st1:bY aa (g.push (bB 32 (cP 0))) 29 (.ptr (.box (F g.boxes)) 0) (.agg (da (jf d)))=J (g.push (da (jf d))):=kL (E3 _) xk tl O;have z:dA 1 (g.push (da (jf d))) x (bI b):=((s.ext B).ext u).ext (Ext.push _ _);have A:dA 1 (g.push (da (jf d))) (.arr (F g.boxes) 0 32 32) (bI (jf d)):=dA.box (xM _) (by rw[br,BR]) (by rw[I7];exact aK _ _);obtain⟨r3,C,T,z0,rfl,x3,y⟩:=aeZ .tight [.arr (F g.boxes) 0 32 32,x] [bI (jf d),bI b] O (g.push (da (jf d))) (λi z1 rs p m=>by
  rcases i with _|_|i
  .injection p with p;injection m with m;subst p;subst m;exact A
  .injection p with p;injection m with m;subst p;subst m;exact z
  .cases p) (by simp[BR];omega) b7
 have N:[bI (jf d),bI b].flatten=bI (jf d++b):=by simp[bI]
 rw[N]at y;have bl:=ada _ x (dA.cell A) (dA.cell z);obtain⟨q,D,R⟩:=Yl (jf d++b) z0 C y (by rw[cg,BR];omega);have v:Ext g q:=(Ext.push _ _).trans (x3.trans R);have d4:q.boxes[h.boxes.length]?=J (bB 32 (cP 0)):=v.box _ _ d0;have o:F (da (jQ d b))=32:=by rw[mn];exact BR _
 have st2:bY aa q 29 (.ptr (.box (F h.boxes)) 0) (.agg (da (jQ d b)))=J (q.put (F h.boxes) (da (jQ d b))):=by rw[fE (E3 _) xk d4 o b7,xh (by rw[o];simp)]
 have Z:aD aa Gt (q.put (F h.boxes) (da (jQ d b))) 29 (.ptr (.box (F h.boxes)) 0)=J (.agg (da (jQ d b))):=by rw[fC Ke xk (dn (aS.1 d4).1) (by rw[o];exact aV _),gw,fR (by rw[o];exact aV _)]
 replace D:W.call 204 [z0] C=J (.ret (.agg (da (jQ d b))),q):=D;have X:=ae.mk (((B.trans u).trans v).fy (aV _) (da (jQ d b)));simp only[eD,List.map_nil]at T;clear s z A y B E u x3 R v d0 d4 N tl o;refine gy O Tryz.func138 O ?_;refine cK @apF @aff @aru ?_;exact⟨_,O,X.out⟩
def OH:Tryz.f69.results.toList=[.tmp 4]:=am
def Vg{b n}{k}(g:n<32):dH aa 29 (.ptr (.box b) 0) (.v (.int k (n:Nat)))=J (.ptr (.box b) n):=by have d:aa.underlying 29=J (.array 32 5):=Kb;unfold dH;simp only[d,qX];rw[av ⟨M,by omega⟩];simp
def VD{H}{b i}{l}(d:H.boxes[b]?=J (da l))(hi:i<F l):aD aa Gt H 5 (.ptr (.box b) i)=J (cP (fF l i)):=by rw[fe Kh d,Fo,dW,aN hi];unfold fF;rw[eG,aN hi];rfl
def afd(n)(h):jX aa h 5 3 (.v (.int .u8 n))=J (.v (.int .i64 (IntKind.i64.wrap n)),h):=am
def QL(b):∀i,i<=F b->jW b i=(b.take i).foldl (λn c=>n*256+c.toNat) 0
 |0,_=>rfl
 |i+1,d=>by
  rw[jW,QL b i M];have:b[i]?=J (fF b i):=by unfold fF;rw[eG,aN M];rfl
  rw[fY this,List.foldl_append];rfl
def mask(b:List UInt8):List UInt8:=b.set 0 (fF b 0&&&127)
def V5{b}{i}(d:0<F b):fF (mask b) i=if i=0 then fF b 0&&&127 else fF b i:=by
 unfold mask fF;rw[eG,kQ];split
 .rename_i h;subst h;simp[d]
 .rename_i h;rw[aP (λg=>h g.symm),eG]
def QZ(c:UInt8):(c&&&127).toNat=c.toNat%128:=by rw[UInt8.toNat_and];exact aaE c.toNat 7
def Nz{b}(m:0<F b):∀i,jW (mask b) (i+1)=jW b (i+1)%(128*256^i)
 |0=>by show 0*256+(fF (mask b) 0).toNat=(0*256+(fF b 0).toNat)%128;rw[V5 m,av O,QZ];omega
 |i+1=>by
  rw[jW,Nz m i,V5 m,aP M,jW.eq_2 b (i+1)];have:=E0 (fF b (i+1));generalize jW b (i+1)=g at *
  generalize (fF b (i+1)).toNat=r at *
  rw[xC,<-Nat.mul_assoc];have q:0<128*256^i:=JV aY (JX aY);generalize 128*256^i=d at *
  have o:=jU g q;have h2:=Nat.div_add_mod g d;have p:g*256+r=d*256*(g/d)+(g%d*256+r):=by rw[Nat.mul_right_comm,<-Nat.add_assoc,<-jh,h2]
  rw[p,Nat.mul_add_mod,mA (a:=g%d*256+r) (b:=d*256) (by have:(g%d+1)*256<=d*256:=Nat.mul_le_mul_right _ o;rw[jh]at this;omega)]
def akX{b}(d:0<F b){i}(hi:i<8):jW (mask b) i<36028797018963968:=by
 cases i with
 |zero=>show 0<_;decide|succ i=>
  rw[Nz d];have g:=jU (jW b (i+1)) (show 0<128*256^i from JV aY (JX aY));have h2:256^i<=256^6:=aaR aY M;have m:256^6=281474976710656:=by decide
  omega
def hash_eq{b}(d:8<=F b):jW (mask b) 8%Q=pc b:=by unfold pc;rw[Nz M 7,QL b 8 d]
def ark{t}{x y}{n}(d:n<36028797018963968):cy aa .shl t x y (.v (.int .i64 (n:Nat))) (.v (.int .u64 8))=J (.v (.int .i64 ((n*256:Nat):Int))):=by rw[Kw aY];congr 3;show IntKind.i64.wrap (((n:Nat):Int)*256)=_;rw[ja M M];omega
def ori{t}{x y}{n m}(v:n<36028797018963968)(u:m<256):cy aa .or t x y (.v (.int .i64 ((n*256:Nat):Int))) (.v (.int .i64 (m:Nat)))=J (.v (.int .i64 ((n*256+m:Nat):Int))):=by
 rw[Kv];congr 3;have d:BitVec.ofInt IntKind.i64.bits ((n*256:Nat):Int)=BitVec.ofNat 64 (n*256):=by apply BitVec.eq_of_toNat_eq;show(BitVec.ofInt 64 ((n*256:Nat):Int)).toNat=(BitVec.ofNat 64 (n*256)).toNat;rw[BitVec.toNat_ofInt,BitVec.toNat_ofNat];omega
 have g:BitVec.ofInt IntKind.i64.bits ((m:Nat):Int)=BitVec.ofNat 64 m:=by apply BitVec.eq_of_toNat_eq;show(BitVec.ofInt 64 ((m:Nat):Int)).toNat=(BitVec.ofNat 64 m).toNat;rw[BitVec.toNat_ofInt,BitVec.toNat_ofNat];omega
 have o:(BitVec.ofNat 64 (n*256)|||BitVec.ofNat 64 m).toNat=n*256+m:=by
  rw[BitVec.toNat_or,BitVec.toNat_ofNat,BitVec.toNat_ofNat,mA (M:n*256<2^64),mA (M:m<2^64)];have q:n<<<8=n*256:=by rw[Nat.shiftLeft_eq]
  rw[<-q,<-Nat.shiftLeft_add_eq_or_of_lt (M:m<2^8)]
 have p:(BitVec.ofInt IntKind.i64.bits ((n*256:Nat):Int)|||BitVec.ofInt IntKind.i64.bits ((m:Nat):Int)).toNat=n*256+m:=by rw[d,g];exact o
 rw[p,ja M M]
def ab1{t}{x y}(c):cy aa .and t x y (cP c) (.v (.int .u8 127))=J (cP (c&&&127)):=by
 unfold cP;rw[pI];congr 3;have m:=E0 c;have d:BitVec.ofInt IntKind.u8.bits ((c.toNat:Nat):Int)=BitVec.ofNat 8 c.toNat:=by apply BitVec.eq_of_toNat_eq;show(BitVec.ofInt 8 ((c.toNat:Nat):Int)).toNat=(BitVec.ofNat 8 c.toNat).toNat;rw[BitVec.toNat_ofInt,BitVec.toNat_ofNat];omega
 have g:(BitVec.ofInt IntKind.u8.bits ((c.toNat:Nat):Int)&&&BitVec.ofInt IntKind.u8.bits 127).toNat=c.toNat%128:=by rw[d];show(BitVec.ofNat 8 c.toNat&&&127#8).toNat=_;rw[BitVec.toNat_and,BitVec.toNat_ofNat,mA (M:c.toNat<2^8)];exact aaE c.toNat 7
 rw[g,K7 M M,QZ]
def akW(l):(da l).set 0 (cP (fF l 0&&&127))=da (mask l):=by unfold mask da;rw[aaq]
def agW(m b:List UInt8)(x:U)(h:Heap)(s:dA 1 h x (bI b))(hb:F b<=1099511620000)(ht:F m<=1099511620000):
 ∃h',W.call 69 [.v (.string (bs m)),x] h=J (.ret (I (pc (jQ m b):Nat)),h')/\Ext h h':=by
 obtain⟨d,c1,Y⟩:=asV m b x h s hb ht;have y:F (jQ m b)=32:=BR _;have p:F (da (jQ m b))=32:=by rw[mn,y]
 have C:=hash_eq (b:=jQ m b) M;generalize jQ m b=g at *
 have q:0<F g:=by omega
 have z:=Pu;have T:bY aa (d.push (bB 32 (cP 0))) 29 (.ptr (.box (F d.boxes)) 0) (.agg (da g))=J (d.push (da g)):=kL (E3 _) xk p O;have E:dH aa 29 (.ptr (.box (F d.boxes)) 0) (.v (.int .i64 0))=J (.ptr (.box (F d.boxes)) 0):=Vg (n:=0) aY;have l0:aD aa Gt (d.push (da g)) 5 (.ptr (.box (F d.boxes)) 0)=J (cP (fF g 0)):=VD (aK _ _) q;have X:bY aa (d.push (da g)) 5 (.ptr (.box (F d.boxes)) 0) (cP (fF g 0&&&127))=J (d.push (da (mask g))):=by rw[Pb (aK _ _) (by rw[p];decide),akW,lO]
 have v:F (mask g)=32:=by unfold mask;rw[mX,y]
 have hX:=ae.mk (Y.trans (Ext.push d (da (mask g))));have B:=aK d (da (mask g));have o:=λi D=>akX q (i:=i) D;have kB:=ae.mk B;have N:=ae.mk o;have ke:=ae.mk C;have R:=ae.mk v;clear s p y B o C v Y q;unfold I;refine gy O Tryz.func69 O ?_;refine bE @OH @ab1 ?_;refine b9 (λz0 e H=>∃i:Nat,i<=8/\z0=8-i/\e.get 5=.ptr (.box (F d.boxes)) 0/\e.get 14=.v (.int .i64 i)/\e.get 4=.v (.int .i64 (jW (mask g) i:Nat))/\e.defers=[]/\H=d.push (da (mask g))) ?_ 8 _ _ ?_;rotate_left 1
 .refine⟨0,by decide,O,?_,?_,?_,?_,O⟩<;>(first|assumption|(exact gR))
 clear z T E l0 X c1;rintro z0 e H ⟨i,D,rfl,g5,g14,g4,hd,rfl⟩;by_cases h8:i=8
 .subst h8;have e1:(((jW (mask g) 8:Nat):Int)).tmod 1073741789=((pc g:Nat):Int):=by rw[<-ke.out];exact pC _ _
  generalize jW (mask g) 8=z1 at *
  refine bg @OH ?_;exact⟨_,O,hX.out⟩
 .have o:i<8:=by omega
  have A:=N.out i o;have u1:=E0 (fF (mask g) i);have ix:=Vg (b:=d.boxes.length) (n:=i) (k:=.i64) M;have ld:aD aa Gt (d.push (da (mask g))) 5 (.ptr (.box (F d.boxes)) i)=J (.v (.int .u8 ((fF (mask g) i).toNat:Nat))):=VD kB.out (by have:=R.out;omega);have ew:IntKind.i64.wrap (((fF (mask g) i).toNat:Nat):Int)=(((fF (mask g) i).toNat:Nat):Int):=ja M M;have s1:=λt x Z=>ark (t:=t) (x:=x) (y:=Z) A;have s2:=λt x Z=>ori (t:=t) (x:=x) (y:=Z) A u1;have u:=ae.mk (show jW (mask g) (i+1)=jW (mask g) i*256+(fF (mask g) i).toNat from O);generalize jW (mask g) i=z1 at *
  generalize (fF (mask g) i).toNat=r at *
  refine bE @OH @afd ?_;exact⟨8-(i+1),by omega,i+1,by omega,O,by trivial,O,by rw[u.out],by trivial,by trivial⟩
end Go.Proofs.YtcbhpkjbiehcpaaGreatDoor
end
section
namespace Go.AE
structure Grown(n0:Nat)(h h':Heap)(t:Tok):Prop where
 box:∀(b:Nat) (cs:List U),h.boxes[b]?=J cs->h'.boxes[b]?=J cs
 loop:∀(l:Nat) (r:gM),h.loops[l]?=J r->h'.loops[l]?=J r
 can:db n0 h' t
 ok:c_ h'=V
 tn:h.tn<=h'.tn
 dead:∀n,n<n0->n∈h'.dead->n∈h.dead
section
variable {n0:Nat} {h0 h h' h2:Heap} {t k:Tok}
def Grown.refl(g:db n0 h k)(m:c_ h=V):Grown n0 h h k:=⟨λ_ _ d=>d,λ_ _ d=>d,g,m,aV _,λ_ _ d=>d⟩
def Grown.trans(g:Grown n0 h h' t)(d:Grown n0 h' h2 k):Grown n0 h h2 k:=
 ⟨λb m p=>d.box b m (g.box b m p),λb m p=>d.loop b m (g.loop b m p),d.can,d.ok,eS g.tn d.tn,λn o p=>g.dead n o (d.dead n o p)⟩
def Grown.ext(g:Grown n0 h h' t)(x:Ext h0 h)(q:h0.tn<=n0):Ext h0 h':=
 ⟨λb d m=>g.box b d (x.box b d m),λl r p=>g.loop l r (x.loop l r p),eS x.tn g.tn,λn u o=>x.dead n u (g.dead n (l_ u q) o),λ_=>g.ok⟩
def CI(g:c_ h=V)(o:db n0 h k):c_ (h.app k)=V:=by
 unfold c_ at *
 rw[eF]at *
 intro n d;rcases o with rfl|rfl|⟨p,rfl,-,m⟩
 .exact bQ (JU (of_decide_eq_true (g n d)))
 .exact bQ (JU (of_decide_eq_true (g n d)))
 .rcases gL.1 d with rfl|q
  .exact bQ (JU (qu m))
  .exact bQ (JU (of_decide_eq_true (g n q)))
def Grown.one(g:db n0 h k)(m:c_ h=V)(q:n0<=h.tn):Grown n0 h (h.app k) (.free h.tn):=by
 refine⟨λb p o=>by rw[dP];exact o,λb p o=>by rw[zW];exact o,g.next m q,CI m g,by rw[CJ];omega,λn o d=>?_⟩;rcases g with rfl|rfl|⟨y,rfl,v,u⟩
 .exact d
 .exact d
 .rcases gL.1 d with rfl|d<;>omega
def Grown.push(g:Grown n0 h h' t)(cs:List U):Grown n0 h (h'.push cs) t:=⟨λb cs d=>aM (g.box b cs d),g.loop,g.can,g.ok,g.tn,g.dead⟩
def Grown.app(g:Grown n0 h h' t)(d:n0<=h.tn):Grown n0 h (h'.app t) (.free h'.tn):=g.trans (Grown.one g.can g.ok (eS d g.tn))
variable {P:bj} {t0 t1 elem:aC} {i:TypeInfo} {sz:Nat} {es new:List (List U)} {x:U}
def zX(h0:P.underlying t0=J (.slice elem))(g:(∃e,P.underlying t1=J (.slice e))∨P.underlying t1=J .string)(hi:P.info? elem=J i)(o:0<i.size)(A:(i.zero.map λz=>z.cells.size)=J i.size)
 (y:jx h i.size x=J new) (m:new≠[]) (q:(F es+F new)*i.bytes<=140737488355328) (v:F es+F new<=9223372036854775807) (d:sz=i.size∨(es=[]/\k=.nil)) (u:db n0 h k):
 gb P h #[t0,t1] (.list k sz es) x=J (.list (.free h.tn) i.size (es++new),h.app k):=by
 unfold gb;rcases g with⟨e,g⟩|g
 all_goals
  simp only[iG,iF,jS,iH,h0,g,hi,y];rw[av ⟨o,A⟩,av (d.imp_right λB=>B.1),aP m,av ⟨q,v⟩];rcases u with rfl|rfl|⟨C,rfl,-,p⟩
  .rfl
  .rfl
  .have d:sz=i.size:=by
    rcases d with d|⟨-,d⟩
    .exact d
    .cases d
   simp only[p,d,decide_true,Bool.and_self,if_true];rfl
def ab9(h0:P.underlying t0=J (.slice elem))(g:(∃e,P.underlying t1=J (.slice e))∨P.underlying t1=J .string)(hi:P.info? elem=J i)(d:0<i.size)(p:(i.zero.map λz=>z.cells.size)=J i.size)
 (o:jx h i.size x=J []) (m:sz=i.size∨es=[]):gb P h #[t0,t1] (.list k sz es) x=J (.list k sz es,h):=by
 unfold gb
 grind
end
end Go.AE
end
section
namespace Go.AE
open Go.RowKit (Below)
mutual
def dD(h:Heap):U->U
 | .list k sz es=>.list (bU k) sz es
 | .arr b g len _=>match h.boxes[b]? with
  |some d=>if g+len<=F d then .list .held 1 (((d.drop g).take len).map λc=>[c]) else .bad
  |none=>.bad
 | .tuple d=>.tuple (ir h d)
 | .agg d=>.agg (ir h d)
 |x=>x
def ir(h:Heap):List U->List U
 | []=>[]
 |x::r=>dD h x::ir h r
end
def tW(R:Rec)(g:aQ)(args:List U):Option U:=
 if aA 0 0 0 (aZ args)=V then
  match R.call g (aZ args) ⟨[],[],0,[]⟩ with
  |some (.ret d,h2)=>if au 0 0 0 (dD h2 d)=V then J (dD h2 d) else af
  |_=>af
 else af
def wm(R:Rec)(g:aQ)(args:List U)(h:Heap):Option (U × Heap):=(tW R g args).map (·,h)
def EP:∀l:List U,(l.map λc=>[c]).flatten=l
 | []=>rfl
 |x::l=>by rw[eD,jA,EP l];rfl
section
variable {P:bj} {G:Nat->Option (List U)} {ok:aQ->Nat->Code->Bool} {w0 w w':World} {K K1 K2:aW} {h h2:Heap}
mutual
def aO.io(d:∀g j c,K1.ic g j=J c->K2.ic g j=J c):∀{x:U} {c:aG},aO K1 x c->au 0 0 0 x=V->aO K2 x c
 |_,_,.bad c,_=>.bad c
 |_,_,.v x B,_=>.v x B
 |_,_,.nil sz,_=>.nil sz
 |_,_,.fP sz a,_=>.fP sz a
 |_,_,.list k sz es g m Y p cells T A o y D v,h=>by
  rw[au,bm]at h;refine .list k sz es g m Y p cells T A (aH.io d o (by rw[oa];grind)) (λj c z=>d _ _ _ (y j c z)) ⟨D.1,?_⟩ v;have u:=h.1;have h2:=D.2;cases k with|free i=>simp[oJ]at u|_=>exact h2
 |_,_,.arr _ _ _ _ _ _ _ _ _ _ _ _,h=>by simp[au]at h
 |_,_,.agg q C o,h=>.agg q C (aH.io d o (by rw[au]at h;exact h))
 |_,_,.tuple q C o,h=>.tuple q C (aH.io d o (by rw[au]at h;exact h))
 |_,_,.box _ _ _ _,h=>by simp[au]at h
 |_,_,.dB g m,_=>.dB g m
 |_,_,.elem sz es i m g Z z0 cells A o y R X v,h=>.elem sz es i m g Z z0 cells A (aH.io d o (by rw[oa];rw[au]at h;exact h)) (λj c z=>d _ _ _ (y j c z)) R X v
 |_,_,.func E first p N q u h2,h=>.func E first p N q (aH.io d u (by rw[au,bm]at h;grind)) (aH.io d h2 (by rw[au,bm]at h;grind))
 |_,_,.yield _ _ _,h=>by simp[au]at h
 |_,_,.iface t x c B,h=>.iface t x c (aO.io d B (by rw[au]at h;exact h))
def aH.io(d:∀g j c,K1.ic g j=J c->K2.ic g j=J c):∀{xs:List U} {cs:List aG},aH K1 xs cs->aA 0 0 0 xs=V->aH K2 xs cs
 |_,_,.nil,_=>.nil
 |_,_,.cons x c xs cs o m,h=>.cons x c xs cs (aO.io d o (by rw[aA,bm]at h;grind)) (aH.io d m (by rw[aA,bm]at h;grind))
end
mutual
def aO.mN(s1:bJ K1 G ok w h2 w')(d:∀g j c,K1.ic g j=J c->K2.ic g j=J c)(y:∀g j c,K1.base<=g->w'.cell? ⟨g,j,af⟩=J c->K2.ic g j=J c):
 ∀{x:U} {c:aG},aO K1 x c->au 0 0 0 (dD h2 x)=V->aO K2 (dD h2 x) c
 |_,_,.bad c,_=>.bad c
 |_,_,.v x Z,_=>.v x Z
 |_,_,.nil sz,_=>.nil sz
 |_,_,.fP sz a,_=>.fP sz a
 |_,_,.list k sz es g m z0 p cells X z v C E B,h=>by
  have R:e_ 0 0 0 es=V:=by simp only[dD,au,bm]at h;exact h.2
  have N:aH K2 es.flatten cells:=aH.io d v (by rw[oa];exact R);cases k with|nil=>exact E.2.elim|tight=>exact .list .tight sz es g m z0 p cells X z N (λj c u=>d _ _ _ (C j c u)) ⟨E.1,E.2⟩ B|free i=>exact .list .held sz es g m z0 p cells X z N (λj c u=>d _ _ _ (C j c u)) ⟨E.1,aX⟩ B|held=>exact .list .held sz es g m z0 p cells X z N (λj c u=>d _ _ _ (C j c u)) ⟨E.1,aX⟩ B
 |_,_,.arr b g m len p o A hb hl ph ho z,h=>by
  simp only[dD]at h ⊢;cases T:h2.boxes[b]? with
  |none=>exact .bad _|some q=>
   rw[T]at h;simp only at h ⊢;split at h
   .rename_i D;rw[av D];have R:e_ 0 0 0 (((q.drop m).take len).map λc=>[c])=V:=(by simp only[au,bm]at h;exact h.2);obtain⟨q1,q2,q3,cells,e,q4,q5⟩:=s1.box b g q hb T;have Un:=q5.le;by_cases h0:p=0
    .have:len=0:=(by omega);subst this;exact .list .held 1 [] g o 0 A [] O (λ_ h=>by cases h) .nil (λ_ _ h=>by grind) ⟨bV _,aX⟩ O
    .have Y:o=m:=(by simp_all);subst Y;have v:aH K1 ((q.drop o).take len) (((cells.toList.take (F q)).drop o).take len):=(q5.1.drop o).take len;have pW:F ((q.drop o).take len)=len:=(by rw[cR,ev];omega);refine .list .held 1 _ g o len A (((cells.toList.take (F q)).drop o).take len) (by simp_all) (λr z=>?_) ?_ (λj c u=>?_) ⟨M,aX⟩ ?_
     .grind
     .rw[EP];rw[<-oa,EP]at R;exact aH.io d v R
     .refine y _ _ _ q1 ?_;have uT:j<len:=(by have:=(aS.1 u).1;rw[cR]at this;omega);rw[mr,av uT,oL,mr,av M]at u;rw[cell_of q4];simp_all
     grind
   .rename_i D;rw[aP D];exact .bad _
 |_,_,.agg q vs v,h=>.agg _ vs (aH.mN s1 d y v (by simpa only[dD,au] using h))
 |_,_,.tuple q vs v,h=>.tuple _ vs (aH.mN s1 d y v (by simpa only[dD,au] using h))
 |_,_,.box b g m hb,h=>by simp[dD,au]at h
 |_,_,.dB g m,_=>.dB g m
 |_,_,.elem sz es i m g z1 z2 cells z v C hi hp B,h=>.elem sz es i m g z1 z2 cells z (aH.io d v (by rw[oa];simpa only[dD,au] using h)) (λj c u=>d _ _ _ (C j c u)) hi hp B
 |_,_,.func fn first p fs q h1 h2,h=>by simp only[dD,au,bm]at h;exact .func fn first p fs q (aH.io d h1 h.1) (aH.io d h2 h.2)
 |_,_,.yield l g hl,h=>by simp[dD,au]at h
 |_,_,.iface t x c Z,h=>by simp only[dD,au]at h;exact .iface t x c (aO.io d Z h)
def aH.mN(o:bJ K1 G ok w h2 w')(m:∀g j c,K1.ic g j=J c->K2.ic g j=J c)(d:∀g j c,K1.base<=g->w'.cell? ⟨g,j,af⟩=J c->K2.ic g j=J c):
 ∀{xs:List U} {cs:List aG},aH K1 xs cs->aA 0 0 0 (ir h2 xs)=V->aH K2 (ir h2 xs) cs
 |_,_,.nil,_=>.nil
 |_,_,.cons x c xs cs q p,h=>by simp only[ir,aA,bm]at h;exact .cons _ c _ cs (aO.mN o m d q h.1) (aH.mN o m d p h.2)
end
def aW.jN(K:aW)(n:Nat)(w:World):aW:={K with ic:=λd j=>if d<n then K.ic d j else w.cell? ⟨d,j,af⟩}
def aW.D3(s:bJ K G ok w0 h w):K.Le (K.jN w.heap.size w'):=by
 refine⟨O,λg j c d=>?_,λ_ _ h=>h,λ_ _ h=>h,aV _,λ_ _=>rfl,λ_ h=>h,λ_ _=>rfl,λg j c d=>?_⟩
 .simp only[aW.jN,av (s.tX d),d]
 .simp only[aW.jN]at d;split at d
  .simp_all
  .exact .inr (by have:=s.size;omega)
def bJ.jN(s:bJ K G ok w0 h w)(b:Below w.heap.size w w'):bJ (K.jN w.heap.size w') G ok w0 h w':=by
 have g:=s.grown b;have le:K.Le (K.jN w.heap.size w'):=aW.D3 s;refine⟨g.fD,g.size,λd j c o=>?_,λd y T=>?_,g.iD,g.mV,λD d y z o=>?_,g.lV,g.nT,λl d r X Y=>?_,g.tn,λt E=>?_,g.nw,g.md,g.all⟩
 .simp only[aW.jN]at o;split at o
  .exact g.ic d j c o
  omega
 .obtain⟨cells,m,p⟩:=g.dB d y T;exact⟨cells,m.mono le,λj c A=>le.ic _ _ _ (p j c A)⟩
 .obtain⟨m,p,u,cells,e,v,Z⟩:=g.box D d y z o;obtain⟨-,-,-,q,N,B,-⟩:=s.box D d y z o;refine⟨m,λj=>?_,u,cells,e,v,Z.mono le (aS.1 z).1⟩;simp only[aW.jN,av (od B)]
  grind
 .obtain⟨m,R,C,z1,p,u,v⟩:=g.loop l d r X Y;exact⟨m,R,C,z1,p,u.mono le,v⟩
 .obtain⟨m,p,u,v⟩:=g.tok t E;obtain⟨-,-,-,q,N,z0,B,-⟩:=s.tok t E;refine⟨m,p,λj A=>?_,v⟩;simp only[aW.jN,av (od B)];exact u j A
def aW.alone(K:aW)(n:Nat):aW:={K with base:=n,β:=[],γ:=[],tn:=0,md:=[]}
def bJ.alone(s:bJ K G ok w0 h w)(q:∀g cs,G g=J cs->aA 0 0 0 cs=V):bJ (K.alone w.heap.size) G ok w ⟨[],[],0,[]⟩ w:=by
 refine⟨Below.refl _ _,aV _,s.ic,λg cs o=>?_,O,λb p g d=>by simp[aW.alone]at d,λb g cs d=>by simp_all,O,λb p g d=>by simp[aW.alone]at d,λl g r z=>by simp_all,O,λt m=>?_,λt A m=>?_,λr u=>by simp[aW.alone]at u,O⟩
 .obtain⟨cells,v,y⟩:=s.dB g cs o;exact⟨cells,aH.io (K1:=K) (K2:=K.alone w.heap.size) (λ_ _ _ h=>h) v (q g cs o),y⟩
 .simp[alive]at m
 .simp[alive]at m
def KG{aI:aQ->Option (List U->Heap->Option (U × Heap))}(hp:Prog P)(Y:∀g cs,G g=J cs->aA 0 0 0 cs=V)(o:∀T g p,aI g=J p->jV P G T g p){g:aQ}(B:∃fn,P.funcs[g]?=J fn/\fn.body.isSome=V)(T:World):
 jV P G T g (wm (whole P G aI) g):=by
 refine⟨B,λargs h x h' m K w v hv u cs=>?_⟩;unfold wm tW at m;split at m
 .rename_i hf;split at m
  .rename_i z1 h2 d;split at m
   .rename_i A;simp only[fk,dt,cL]at m;obtain⟨rfl,rfl⟩:=m;obtain⟨-,y⟩:=(E9 hp (o w)).call g _ _ _ _ d;have s0:=bJ.alone u Y;obtain⟨K1,w',X,le,z,N,C,z0,R,E⟩:=y (K.alone w.heap.size) w v (aH.io (K1:=K) (K2:=K.alone w.heap.size) (λ_ _ _ h=>h) hv.hold hf) s0 cs;have Z:Below w.heap.size w w':=(by have:=z.fD;rwa [le.base]at this);refine⟨.returned z0,w',X,⟨z0,_,O,aW.D3 u,aO.mN (K2:=K.jN w.heap.size w') z (λg j c d=>?_) (λg j c D d=>?_) R A,bJ.jN u Z⟩,N,C,E⟩
    .rcases le.new g j c d with q|q
     .have:g<w.heap.size:=u.tX q;simp only[aW.jN,av this];exact q
     .have q:w.heap.size<=g:=q;simp only[aW.jN,aP (M:¬g<w.heap.size)];exact z.ic g j c d
    .have q:w.heap.size<=g:=(by rw[le.base]at D;exact D);simp only[aW.jN,aP (M:¬g<w.heap.size)];exact d
   grind
  grind
 grind
def lh(R:Rec)(L:List aQ)(g:aQ):Option (List U->Heap->Option (U × Heap)):=if L.contains g=V then J (wm R g) else af
def rk{aI:aQ->Option (List U->Heap->Option (U × Heap))}(v:Prog P)(q:∀g cs,G g=J cs->aA 0 0 0 cs=V)(m:∀o g p,aI g=J p->jV P G o g p){L:List aQ}(u:∀g∈L,∃fn,P.funcs[g]?=J fn/\fn.body.isSome=V):
 ∀o g p,lh (whole P G aI) L g=some p->jV P G o g p:=by
 intro o g p d;unfold lh at d;split at d
 .rename_i y;injection d with d;subst d;exact KG v q m (u g (by simp_all)) o
 grind
def bR{R:Rec}{L:List aQ}{g:aQ}{args B:List U}{x y:U}{d:Heap}(q:L.contains g=V)(m:aZ args=B)(p:aA 0 0 0 B=V)(o:R.call g B ⟨[],[],0,[]⟩=J (.ret y,d))(v:dD d y=x)(u:au 0 0 0 x=V):
 ∀h,(whole P G (lh R L)).call g args h=J (.ret x,h):=by
 intro h;subst m;subst v;rw[qZ];unfold j9 lh;rw[av q];simp only[wm,tW,av p,o,av u,fk]
end
end Go.AE
end
section
namespace Go.AE
def NK(P:bj)(s d:aC):Bool:=
 match P.underlying s,P.underlying d with
 |some (.int _),J (.int _)=>V
 |_,_=>ai
def KE(P:bj)(ops:Array Oper)(L:List aQ)(k:Nat):Bool:=
 match ops[k]? with
 |some d=>d.guard.isNone&&match d.op with
  | .call {callee:=.value (.func f),.. }=>L.contains f
  | .call {callee:=.builtin .max,.. }=>V
  | .call {callee:=.builtin .min,.. }=>V
  | .convert s g _=>NK P s g
  |_=>ai
 |none=>ai
def KH(P:bj)(ops:Array Oper)(L:List aQ):List Nat:=(bZ ops.size).filter (KE P ops L)
section
variable {P:bj} {G:Nat->Option (List U)} {aI:aQ->Option (List U->Heap->Option (U × Heap))} {Q:Xt->Env->Heap->Prop} {e:Env} {h:Heap} {L:List aQ}
def lW(aI:aQ->Option (List U->Heap->Option (U × Heap)))(L:List aQ):Prop:=∀d∈L,∃g:List U->Option U,aI d=J λargs h=>(g args).map (·,h)
def rm{R:Rec}:lW (lh R L) L:=λd g=>⟨tW R d,by unfold lh;rw[av (by simp_all)];rfl⟩
def alp{s d:aC}{x:U}(m:NK P s d=V):∃q:Option U,∀g,jX P g s d x=q.map (·,g):=by
 unfold NK at m;split at m
 .rename_i p u o h2;unfold jX;simp only[o,h2];cases x<;>first|exact⟨af,λg=>rfl⟩|exact⟨_,λg=>rfl⟩
 grind
def acs{d:Heap}{ts:Array aC}{ty:aC}{xs:List U}:ia P d .max ts ty xs=(match flatAll xs with|some l=>(cV P (Builtin.max_ ts ty l.toArray)).bind iU|none=>af).map (·,d):=by rcases xs with _|⟨x,_|⟨g,xs⟩⟩<;>(unfold ia;simp only[];cases flatAll _<;>rfl)
def act{d:Heap}{ts:Array aC}{ty:aC}{xs:List U}:ia P d .min ts ty xs=(match flatAll xs with|some l=>(cV P (Builtin.min_ ts ty l.toArray)).bind iU|none=>af).map (·,d):=by rcases xs with _|⟨x,_|⟨g,xs⟩⟩<;>(unfold ia;simp only[];cases flatAll _<;>rfl)
def FQ{o:Oper}(C:o.guard=af)(E:wp o.op=V)(v:∀u:Env,∃q:Option U,∀g,dF P G (whole P G aI) u g o=q.map λx=>(.ret x,u,g)){ops:Array Oper}{B:Env}{D:Heap}
 (m:bW P G (whole P G aI) ops (bZ ops.size) e h=J (.normal,B,D)) {k:Nat} (p:ops[k]?=J o):uH P G (whole P G aI) ops e h k:=by
 have d:k<ops.size:=(Array.getElem?_eq_some_iff.1 p).1;obtain⟨-,A,st⟩:=trace m;obtain⟨z,-⟩:=st k d;obtain⟨q,y⟩:=v (cI P G (whole P G aI) ops e h k).1;unfold gJ at z;simp only[p,et,C,y]at z;cases N:q with|none=>simp_all|some x=>exact⟨o,x,_,_,p,E,A k (Nat.le_of_lt d),λR g=>⟨_,_,A R g,by simp_all⟩⟩
def RD{ops:Array Oper}(B:lW aI L){A:Env}{C:Heap}(m:bW P G (whole P G aI) ops (bZ ops.size) e h=J (.normal,A,C)){k:Nat}(o:KE P ops L k=V):uH P G (whole P G aI) ops e h k:=by
 unfold KE at o;split at o
 .rename_i z v;simp only[bm,Option.isNone_iff_eq_none]at o;obtain⟨u,o⟩:=o;split at o
  .rename_i f args q d;obtain⟨D,y⟩:=B f (by simp_all);refine FQ u (by rw[d];rfl) (λg=>⟨D (args.toList.map g.eval),λp=>?_⟩) m v;have:dF P G (whole P G aI) g p z=(jE P (whole P G aI) g p {callee:=.value (.func f),args,argTypes:=q}).map λ(r,h1)=>(r,g,h1):=(by unfold dF;rw[d]);rw[this,Rv,qZ];unfold j9;rw[y];simp only[J2];rfl
  .rename_i args q d;refine FQ u (by rw[d];rfl) (λg=>⟨match flatAll (args.toList.map g.eval) with|some l=>(cV P (Builtin.max_ q z.type l.toArray)).bind iU|none=>af,λp=>?_⟩) m v
   .unfold dF;simp only[d];show(ia P p .max q z.type (args.toList.map g.eval)).map _=_;rw[acs,J2];rfl
  .rename_i args q d;refine FQ u (by rw[d];rfl) (λg=>⟨match flatAll (args.toList.map g.eval) with|some l=>(cV P (Builtin.min_ q z.type l.toArray)).bind iU|none=>af,λp=>?_⟩) m v
   .unfold dF;simp only[d];show(ia P p .min q z.type (args.toList.map g.eval)).map _=_;rw[act,J2];rfl
  .rename_i s E x d;refine FQ u (by rw[d];rfl) (λg=>?_) m v;obtain⟨D,y⟩:=alp (P:=P) (x:=g.eval x) o;refine⟨D,λp=>?_⟩;unfold dF;simp only[d,di,y,J2];rfl
  grind
 grind
def iC{id:Nat}{ops:Array Oper}(ps:List (Nat × Nat))(u:lW aI L)(v:Al ops (KH P ops L) ps=V)(A:∀p∈ps,jn P G (whole P G aI) ops e h p.1 p.2=V)
 (g:ck P G (whole P G aI) ops ops.toList e h (sX Q)):bC (whole P G aI) (.region id ops V) e h Q:=by
 have m:=g;obtain⟨B,o,z,q,h2⟩:=m;cases B with
 |normal=>
  have d:bW P G (whole P G aI) ops (bZ ops.size) e h=J (.normal,o,z):=by rw[nP (aV _),<-Array.length_toList,fB];exact q
  exact ON (K4 v (λk y=>RD u d (uA.1 y).2) A) g
 |_=>exact h2.elim
def du{id:Nat}{ops:Array Oper}(d:lW aI L)(g:Al ops (KH P ops L) []=V)
 (o:ck P G (whole P G aI) ops ops.toList e h (sX Q)):bC (whole P G aI) (.region id ops V) e h Q:=iC [] d g (λp m=>nomatch m) o
end
end Go.AE
end
section
namespace Go.AE
structure fj(S:List Nat)(n0:Nat)(h h':Heap):Prop where
 box:∀(c:Nat) (cs:List U),c∉S->h.boxes[c]?=J cs->h'.boxes[c]?=J cs
 len:h.boxes.length<=h'.boxes.length
 loop:∀(l:Nat) (r:gM),h.loops[l]?=J r->h'.loops[l]?=J r
 tn:h.tn<=h'.tn
 dead:∀n,n<n0->n∈h'.dead->n∈h.dead
 ok:c_ h=V->c_ h'=V
section
variable {S S':List Nat} {n0:Nat} {h0 h h' h2:Heap}
def fj.refl:fj S n0 h h:=⟨λ_ _ _ d=>d,aV _,λ_ _ d=>d,aV _,λ_ _ d=>d,λd=>d⟩
def fj.trans(m:fj S n0 h h')(k:fj S n0 h' h2):fj S n0 h h2:=
 ⟨λc d g q=>k.box c d g (m.box c d g q),eS m.len k.len,λl r p=>k.loop l r (m.loop l r p),eS m.tn k.tn,λn o p=>m.dead n o (k.dead n o p),λp=>k.ok (m.ok p)⟩
def fj.mono(m:fj S n0 h h')(o:∀b∈S,b∈S'):fj S' n0 h h':=⟨λc d g=>m.box c d λp=>g (o c p),m.len,m.loop,m.tn,m.dead,m.ok⟩
def fj.put{b:Nat}(o:b∈S)(cs:List U):fj S n0 h (h.put b cs):=
 ⟨λc m g d=>by rw[cr (λ(e:c=b)=>g (by simp_all))];exact d,by rw[jd];omega,λ_ _ d=>d,aV _,λ_ _ d=>d,λd=>d⟩
def fj.fy(m:fj S n0 h h'){b:Nat}(p:F h.boxes<=b)(cs:List U):fj S n0 h (h'.put b cs):=
 ⟨λc d g o=>by have:=(aS.1 o).1;rw[cr M];exact m.box c d g o,by rw[jd];exact m.len,m.loop,m.tn,m.dead,m.ok⟩
def fj.push(m:fj S n0 h h')(cs:List U):fj S n0 h (h'.push cs):=
 ⟨λc d g o=>aM (m.box c d g o),by rw[bF];exact Nat.le_succ_of_le m.len,m.loop,m.tn,m.dead,m.ok⟩
def fj.Ba(m:fj S n0 h h')(r:gM):fj S n0 h (h'.loop r):=⟨m.box,m.len,λl g d=>VV (m.loop l g d),m.tn,m.dead,m.ok⟩
def fj.eY(m:fj S n0 h h'){l:Nat}(g:F h.loops<=l)(r:gM):fj S n0 h (h'.eY l r):=
 ⟨m.box,m.len,λk o d=>by have:=(aS.1 d).1;rw[Yi M];exact m.loop k o d,m.tn,m.dead,m.ok⟩
def fj.Ei(x:Ext h h')(p:n0<=h.tn):fj S n0 h h':=⟨λc d _ g=>x.box c d g,x.len,x.loop,x.tn,λn o m=>x.dead n (l_ o p) m,x.ok⟩
def fj.r_{d:Nat}(m:fj S d h h')(p:n0<=d):fj S n0 h h':=⟨m.box,m.len,m.loop,m.tn,λn o g=>m.dead n (l_ o p) g,m.ok⟩
def Ext.NE(x:Ext h0 h)(m:fj S h0.tn h h')(q:∀b∈S,F h0.boxes<=b):Ext h0 h':=
 ⟨λc d o=>m.box c d (λu=>by simp_all) (x.box c d o),λl r o=>m.loop l r (x.loop l r o),eS x.tn m.tn,λn g p=>x.dead n g (m.dead n g p),λo=>m.ok (x.ok o)⟩
def Grown.NE{t:Tok}(g:Grown n0 h h' t):fj S n0 h h':=⟨λc m _ q=>g.box c m q,by
 rcases dp (F h'.boxes) (F h.boxes) with d|o
 .have p:=g.box (F h'.boxes) _ (aN d);simp_all
 omega,g.loop,g.tn,g.dead,λ_=>g.ok⟩
end
section
variable {P:bj} {G:Nat->Option (List U)} {aI:aQ->Option (List U->Heap->Option (U × Heap))} {H:Heap} {l:Nat} {rec:gM} {args:List U}
def apj{Post:Heap->Prop}(p:H.loops[l]?=J rec)(A:rec.params.size=F args)(g:rec.state=.ready)(y:rec.pending=af)
 (v:bC (whole P G aI) rec.assign (nq l rec args) H (λo m d=>o=.normal/\d=H/\bC (whole P G aI) rec.body m (H.busy l rec) (λo _ h2=>o=.normal/\h2.loops=(H.busy l rec).loops/\Post {h2 with loops:=H.loops}))):
 ∃H',(whole P G aI).round l args H=J (.ret (.v (.bool V)),H')/\H'.loops=H.loops/\Post H':=by
 obtain⟨o,m,d,C,rfl,rfl,T,u,h2,D,rfl,E,N⟩:=v;have q:=(aS.1 p).1;have R:(d.busy l rec).loops[l]?=J {rec with state:=.busy}:=by show(d.loops.set l _)[l]?=_;simp[q]
 refine⟨{h2 with loops:=d.loops},In p A ⟨_,m,d,C,O,rec,p,g,.normal,u,h2,D,{rec with state:=.busy},by simp_all,O,?_⟩,O,N⟩;have z:{rec with state:=LoopState.ready,pending:=af}=rec:=by cases rec;cases g;cases y;rfl
 have B:h2.loops.set l rec=d.loops:=by
  rw[E];show(d.loops.set l _).set l rec=_;rw[Cp];apply nV;intro k;rw[kQ];split
  .simp_all
  .rfl
 simp_all
def Oj{Post:Heap->Prop}(u:H.loops[l]?=J rec)(v:rec.params.size=F args)(d:rec.state=.ready)(q:rec.pending=af)
 (p:bC (whole P G aI) rec.assign (nq l rec args) H (λo g m=>o=.normal/\m=H/\bC (whole P G aI) rec.body g (H.busy l rec) (λo _ h2=>o=.normal/\h2.loops=(H.busy l rec).loops/\Post {h2 with loops:=H.loops}))):
 ∃H',(whole P G aI).round l args H=J (.ret (.v (.bool V)),H')/\Post H':=by
 obtain⟨H',y,_,z⟩:=apj u v d q p;simp_all
end
end Go.AE
end
section
namespace Go.NT
def asE{α:Type}{f}{p}:∀{l:List α},(∀i∈l,p i=ai->f i=0)->gU ((l.filter p).map f)=gU (l.map f):=by
 intro l
 induction l with
 |nil=>intro _;rfl|cons x l d=>
  intro h;have d:=d λi m=>h i (gj _ m);cases g:p x
  .rw[List.filter_cons_of_neg (by simp[g]),d];simp only[eD,gU];rw[h x gx g];omega
  .rw[List.filter_cons_of_pos g];simp only[eD,gU,d]
def akV{α m:Type}{l:List α}{f}{g:Nat->m}(h:∀i x,l[i]?=J x->f x=g i):l.map f=(bZ (F l)).map g:=by
 apply Fm
 .simp
 .intro i d h2;rw[sH,sH,JH];exact h i _ (aN (by simpa using d))
def Pj(rows)(target):F (e7 rows target)=F target:=by unfold e7;simp
def Y7{rows}{target a}(h:a∈e7 rows target):∃k,k<F target/\a=rows.map (λr=>ag r k)++[ag target k]:=by unfold e7 at h;obtain⟨k,d,rfl⟩:=iV.1 h;exact⟨k,hy.1 d,O⟩
def acn{rows:List (List Int)}{k i}{t}(hi:i<F rows):ag (rows.map (λr=>ag r k)++t) i=ag (rows.getD i []) k:=by unfold ag;rw[eG,List.getElem?_append_left (by simpa using hi),dW,aN hi,mI hi];rfl
def aco{rows:List (List Int)}{k}{x}:ag (rows.map (λr=>ag r k)++[x]) (F rows)=x:=by unfold ag;rw[eG,List.getElem?_append_right b7];simp
section
variable {rows:List (List Int)} {target l:List Int}
def Pk(m:∀r∈rows,∀x∈r,okF x)(o:∀x∈target,okF x):(∀a∈e7 rows target,F a=F rows+1)/\∀a∈e7 rows target,∀x∈a,okF x:=by
 refine⟨λa d=>?_,λa d x p=>?_⟩
 .obtain⟨k,-,rfl⟩:=Y7 d;simp
 .obtain⟨k,u,rfl⟩:=Y7 d;rcases List.mem_append.1 p with q|q
  .obtain⟨r,g,rfl⟩:=iV.1 q;exact nZ (m r g) k
  .rw[hY]at q;subst q;exact nZ o k
def combine_sat(R:∀r∈rows,∀x∈r,okF x)(X:∀x∈target,okF x)(h:nF rows target=J l):
 l.length=F rows/\(∀x∈l,okF x)/\∀k,k<F target->Qi∣gU ((bZ (F rows)).map λi=>ag l i*ag (rows.getD i []) k)-ag target k:=by
 obtain⟨t1,t2⟩:=Pk R X;unfold nF at h;dsimp only at h;split at h
 .rename_i d;simp only[dt]at h;subst h;have g:∀i a,F (gT (e7 rows target) rows.length).2<=i->(gT (e7 rows target) (F rows)).1[i]?=J a->ag a (F rows)=0:=λi a z C=>by rw[eF]at d;have:a∈(gT (e7 rows target) (F rows)).1.drop (F (gT (e7 rows target) rows.length).2):=(by refine cU (i:=i-F (gT (e7 rows target) rows.length).2) ?_;rw[oL];rw[show(F (gT (e7 rows target) rows.length).2)+(i-F (gT (e7 rows target) rows.length).2)=i by omega];exact C);simpa using d a this
  have T:=arI t1 t2 g;have Z:=(Ev t1 t2 (M:F rows<=F rows+1)).1;refine⟨IR _ _,?_,λk D=>?_⟩
  .have A:∀(o:List (Nat × Nat)) (y:List Int),(∀x∈y,okF x)->∀x∈o.foldl (λy B=>y.set B.1 (ag ((gT (e7 rows target) (F rows)).1.getD B.2 []) (F rows))) y,okF x:=by
    intro o
    induction o with
    |nil=>intro y v;exact v|cons B o Y=>
     intro y v;refine Y _ λx u=>?_;rcases uB u with q|q
     .exact v x q
     .rw[q];refine nZ (λz0 m=>?_) _;rcases dp B.2 (F (gT (e7 rows target) rows.length).1) with p|p
      .rw[mI p]at m;exact Z.ok _ (iP p) z0 m
      .rw[eG,List.getElem?_eq_none p]at m;simp at m
   unfold nu;exact A _ _ λx u=>by rw[P4 u];exact Bi
  .have N:rows.map (λr=>ag r k)++[ag target k]∈e7 rows target:=(by unfold e7;exact iV.2 ⟨k,hy.2 D,O⟩);have:=T _ N;unfold Sat res dot at this;rw[IR,aco]at this;have e:((bZ (F rows)).map λi=>ag (nu (gT (e7 rows target) (F rows)) (F rows)) i*ag (rows.map (λr=>ag r k)++[ag target k]) i)=(bZ (F rows)).map λi=>ag (nu (gT (e7 rows target) (F rows)) (F rows)) i*ag (rows.getD i []) k:=
    Cl λi z=>by rw[acn (hy.1 z)]
   rw[e]at this;exact this
 .cases h
end
def arN{n}{d}{l}:F (oI n d l)=n:=by unfold oI;rw[C0 (λg=>ag l g.2)];simp
def arP{n i}{d}{l}(h:i∉d):ag (oI n d l) i=0:=by unfold oI;rw[Ge (λm=>ag l m.2) _ _ λm g e=>h (by subst e;obtain⟨o,p⟩:=m;have:=List.mem_zipIdx g;simp only at this ⊢;rw[this.2.2];exact iP _)];unfold ag;rw[eG,aai];split<;>rfl
def arM{l}:∀(ps:List (Nat × Nat)) (y:List Int),(ps.map dN).Nodup->(∀p∈ps,p.1<F y)->∀p∈ps,ag (ps.foldl (λy p=>y.set p.1 (ag l p.2)) y) p.1=ag l p.2:=by
 intro ps
 induction ps with
 |nil=>intro y _ _ p d;cases d
 |cons v ps q=>
  intro y g o p d;rw[eD,List.nodup_cons]at g;rcases gL.1 d with rfl|d
  .rw[List.foldl_cons,Ge (λp=>ag l p.2) _ _ λu m e=>g.1 (iV.2 ⟨u,m,e⟩),FI (o p gx),av O]
  .exact q _ g.2 (λp d=>by rw[mX];exact o p (gj _ d)) p d
def zip_fst(d:List Nat):d.zipIdx.map dN=d:=by apply Fm<;>simp
def OY{n j i}{d}{l}(p:d.Nodup)(g:∀i∈d,i<n)(m:d[j]?=J i):ag (oI n d l) i=ag l j:=by
 unfold oI;have o:(i,j)∈d.zipIdx:=by rw[List.mem_zipIdx_iff_getElem?];exact m
 exact arM d.zipIdx (bB n 0) (by rw[zip_fst];exact p) (λu q=>by
  rw[l8];refine g _ ?_;have:u.1∈d.zipIdx.map dN:=iV.2 ⟨u,q,O⟩
  rwa [zip_fst]at this) (i,j) o
def arO{n}{p}{l}(v:∀x∈l,okF x):∀x∈oI n p l,okF x:=by
 have u:∀(d:List (Nat × Nat)) (o:List Int),(∀x∈o,okF x)->∀x∈d.foldl (λo z=>o.set z.1 (ag l z.2)) o,okF x:=by
  intro d
  induction d with
  |nil=>intro o m;exact m|cons z d y=>
   intro o m;refine y _ λx g=>?_;rcases uB g with q|q
   .exact m x q
   .rw[q];exact nZ v _
 exact u _ _ λx g=>by rw[P4 g];exact Bi
def NR{ac who}{i}:i∈dG ac who↔i<F ac/\ag ac i∈who:=by unfold dG;rw[uA,hy,JC]
def alR(ac who):(dG ac who).Nodup:=List.nodup_range.filter _
def ub{rows}{ac}(h:cG rows ac=0):F rows=F ac/\F rows<=64/\(∀r∈rows,F r=cd rows/\0<F r/\F r<=64/\∀x∈r,okF x)/\∀x∈ac,0<=x/\x<=63:=by
 unfold cG at h;split at h
 .cases h
 .rename_i m;simp only[Bool.or_eq_true,decide_eq_true_eq,List.any_eq_true,not_or,not_exists,not_and,Nat.not_lt]at m;split at h
  .cases h
  .rename_i h2;have h2:F rows=F ac:=(by simpa using h2);split at h
   .rename_i p;rw[eF]at p;have g:∀i (d:i<F rows),F rows[i]=F (rows.getD 0 [])/\0<F rows[i]/\(∀x∈rows[i],okF x)/\0<=ag ac i/\ag ac i<=63:=λi d=>by
     have:=p i (hy.2 d);simp only[mI d,bm,decide_eq_true_eq,eF]at this;obtain⟨⟨⟨a,b⟩,c,v⟩,f⟩:=this;refine⟨b,?_,λx o=>?_,c,v⟩
     .rcases JS (F rows[i]) with q|q
      .rw[List.length_eq_zero_iff]at q;rw[q]at a;cases a
      .exact q
     .have:=f x o;unfold cN at this;simpa [okF] using this
    refine⟨h2,m.1,λr u=>?_,λx o=>?_⟩
    .obtain⟨i,d,rfl⟩:=wc.1 u;obtain⟨a,b,c,-⟩:=g i d;refine⟨?_,b,m.2 _ u,c⟩;unfold cd;rw[aP M];exact a
    .obtain⟨i,d,rfl⟩:=wc.1 o;have:=(g i M).2.2.2
     rwa [fS d]at this
   .cases h
def uI{rows}{ac}(h:cG rows ac=0):0<cd rows/\cd rows<=64:=by
 obtain⟨-,-,d,-⟩:=ub h;unfold cd;split
 .omega
 .rename_i g;have:=d (rows.getD 0 []) (by rw[mI M];exact iP _);exact⟨this.2.1,this.2.2.1⟩
def Pg{n}(h:0<n):F (eZ n)=n:=by unfold eZ;simp;omega
def asY{n k}:ag (eZ n) k=if k=0 then 1 else 0:=by
 unfold eZ ag;cases k with|zero=>rfl|succ k=>rw[List.getD_cons_succ,eG,aai];split<;>rfl
def asZ{n}:∀x∈eZ n,okF x:=by
 intro x d;unfold eZ at d;rcases gL.1 d with rfl|q
 .unfold okF;decide
 .rw[P4 q];exact Bi
def abB{rows}{ac who y}(h:fm rows ac who=(y,V,0)):
 cG rows ac=0/\dy (-1) who=V/\F y=F rows/\(∀x∈y,okF x)/\(∀i,ag ac i∉who->ag y i=0)/\
  ∀k,k<cd rows->Qi∣gU ((bZ (F rows)).map λi=>ag y i*ag (rows.getD i []) k)-(if k=0 then 1 else 0):=by
 unfold fm at h;split at h
 .simp at h
 .rename_i m;have m:cG rows ac=0:=by simpa using m
  obtain⟨D,p2,Z,p4⟩:=ub m;split at h
  .simp at h
  .rename_i Y;split at h
   .simp at h
   .rename_i l X;simp only[cL,and_true]at h;subst h;have z:∀i∈dG ac who,i<F rows:=λi d=>(by rw[D];exact(NR.1 d).1);have q:∀r∈(dG ac who).map (λi=>rows.getD i []),∀x∈r,okF x:=λr q=>(by obtain⟨i,d,rfl⟩:=iV.1 q;rw[mI (z i d)];exact(Z _ (iP _)).2.2.2);obtain⟨E,N,u⟩:=combine_sat q asZ X;rw[br]at E u;have g:∀i,i∉dG ac who->ag (oI (F rows) (dG ac who) l) i=0:=λi d=>arP d;refine⟨m,by simpa using Y,arN,arO N,λi d=>g i λz0=>d (NR.1 z0).2,λk T=>?_⟩;have:=u k (by rw[Pg (uI m).1];exact T);rw[asY]at this;have e:gU ((bZ (F rows)).map λi=>ag (oI (F rows) (dG ac who) l) i*ag (rows.getD i []) k)=gU ((bZ (F (dG ac who))).map λi=>ag l i*ag (((dG ac who).map λi=>rows.getD i []).getD i []) k):=(by have R:dG ac who=(bZ (F rows)).filter λi=>who.contains (ag ac i):=(by unfold dG;rw[D]);have v:=asE (f:=λi=>ag (oI (F rows) (dG ac who) l) i*ag (rows.getD i []) k) (p:=λi=>who.contains (ag ac i)) (l:=bZ (F rows)) λi d C=>(by rw[g i λz0=>?_,Int.zero_mul];rw[JC.2 (NR.1 z0).2]at C;cases C);rw[<-R]at v;rw[<-v];congr 1;refine akV λj i o=>?_;have B:=(aS.1 o).1;rw[OY (alR ac who) z o,mI (t:=(dG ac who).map λi=>rows.getD i []) (by simpa using B),sH];rw[(aS.1 o).2]);rw[e];exact this
end Go.NT
end
section
namespace Go.NT
def Gn:Nat:=4
def ZQ:elem Gn=V:=by decide+kernel
def wu(a b:List Int):Int:=(bZ (F a)).foldl (λx j=>dx x (cS (ag a j) (ag b j))) 0
def rN(d row:List Int):Nat:=(bZ (F d)).foldl (λx j=>x*ec (ag d j).toNat (ag row j)%P) 1
def pJ(s:List Int):List Int:=s.map λn=>((ec Gn n:Nat):Int)
def zj(ac:List Int)(d:Int):List Nat:=(bZ (F ac)).filter λi=>decide (ag ac i=d)
def gK(rows:List (List Int))(ac:List Int)(l:List Pr):List Int:=(fm rows ac (l.map Pr.aU)).1
def kO(y:List Int)(s:List (Int × Int)):Int:=s.foldl (λa d=>dx a (cS (ag y d.1.toNat) d.2)) 0
def BS(rows:List (List Int))(d:List Int)(p:Int × Int):Bool:=cN p.2&&decide (ec Gn p.2=rN d (rows.getD p.1.toNat []))
def lK(rows:List (List Int))(ac d:List Int)(g:Int)(s:List (Int × Int)):Bool:=decide (s.map dN=(zj ac g).map λ(i:Nat)=>(i:Int))&&s.all (BS rows d)
def vu(l:List Pr)(d:Int):Option Pr:=l.find? λg=>decide (g.aU=d)
def gc(c0:Int)(text:List UInt8)(l:List Pr):Nat:=BT (jy c0 text l) c0 text
def Bb(rows:List (List Int))(ac:List Int)(g:List Int)(text:List UInt8)(l:List Pr)(m:Int)(s:List (Int × Int))(d f:Int):Int × Int:=
 match vu l m with
 |none=>(0,1)
 |some x=>
  if !(cN d&&cN f) then (0,1)
  else if !lK rows ac g m s then (0,340)
  else if ¬((ec Gn d:Nat):Int)=x.d∨¬((ec Gn f:Nat):Int)=x.e then (0,420)
  else (dx (dx d (cS f (iQ (ag g 0) text l m))) (cS (gc (ag g 0) text l) (kO (gK rows ac l) s)),0)
def qY(d:Int)(text:List UInt8)(e s:Int):Bool:=bX d&&cN e&&cN s&&decide (e=((BT ((ec Gn s*ec d.toNat (-e)%P:Nat):Int) d text:Nat):Int))
def ahK(b):pc b<Q:=jU _ aY
def Hk{x}:cN x=V↔okF x:=by unfold cN okF;simp
def ahL(d)(v):cN ((pR d v:Nat):Int)=V:=by rw[Hk];have:=ahK (jQ d (cA v));unfold pR okF;rw[zS];omega
end Go.NT
end
section
namespace Go.NT
def iZ(f:Nat->Int)(a:List Int)(c k:Nat):List Int:=(bZ (F a)).map λj=>if c<=j/\j<k then f j else ag a j
section
variable {f:Nat->Int} {a own:List Int} {c k j r w:Nat} {t:List (List Int)}
def oV:F (iZ f a c k)=F a:=by unfold iZ;simp
def Ai(d:j<F a):ag (iZ f a c k) j=if c<=j/\j<k then f j else ag a j:=by rw[fS (by rw[oV];exact d)];unfold iZ;simp_all
def Sh:iZ f a c c=a:=by refine ug oV λj d=>?_;rw[oV]at d;rw[Ai d,aP M]
def Sg(m:c<=k)(g:k<F a):(iZ f a c k).set k (f k)=iZ f a c (k+1):=by
 refine ug (by rw[mX,oV,oV]) λj d=>?_;rw[mX,oV]at d;rw[FI (by rw[oV];exact g),Ai d,Ai d]
 grind
def ae8{n:Int}(g:c<=F a):iZ (λj=>cS (ag a j) n) a c (F a)=gh c a n:=by
 unfold gh;refine ug (by rw[oV,cg,br,cR,ev];omega) λj d=>?_;rw[oV]at d;rw[Ai d,zY g];by_cases o:j<c
 .omega
 .rw[av M,aP o];have m:j-c<F ((a.drop c).map (cS · n)):=by rw[br,ev];omega
  rw[fS m,sH,List.getElem_drop,fS d];simp_all
def n_(c:Nat)(own:List Int)(r j:Nat)(t:List (List Int)):List (List Int):=t.mapIdx λi a=>if i<j/\i≠r then rn c a own else a
def RZ:F (n_ c own r j t)=F t:=by unfold n_;simp
def sZ(i:Nat):(n_ c own r j t)[i]?=t[i]?.map λa=>if i<j/\i≠r then rn c a own else a:=by unfold n_;simp_all
def aeD:n_ c own r 0 t=t:=by apply nV;intro i;rw[sZ];simp_all
def aeB:n_ c own r (r+1) t=n_ c own r r t:=by
 apply nV;intro i;rw[sZ,sZ]
 grind
def aeA:(n_ c own r j t)[j]?=t[j]?:=by rw[sZ];simp_all
def aez:(n_ c own r j t)[r]?=t[r]?:=by rw[sZ];simp_all
def aeC{a:List Int}(d:t[j]?=J a)(m:j≠r):(n_ c own r j t).set j (rn c a own)=n_ c own r (j+1) t:=by
 apply nV;intro i;rw[kQ,RZ];have g:=(aS.1 d).1;split
 .rename_i e;subst e
  try rw[av g]
  rw[sZ,d,fk,av ⟨Nat.lt_succ_self _,m⟩]
 .rename_i e;rw[sZ,sZ]
  grind
def F_{j:Nat}(p:r<=j)(v:j<=F t)(y:∀k,r<=k->k<j->ag (t.getD k []) c=0)(o:j<F t->ag (t.getD j []) c≠0):mH t r c=if j=F t then af else J j:=by
 cases d:mH t r c with
 |none=>
  by_cases e:j=F t
  .simp_all
  .exact absurd (SR d M p) (o M)
 |some k=>
  obtain⟨z,A,B⟩:=xZ d;have q:j<=k:=by
   rcases dp k j with h|h
   .grind
   .exact h
  rw[aP M];unfold mH at d;rw[List.find?_eq_some_iff_getElem]at d;obtain⟨-,i,u,g,m⟩:=d;rw[JH]at g;subst g;rcases dp j i with h|h<;>grind
def ar7{pv:List Nat}{k:Nat}{b o:List Int}(u:mH t (F pv) c=J k)(d:t[k]?=J b)(g:t[pv.length]?=J o):
 uo (t,pv) c=(n_ c (gh c b (ea (ag b c))) (F pv) (F t) (((t.set (F pv) b).set k o).set (F pv) (gh c b (ea (ag b c)))),pv++[c]):=by
 have v:=(aS.1 d).1;have y:=(aS.1 g).1;have p:t.getD k []=b:=by rw[eG,d];rfl
 have q:t.getD (F pv) []=o:=by rw[eG,g];rfl
 unfold uo;simp only[u,p,q];congr 1;generalize gh c b (ea (ag b c))=s;have m:((t.set (F pv) b).set k o).set (F pv) s=(t.set k o).set (F pv) s:=by
  by_cases e:k=F pv
  .simp_all
  .rw[List.set_comm _ _ (λz=>e z.symm),Cp]
 rw[m];apply nV;intro i;rw[List.getElem?_mapIdx,sZ]
 grind
end
end Go.NT
end
section
namespace Go.NT
def TK(d)(v):okF ((pR d v:Nat):Int):=Hk.1 (ahL d v)
def WY(x)(d)(v):py x (pR d v)=ec x ((pR d v:Nat):Int):=by unfold ec;rw[Av (TK d v),fh]
end Go.NT
end
section
namespace Go.Proofs.YtcbhpkjbiehcpaaGreatDoor
open Go.AE Go.NT
def apX:Tryz.f213.results.toList=[.tmp 2]:=am
def ari{t}{x y}{n}(d:n<=4611686018427387903):cy aa .shl t x y (.v (.int .u64 (n:Nat))) (.v (.int .u64 1))=J (.v (.int .u64 ((2*n:Nat):Int))):=by rw[Kw aY];congr 3;show IntKind.u64.wrap (((n:Nat):Int)*2)=_;unfold IntKind.wrap;simp[IntKind.signed,IntKind.bits];omega
def aro{t}{x y}{n}(d:n<=4611686018427387903):cy aa .shr t x y (.v (.int .i64 (n:Nat))) (.v (.int .u64 63))=J (.v (.int .i64 0)):=by rw[z_ aY];congr 3;show((n:Nat):Int).fdiv (2^63)=_;rw[PM _ aY];omega
def at6{t}{x y}{n}(g:n<=4611686018427387903):cy aa .xor t x y (.v (.int .u64 ((2*n:Nat):Int))) (.v (.int .u64 0))=J (.v (.int .u64 ((2*n:Nat):Int))):=by
 rw[Re];congr 3;have d:(BitVec.ofInt IntKind.u64.bits ((2*n:Nat):Int)^^^BitVec.ofInt IntKind.u64.bits 0).toNat=2*n:=by show(BitVec.ofInt 64 ((2*n:Nat):Int)^^^0#64).toNat=2*n;rw[BitVec.xor_zero,BitVec.toNat_ofInt];omega
 rw[d];unfold IntKind.wrap;simp[IntKind.signed,IntKind.bits];omega
def vM{n}(d:n<18446744073709551616):IntKind.u64.wrap ((n:Nat):Int)=((n:Nat):Int):=by unfold IntKind.wrap;simp[IntKind.signed,IntKind.bits];omega
def atv(n)(g:n<=4611686018427387903)(h):W.call 213 [.v (.int .i64 (n:Nat))] h=J (.ret (.v (.int .u64 (g_ n:Nat))),h):=by
 have e:g_ (n:Int)=2*n:=by unfold g_;rw[av M,fh]
 rw[e];have m:=vM (n:=n) M;have o:IntKind.u64.wrap 0=0:=rfl;have p:=λt x d=>ari (t:=t) (x:=x) (y:=d) g;have q:=λt x d=>aro (t:=t) (x:=x) (y:=d) g;have u:=λt x d=>at6 (t:=t) (x:=x) (y:=d) g;refine cq O Tryz.func213 O ?_;exact dV @apX @oW
def L1:List aQ:=[80,81,75,66,130,202,67,69,162,111,203,193,242,231,222,213,261,262]
noncomputable def N0:aQ->Option (List U->Heap->Option (U × Heap)):=lh W L1
noncomputable abbrev W1:=whole aa Gt N0
def Aa:lW N0 L1:=rm
def ef{t}(k):oJ t (bU k)=V:=by cases k<;>rfl
def pX:∀b:List UInt8,dk (bI b)=bI b
 | []=>rfl
 |c::b=>by show aZ (ie c)::dk (bI b)=_;rw[pX b];rfl
def i'{n l t}:∀b:List UInt8,e_ n l t (bI b)=V
 | []=>rfl
 |c::b=>by show(aA n l t (ie c)&&e_ n l t (bI b))=V;rw[i' b];rfl
def rA:∀l:List Int,dk (ints l)=ints l
 | []=>rfl
 |c::b=>by show aZ (tT c)::dk (ints b)=_;rw[rA b];rfl
def jj{n l t}:∀b:List Int,e_ n l t (ints b)=V
 | []=>rfl
 |c::b=>by show(aA n l t (tT c)&&e_ n l t (ints b))=V;rw[jj b];rfl
section
variable (a b n x:Int)
def abC:∀h,W1.call 80 [I a,I b] h=J (.ret (I (dx a b)),h):=bR (L:=L1) O O O (abI a b _) O rfl
def ak6:∀h,W1.call 81 [I a,I b] h=J (.ret (I (cS a b)),h):=bR (L:=L1) O O O (ND a b _) O rfl
def ajj:∀h,W1.call 222 [I n] h=J (.ret (.tuple [I (if fmod n=0 then 0 else ea n),I (if fmod n=0 then 90 else 0)]),h):=bR (L:=L1) O O O (ajl n _) O rfl
def atE:∀h,W1.call 66 [I x] h=J (.ret (.v (.bool (bX x))),h):=bR (L:=L1) O O O (Ja x _) O rfl
def agX:∀h,W1.call 67 [I a,I b] h=J (.ret (.tuple [I (nI a b),I (rq a b)]),h):=bR (L:=L1) O O O (ag1 a b _) O rfl
def ag6:∀h,W1.call 75 [I a,I n] h=J (.ret (.tuple [I (fb a n),I (ox a)]),h):=by obtain⟨h',d,-⟩:=ahb a n ⟨[],[],0,[]⟩;exact bR (L:=L1) O O O d O rfl
def anv:∀h,W1.call 130 [I a,I b] h=J (.ret (I (dx a b)),h):=bR (L:=L1) O O O (anz a b _) O rfl
def aoX:∀h,W1.call 202 [I a,I b] h=J (.ret (I (cS a b)),h):=bR (L:=L1) O O O (Og a b _) O rfl
def aof:∀h,W1.call 231 [I n] h=J (.ret (.tuple [I (if fmod n=0 then 0 else ea n),I (if fmod n=0 then 90 else 0)]),h):=bR (L:=L1) O O O (aok n _) O rfl
def aqE:∀h,W1.call 111 [I x] h=J (.ret (.v (.bool (bX x))),h):=bR (L:=L1) O O O (aqJ x _) O rfl
end
def atu(n)(d:n<=4611686018427387903):∀h,W1.call 213 [.v (.int .i64 (n:Nat))] h=J (.ret (.v (.int .u64 (g_ n:Nat))),h):=bR (L:=L1) O O O (atv n d _) O rfl
def agS(d b)(k)(g:F b<=1099511620000)(o:F d<=1099511620000):∀h,W1.call 69 [.v (.string (bs d)),.list k 1 (bI b)] h=J (.ret (I (pc (jQ d b):Nat)),h):=by obtain⟨h',m,-⟩:=agW d b (.list (bU k) 1 (bI b)) ⟨[],[],0,[]⟩ (dA.list (xM _) λ_=>rfl) g o;exact bR (L:=L1) (B:=[.v (.string (bs d)),.list (bU k) 1 (bI b)]) O (by rw[aZ,aZ,al.eq_1,pX];rfl) (by simp[aA,au,ef,i']) m O rfl
def sv(s:List UInt8):U:=.v (.string (bs s))
def ar(k n:Int)(s:List UInt8)(t:Tok)(sz:Nat)(rows:List (List U)):List U:=[I k,I n,sv s,.list t sz rows]
inductive b8:Vl->List U->Prop
 |int (n:Int) (hn:0<=n/\n<=4611686018427387903):b8 (.int n) (ar 1 n [] .nil 0 [])
 |text (s:List UInt8) (hs:s.length<=1099511620000):b8 (.text s) (ar 2 0 s .nil 0 [])
 |list (l:List Vl) (k:Tok) (sz:Nat) (rows:List (List U)) (hl:rows.length=l.length) (hs:rows≠[]->sz=4) (hm:rows.length<=1000000) (h:∀(i:Nat) v r,l[i]?=J v->rows[i]?=J r->b8 v r):b8 (.list l) (ar 3 0 [] k sz rows)
def b8.len{v}{r}(h:b8 v r):F r=4:=by cases h<;>rfl
def iO{k n}{s}{t}{sz}{rows}:(U.agg (ar k n s t sz rows)).bG=J (ar k n s t sz rows):=rfl
def b8.cells{v}{r}(h:b8 v r):(U.agg r).bG=J r:=by cases h<;>rfl
def EJ:Tryz.f210.results.toList=[.tmp 2,.tmp 3]:=am
def Ki:fx aa 118=J V:=am
def mU:cB aa 118=J 4:=am
def QW:fx aa 116=J ai:=am
def ag9:fx aa 9=J ai:=am
def ag4:fx aa 4=J ai:=am
def asO:cB aa 262=J 4:=am
section
variable {H:Heap} {b:Nat} {k n:Int} {s:List UInt8} {t:Tok} {sz:Nat} {rows:List (List U)}
def pq(d:H.boxes[b]?=J (ar k n s t sz rows)):aD aa Gt H 3 (.ptr (.box b) 0)=J (.v (.int .i64 k)):=by rw[fe dS d];rfl
def rF(d:H.boxes[b]?=J (ar k n s t sz rows)):aD aa Gt H 3 (.ptr (.box b) 1)=J (.v (.int .i64 n)):=by rw[fe dS d];rfl
def qa(d:H.boxes[b]?=J (ar k n s t sz rows)):aD aa Gt H 9 (.ptr (.box b) 2)=J (.v (.string (bs s))):=by rw[fe ag9 d];rfl
def jv(d:H.boxes[b]?=J (ar k n s t sz rows)):aD aa Gt H 116 (.ptr (.box b) 3)=J (.list t sz rows):=by rw[fe QW d];rfl
def mQ{r:List U}(g:F r=4)(d:H.boxes[b]?=J r):aD aa Gt H 118 (.ptr (.box b) 0)=J (.agg r):=by rw[fC Ki mU d M,gw,<-g,fB]
end
def dU:(∀b,dQ aa 118 (.ptr (.box b) 0) 0=J (.ptr (.box b) 0))/\(∀b,dQ aa 118 (.ptr (.box b) 0) 1=J (.ptr (.box b) 1))/\(∀b,dQ aa 118 (.ptr (.box b) 0) 2=J (.ptr (.box b) 2))/\∀b,dQ aa 118 (.ptr (.box b) 0) 3=J (.ptr (.box b) 3):=⟨λ_=>am,λ_=>am,λ_=>am,λ_=>am⟩
def b4(a b c:Bool):List U:=[.v (.bool ai),.v (.bool a),.v (.bool b),.v (.bool c)]
def Kr(a b c):iy aa 262 [(1,.v (.bool a)),(2,.v (.bool b)),(3,.v (.bool c))]=J (.agg (b4 a b c)):=am
def auc:(fM aa 262).bind U.bG=J (b4 ai ai ai):=am
def sd:(fM aa 118).bind U.bG=J (ar 0 0 [] .nil 0 []):=am
def OZ(H:Heap)(a b c):bY aa (H.push (b4 ai ai ai)) 262 (.ptr (.box (F H.boxes)) 0) (.agg (b4 a b c))=J (H.push (b4 a b c)):=kL O asO O rfl
def M9{b n}{k}(m:n<4):dH aa 262 (.ptr (.box b) 0) (.v (.int k (n:Nat)))=J (.ptr (.box b) n):=by have g:aa.underlying 262=J (.array 4 4):=Tryz.underlying262;have d:cB aa 4=J 1:=am;unfold dH;simp only[g,d];rw[av ⟨M,by omega⟩];simp
def M_{b}:dH aa 262 (.ptr (.box b) 0) (.v (.int .i64 1))=J (.ptr (.box b) 1)/\dH aa 262 (.ptr (.box b) 0) (.v (.int .i64 2))=J (.ptr (.box b) 2)/\dH aa 262 (.ptr (.box b) 0) (.v (.int .i64 3))=J (.ptr (.box b) 3):=⟨M9 (n:=1) aY,M9 (n:=2) aY,M9 (n:=3) aY⟩
def ldb{H}{b}{x y z}(d:H.boxes[b]?=J (b4 x y z)):aD aa Gt H 4 (.ptr (.box b) 1)=J (.v (.bool x))/\aD aa Gt H 4 (.ptr (.box b) 2)=J (.v (.bool y))/\aD aa Gt H 4 (.ptr (.box b) 3)=J (.v (.bool z)):=by refine⟨?_,?_,?_⟩<;>(rw[fe ag4 d];rfl)
def Nb{H:Heap}{x}{p q r}:aD aa Gt ((H.push x).push (b4 p q r)) 4 (.ptr (.box (F (H.push x).boxes)) 1)=J (.v (.bool p))/\aD aa Gt ((H.push x).push (b4 p q r)) 4 (.ptr (.box (F (H.push x).boxes)) 2)=J (.v (.bool q))/\aD aa Gt ((H.push x).push (b4 p q r)) 4 (.ptr (.box (F (H.push x).boxes)) 3)=J (.v (.bool r)):=ldb (aK _ _)
def Pc{H:Heap}{v}{r}(d:b8 v r):bY aa (H.push (ar 0 0 [] .nil 0 [])) 118 (.ptr (.box (F H.boxes)) 0) (.agg r)=J (H.push r):=kL d.cells mU d.len rfl
def D1{H}{rows}{i}{r}(d:F r=4)(g:rows[i]?=J r):aD aa Gt H 118 (.elem 4 rows i 0)=J (.agg r):=by rw[D_ Ki mU g M,gw,<-d,fB]
def KS:∀l m:List Vl,fO (l++m)=max (fO l) (fO m)
 | [],m=>by simp[fO]
 |v::l,m=>by rw[eu,fO,fO,KS l m,Nat.max_assoc]
def KT{l:List Vl}{i}{v}(h:l[i]?=J v):fO (l.take (i+1))=max (fO (l.take i)) (fg v):=by rw[fY h,KS];simp[fO]
def KU(l)(i):fO (l.take i)<=fO l:=by have:=KS (l.take i) (l.drop i);rw[pG]at this;omega
def Sk{l}{i:Nat}{v}(h:l[i]?=J v):fg v<=fO l:=by have d:=KT h;have h2:=KU l (i+1);omega
def ags{v:Vl}{r:List U}(m:b8 v r):fg v<=100->∀h,∃h',W1.call 210 [.agg r] h=J (.ret (.tuple [.v (.int .i64 (fg v:Nat)),.v (.bool V)]),h')/\Ext h h':=by
 have u9:=zT;have u94:=kY;have z1:=auc
 induction m with
 |int n hn=>
  intro _ h;refine gy O QC O ?_;show bC _ _ _ _ (wy _ _ _ _ (.ret (.tuple [.v (.int .i64 0),.v (.bool V)])) _)
  repeat' (first|simp(maxSteps:=9999999) (disch:=first|exact dZ|fail) only[gW,reduceIte,aJ,aB,EJ,Kr,OZ,iO,pq,rF,qa,jv,M_,dU,Nb,fQ,qm,decide_true, *]|refine dX ?_ ?_<;>(intro _;try omega))
  all_goals exact⟨_,O,(Ext.push _ _).trans (Ext.push _ _)⟩
 |text s y=>
  intro _ h;refine gy O QC O ?_;show bC _ _ _ _ (wy _ _ _ _ (.ret (.tuple [.v (.int .i64 0),.v (.bool V)])) _)
  repeat' (first|simp(maxSteps:=9999999) (disch:=first|exact dZ|fail) only[gW,reduceIte,aJ,aB,EJ,Kr,OZ,iO,pq,rF,qa,jv,M_,dU,Nb,fQ,qm,decide_true, *]|refine dX ?_ ?_<;>(intro _;try omega))
  all_goals exact⟨_,O,(Ext.push _ _).trans (Ext.push _ _)⟩
 |list l k sz rows B y hm g C=>
  intro u h;have E:=ae.mk u;have kr:=ae.mk g;have N:=ae.mk C;have kh:=ae.mk y;have R:=ae.mk B;refine gy O QC O ?_;clear g C y u B;by_cases h0:(F rows:Int)=0
  all_goals
   repeat' (first|simp(maxSteps:=9999999) (disch:=first|exact dZ|fail) only[gW,reduceIte,aJ,aB,EJ,Kr,OZ,iO,pq,rF,qa,jv,M_,dU,Nb,qm,decide_true, *]|refine dX ?_ ?_<;>(intro _;try omega))
   refine b9 (λz0 e H=>∃i:Nat,i<=F rows/\z0=F rows-i/\e.get 55=.list k sz rows/\e.get 56=.v (.int .i64 (F rows:Nat))/\e.get 57=.v (.int .i64 i)/\e.get 2=.v (.int .i64 (fO (l.take i):Nat))/\e.defers=[]/\Ext h H) ?_ (F rows) _ _ ?_;rotate_left 1
   .refine⟨0,bV _,O,?_,?_,?_,?_,?_,(Ext.push _ _).trans (Ext.push _ _)⟩<;>(first|assumption|(simp only[gW,reduceIte,aJ,aB]<;>first|rfl|(rw[h0])))
   rintro z0 e H ⟨i,hi,rfl,g55,g56,g57,Z,u,A⟩;have z:=ae.mk A;clear A;by_cases q:i<F rows
   .obtain⟨r,g⟩:∃r,rows[i]?=J r:=⟨_,aN q⟩;obtain⟨v,m⟩:∃v,l[i]?=J v:=⟨_,aN (by have:=R.out;omega)⟩;have d:=kr.out i v r m g;have h4:sz=4:=kh.out (by rintro rfl;simp at q);subst h4;have p:fg (.list l)=fO l+1:=rfl;have hdv:=Sk m;have hdt:=KU l i;have o:=E.out;obtain⟨H2,c1,X⟩:=N.out i v r m g M (H.push r);have ld:=D1 (H:=H) d.len g;have st:=Pc (H:=H) d;have l2:aD aa Gt (H.push r) 118 (.ptr (.box (F H.boxes)) 0)=J (.agg r):=mQ d.len (aK _ _);have zz:=sd;have s96:=mU;have D:=ae.mk (z.out.trans ((Ext.push H r).trans X));have T:=ae.mk (KT m);have GL:(i:Int)<(F rows:Int):=(by omega);clear z d m g X p o;have hmx:(if ((fO (l.take i):Nat):Int)<((fg v:Nat):Int) then ((fg v:Nat):Int) else ((fO (l.take i):Nat):Int))=((max (fO (l.take i)) (fg v):Nat):Int):=by split<;>omega
    repeat' (first|simp(maxSteps:=9999999) (disch:=first|exact dZ|fail) only[gW,reduceIte,aJ,aB,EJ,aT,yX, *]|refine dX ?_ ?_<;>(intro _;try omega))
    all_goals exact⟨F rows-(i+1),by omega,i+1,by omega,O,by trivial,by trivial,by simp,by rw[T.out],by trivial,D.out⟩
   .have:i=F rows:=(by omega);subst this;have o:=E.out;have Y:l.take (F rows)=l:=(by rw[R.out];exact fB);rw[Y]at Z;have p:fg (.list l)=fO l+1:=rfl;rw[p]at o ⊢;have e2:((fO l+1:Nat):Int)=((fO l:Nat):Int)+1:=by omega
    repeat' (first|simp(maxSteps:=9999999) (disch:=first|exact dZ|fail) only[gW,reduceIte,aJ,aB,EJ, *]|refine dX ?_ ?_<;>(intro _;try omega))
    all_goals exact⟨_,O,z.out⟩
def OA:Tryz.f212.results.toList=[.tmp 4]:=am
def Kk{H}{k}{n0 sz}{es new}{x}{t1}(o:(∃e,aa.underlying t1=J (.slice e))∨aa.underlying t1=J .string)(v:jx H 1 x=J (bI new))(g:new≠[])(q:F es+F new<=8796093022208)(u:sz=1∨(es=[]/\k=.nil))(p:db n0 H k):
 gb aa H #[60,t1] (.list k sz (bI es)) x=J (.list (.free H.tn) 1 (bI (es++new)),H.app k):=by
 obtain⟨i,y,d,z,A⟩:=A0;have B:=ji q z;have:=zX (t0:=60) (n0:=n0) (i:=i) (sz:=sz) (es:=bI es) (new:=bI new) k_ o y M (by rw[d];exact A) (by rw[d];exact v) (by simpa using g)
  (by rw[br,br];omega) (by rw[br,br];omega) (u.imp (λm=>m.trans d.symm) λm=>⟨by rw[m.1];rfl,m.2⟩) p
 rw[this,d];simp[bI]
def CG{H}{k N}{n0 sz}{es}{c}(m:F es<8796093022208)(g:sz=1∨(es=[]/\k=.nil))(d:db n0 H k):
 gb aa H #[60,60] (.list k sz (bI es)) (.list N 1 [[cP c]])=J (.list (.free H.tn) 1 (bI (es++[c])),H.app k):=
 Kk (new:=[c]) (.inl ⟨_,k_⟩) O b7 (by simp;omega) g d
def xI(c):ff aa 60 1 [(0,cP c)]=J (.list .tight 1 [[cP c]]):=am
def alH(c):c%256|||128=c%128+128:=by
 have h:∀d:Fin 256,(d.val|||128)=d.val%128+128:=by decide+kernel
 have:=h ⟨c%256,jU _ aY⟩;simp only at this;rw[this];omega
def alI{t}{x y}(c):cy aa .or t x y (.v (.int .u8 (IntKind.u8.wrap (c:Nat)))) (.v (.int .u8 128))=J (cP (UInt8.ofNat (c%128+128))):=by
 have o:IntKind.u8.wrap ((c:Nat):Int)=((c%256:Nat):Int):=by unfold IntKind.wrap;simp[IntKind.signed,IntKind.bits]
 have m:(UInt8.ofNat (c%128+128)).toNat=c%128+128:=by have:(UInt8.ofNat (c%128+128)).toNat=(c%128+128)%256:=UInt8.toNat_ofNat';omega
 unfold cP;rw[o,Kv,m];congr 3;have d:BitVec.ofInt IntKind.u8.bits ((c%256:Nat):Int)=BitVec.ofNat 8 (c%256):=by apply BitVec.eq_of_toNat_eq;show(BitVec.ofInt 8 ((c%256:Nat):Int)).toNat=(BitVec.ofNat 8 (c%256)).toNat;rw[BitVec.toNat_ofInt,BitVec.toNat_ofNat];omega
 have g:(BitVec.ofInt IntKind.u8.bits ((c%256:Nat):Int)|||BitVec.ofInt IntKind.u8.bits 128).toNat=c%128+128:=by rw[d];show(BitVec.ofNat 8 (c%256)|||128#8).toNat=_;rw[BitVec.toNat_or,BitVec.toNat_ofNat,mA (M:c%256<2^8)];exact alH c
 rw[g,K7 M M]
def arp{t}{x y}{n}:cy aa .shr t x y (.v (.int .u64 (n:Nat))) (.v (.int .u64 7))=J (.v (.int .u64 ((n/128:Nat):Int))):=by rw[z_ aY];congr 3;show((n:Nat):Int).fdiv (2^7)=_;rw[PM _ aY];simp
def hw:∀(k u:Nat),F (eP k u)<=k+1
 |0,u=>by simp[eP]
 |k+1,u=>by
  rw[eP];split
  .simp
  .have:=hw k (u/128);simp;omega
def NL(u:Nat)(Y:u<18446744073709551616)(es:List UInt8)(k:Tok)(sz n0:Nat)(h:Heap)(X:c_ h=V)(R:db n0 h k)(T:n0<=h.tn)(v:sz=1∨(es=[]/\k=.nil))(hl:F es<=1099511627776):
 ∃r h',W1.call 212 [.list k sz (bI es),.v (.int .u64 (u:Nat))] h=J (r,h')/\∃t,r=.ret (.list t 1 (bI (es++eP 9 u)))/\Grown n0 h h' t:=by
 have q:=ae.mk (Grown.refl R X);clear R X;refine bL O Tryz.func212 O ?_;refine bg @OA ?_;refine b9 (λm e H=>∃(j:Nat) (t:Tok) (d:List UInt8) (s:Nat),j<=9/\m<2*128^j/\d++eP j m=es++eP 9 u/\F d+j=F es+9/\(s=1∨(d=[]/\t=.nil))/\e.get 0=.list t s (bI d)/\e.get 1=.v (.int .u64 (m:Nat))/\e.defers=[]/\Grown n0 h H t) ?_ u _ _ ?_;rotate_left 1
 .exact⟨9,k,es,sz,aV _,by simpa using Y,O,O,v,by exact gR,by exact gR,by exact gR,q.out⟩
 clear q Y;rintro m e H ⟨j,t,d,s,hj,C,o,eI,v,g0,g1,hd,B⟩;have q:=ae.mk B;have z:=ae.mk B.can;clear B;by_cases p:m<128
 .have g:=Wo (k:=j) p;rw[g]at o;have Z:cP (UInt8.ofNat m)=.v (.int .u8 ((m:Nat):Int)):=by have:(UInt8.ofNat m).toNat=m%256:=UInt8.toNat_ofNat';unfold cP;rw[this,mA M]
  have E:¬((128:Int)<=((m:Nat):Int)):=by omega
  have A:=CG (N:=.tight) (c:=UInt8.ofNat m) (M:F d<8796093022208) v z.out;rw[o]at A;have D:=xI (UInt8.ofNat m);rw[Z]at A D;clear C p g o Z;refine bE @OA @CT ?_;exact⟨_,_,O,_,O,q.out.app T⟩
 .obtain⟨y,rfl⟩:∃y,j=y+1:=⟨j-1,by
   rcases j with _|j
   .omega
   .omega⟩
  have g:=Wp (k:=y) (M:128<=m);rw[g]at o;have E:(128:Int)<=((m:Nat):Int):=by omega
  have D:=xI (UInt8.ofNat (m%128+128));have A:=CG (N:=.tight) (c:=UInt8.ofNat (m%128+128)) (M:F d<8796093022208) v z.out;have kq:=ae.mk o;have km:=ae.mk C;clear g o C;refine bA @OA @CT @alI @arp ?_;refine⟨m/128,by omega,y,.free H.tn,d++[UInt8.ofNat (m%128+128)],1,by omega,?_,?_,by simp;omega,.inl O,by trivial,by trivial,by trivial,q.out.app T⟩
  .have:=km.out;rw[xC]at this;omega
  .rw[iE];exact kq.out
def apR:Tryz.f146.results.toList=[.tmp 0]:=am
def Oy:Tryz.f211.results.toList=[.tmp 4]:=am
def OB:Tryz.f214.results.toList=[.tmp 4]:=am
def BH:Tryz.f215.results.toList=[.tmp 5]:=am
def gd:U:=.v .nilFunc
def r8(a:Nat):List U:=[gd,.func (.func 211) [] [],.func (.func 214) [] [],.func (.func 215) [] [.ptr (.box a) 0]]
def asL:cB aa 181=J 1:=am
def abN:fx aa 181=J ai:=am
def abO:fx aa 184=J ai:=am
def asM:cB aa 184=J 1:=am
def acA:iy aa 236 []=J (.agg [gd,gd,gd,gd]):=am
def at8:(fM aa 184).bind U.bG=J [.v (.pointer af)]:=am
def Ho{b n}{k}(g:n<4):dH aa 236 (.ptr (.box b) 0) (.v (.int k (n:Nat)))=J (.ptr (.box b) n):=by have d:aa.underlying 236=J (.array 4 183):=Tryz.underlying236;have sz:cB aa 183=J 1:=am;unfold dH;simp only[d,sz];rw[av ⟨M,by omega⟩];simp
def ixw{b}:dH aa 236 (.ptr (.box b) 0) (.v (.int .i64 1))=J (.ptr (.box b) 1)/\dH aa 236 (.ptr (.box b) 0) (.v (.int .i64 2))=J (.ptr (.box b) 2)/\dH aa 236 (.ptr (.box b) 0) (.v (.int .i64 3))=J (.ptr (.box b) 3):=⟨Ho (n:=1) aY,Ho (n:=2) aY,Ho (n:=3) aY⟩
def xV{r}{o}:dQ aa 183 (.ptr r o) 0=J (.ptr r o):=am
def stw{h:Heap}{c q}{k}{f}{a b}(d:F c=4)(g:k<4):bY aa ((h.push c).push q) 181 (.ptr (.box (F h.boxes)) k) (.func f a b)=J ((h.push (c.set k (.func f a b))).push q):=by rw[fE (xs:=[.func f a b]) O asL (aM (aK _ _)) O M];congr 1;rw[am1 (by rw[bF];omega),lO];congr 2;unfold dC;rw[xz,av M];simp
def VA{H}{a b}(d:H.boxes[a]?=J [.ptr (.box b) 0]):aD aa Gt H 184 (.ptr (.box a) 0)=J (.ptr (.box b) 0):=by rw[fe abO d];rfl
def ajY{h:Heap}{c}:aD aa Gt ((h.push c).push [.ptr (.box (F h.boxes)) 0]) 184 (.ptr (.box (F (h.push [gd,gd,gd,gd]).boxes)) 0)=J (.ptr (.box (F h.boxes)) 0):=by refine VA ?_;rw[bF,<-bF h c];exact aK _ _
def arS{H:Heap}{b}:bY aa (H.push [.v (.pointer af)]) 184 (.ptr (.box (F H.boxes)) 0) (.ptr (.box b) 0)=J (H.push [.ptr (.box b) 0]):=kL O asM O rfl
def at3(h:Heap):W1.call 146 [] h=J (.ret (.ptr (.box (F h.boxes)) 0),(h.push (r8 (F h.boxes+1))).push [.ptr (.box (F h.boxes)) 0]):=by
 have p:=at8;have d:(U.agg [gd,gd,gd,gd]).bG=J [gd,gd,gd,gd]:=rfl;have e:r8 (F h.boxes+1)=(([gd,gd,gd,gd].set 1 (.func (.func 211) [] [])).set 2 (.func (.func 214) [] [])).set 3 (.func (.func 215) [] [.ptr (.box (F (h.push [gd,gd,gd,gd]).boxes)) 0]):=by rw[bF];rfl
 rw[e];have g:F [gd,gd,gd,gd]=4:=rfl;have m:F ([gd,gd,gd,gd].set 1 (.func (.func 211) [] []))=4:=rfl;have o:F (([gd,gd,gd,gd].set 1 (.func (.func 211) [] [])).set 2 (.func (.func 214) [] []))=4:=rfl;refine cq O Tryz.func146 O ?_;exact jb @apR @acA @arS (aj @ajY (aj @ixw (aj @xV @stw)))
def E8:Vl->aQ
 | .int _=>211
 | .text _=>214
 | .list _=>215
def E7(a:Nat):Vl->List U
 | .list _=>[.ptr (.box a) 0]
 |_=>[]
def oQ:ff aa 60 1 [(0,.v (.int .u8 1))]=J (.list .tight 1 [[cP 1]])/\ff aa 60 1 [(0,.v (.int .u8 2))]=J (.list .tight 1 [[cP 2]])/\ff aa 60 1 [(0,.v (.int .u8 3))]=J (.list .tight 1 [[cP 3]]):=⟨xI 1,xI 2,xI 3⟩
def at1(n:Nat)(C:n<=4611686018427387903)(es:List UInt8)(k:Tok)(sz n0:Nat)(H:Heap)(q:c_ H=V)(p:db n0 H k)(h0:n0<=H.tn)(y:sz=1∨(es=[]/\k=.nil))(X:F es<=1099511627000):
 ∃A H',W1.call 211 [.list k sz (bI es),.agg (ar 1 (n:Nat) [] .nil 0 [])] H=J (A,H')/\∃t,A=.ret (.list t 1 (bI (es++cA (.int (n:Nat)))))/\Grown n0 H H' t:=by
 have g:Grown n0 H (H.push (ar 1 (n:Nat) [] .nil 0 [])) k:=(Grown.refl p q).push _;have R:=CG (H:=H.push (ar 1 (n:Nat) [] .nil 0 [])) (N:=.tight) (c:=1) (M:F es<8796093022208) y g.can;have d:=g.app h0;have z:g_ ((n:Nat):Int)<18446744073709551616:=by unfold g_;rw[av M];omega
 obtain⟨Y,E,B,t3,rfl,o⟩:=NL (g_ ((n:Nat):Int)) z (es++[1]) _ 1 n0 _ d.ok d.can (eS h0 d.tn) (.inl O) (by simp;omega);have D:=ae.mk (d.trans o);have m:es++[1]++eP 9 (g_ ((n:Nat):Int))=es++cA (.int (n:Nat)):=by rw[cA];simp
 rw[m]at B;clear g d o q p y m z;refine bL O Tryz.func211 O ?_;have T:=atu n C;refine bA @Oy @oQ @iO (aj @rF (aj @dU @dP)) ?_;refine iC [(2,4)] Aa am (λZ u=>?_) ?_
 .simp only[hY]at u;subst u;refine jP (x:=.ptr (.box (F H.boxes)) 1) (v:=.v (.int .i64 (n:Nat))) am O O O am (by simp[cH,gH]) ?_ ?_<;>(simp only[dw,cX];exact jb @Oy @oQ @iO (aj @rF (aj @dU (aj @dP @and_self))))
 refine bA @Oy @oQ @iO (aj @rF (aj @dU @dP)) ?_;exact⟨_,_,O,_,O,D.out⟩
def Wn(H)(s):jx H 1 (.v (.string (bs s)))=J (bI s):=by unfold jx;simp[bs]
def Q2{H}{k}{n0}{es s}(p:F es+F s<=8796093022208)(d:db n0 H k)(m:c_ H=V)(q:n0<=H.tn):
 ∃t H',gb aa H #[60,9] (.list k 1 (bI es)) (.v (.string (bs s)))=J (.list t 1 (bI (es++s)),H')/\Grown n0 H H' t:=by
 by_cases o:s=[]
 .subst o;obtain⟨i,u,g,y,v⟩:=A0;refine⟨k,H,?_,Grown.refl d m⟩;rw[ab9 k_ (.inr zT) u M (by rw[g];exact v) (by rw[g];exact Wn H []) (.inl g.symm),ga]
 .exact⟨_,_,Kk (.inr zT) (Wn H s) o p (.inl O) d,Grown.one d m q⟩
def YN(s):dK aa 9 (.v (.string (bs s)))=J (.v (.int .i64 (F s:Nat))):=by rw[VP zT,xL]
def at2(s:List UInt8)(Y:F s<=1099511620000)(es:List UInt8)(k:Tok)(sz n0:Nat)(H:Heap)(C:c_ H=V)(B:db n0 H k)(h0:n0<=H.tn)(E:sz=1∨(es=[]/\k=.nil))(hl:F es<=1099511627000):
 ∃R H',W1.call 214 [.list k sz (bI es),.agg (ar 2 0 s .nil 0 [])] H=J (R,H')/\∃t,R=.ret (.list t 1 (bI (es++cA (.text s))))/\Grown n0 H H' t:=by
 have p:Grown n0 H (H.push (ar 2 0 s .nil 0 [])) k:=(Grown.refl B C).push _;have ap:=CG (H:=H.push (ar 2 0 s .nil 0 [])) (N:=.tight) (c:=2) (M:F es<8796093022208) E p.can;have d:=p.app h0;obtain⟨r3,T,c3,t3,rfl,g⟩:=NL (F s) M (es++[2]) _ 1 n0 _ d.ok d.can (eS h0 d.tn) (.inl O) (by simp;omega);have y:=d.trans g;have nl:=hw 9 (F s);obtain⟨t4,Z,q,z⟩:=Q2 (es:=es++[2]++eP 9 (F s)) (s:=s) (by simp;omega) g.can g.ok (eS h0 (eS d.tn g.tn));have X:=ae.mk (y.trans z);have u:es++[2]++eP 9 (F s)++s=es++cA (.text s):=by rw[cA];simp
 rw[u]at q;have m:(H.push (ar 2 0 s .nil 0 [])).boxes[H.boxes.length]?=J (ar 2 0 s .nil 0 []):=aK _ _;have o:((H.push (ar 2 0 s .nil 0 [])).app k).boxes[H.boxes.length]?=J (ar 2 0 s .nil 0 []):=by rw[dP];exact m
 have b3:T.boxes[H.boxes.length]?=J (ar 2 0 s .nil 0 []):=g.box _ _ o;have l1:=qa o;have l3:=qa b3;have l0:=qa m;have sl:=YN s;have A:=vM (n:=s.length) M;clear p d g y z C B E u m o b3 nl;refine bL O Tryz.func214 O ?_;refine bA @OB @oQ @iO (aj @dU @oW) ?_;refine iC [(2,4),(2,9),(7,9)] Aa am (λz0 D=>?_) ?_
 .simp only[gL,qp,or_false]at D;rcases D with rfl|rfl|rfl
  all_goals
   refine jP (x:=.ptr (.box (F H.boxes)) 2) (v:=.v (.string (bs s))) am O O O am (by simp[cH,gH]) ?_ ?_<;>(simp only[dw,cX];exact jb @OB @oQ @iO (aj @dU (aj @oW @and_self)))
 refine bA @OB @oQ @iO (aj @dU @oW) ?_;exact⟨_,_,O,_,O,X.out⟩
def yP:Vl->Nat
 | .int _=>1
 | .text _=>2
 | .list _=>3
def Nd{H}{x}{v}{r}(g:b8 v r)(d:H.boxes[x]?=J r):aD aa Gt H 3 (.ptr (.box x) 0)=J (.v (.int .i64 (yP v:Nat))):=by cases g<;>exact pq d
def DZ{b}{v}:dH aa 236 (.ptr (.box b) 0) (.v (.int .i64 (yP v:Nat)))=J (.ptr (.box b) (yP v)):=by exact Ho (by cases v<;>simp[yP])
def Nc{H}{a b}{v}(d:H.boxes[b]?=J (r8 a)):aD aa Gt H 181 (.ptr (.box b) (yP v))=J (.func (.func (E8 v)) [] (E7 a v)):=by rw[fe abN d];cases v<;>rfl
def Sy{l:List Vl}{i}{v}(h:l[i]?=J v):fU (l.take (i+1))=fU (l.take i)++cA v:=by rw[fY h,Sw];simp[fU]
def Sx(l)(i):F (fU (l.take i))<=F (fU l):=by have:=Sw (l.take i) (l.drop i);rw[pG]at this;rw[this,cg];omega
mutual
def OT(v:Vl):∀r,b8 v r->fL r r=V:=by
 intro r h;cases h with|int n p=>simp[ar,fL,cH,gH,I,sv,qU,ml]|text s m=>simp[ar,fL,cH,gH,I,sv,qU,ml]|list l k sz rows d m o g=>have:=OU l rows d g;simp[ar,fL,cH,gH,I,sv,this];cases k<;>simp[qU]
def OU(l:List Vl):∀rows:List (List U),F rows=F l->(∀(i:Nat) v r,l[i]?=J v->rows[i]?=J r->b8 v r)->ml rows rows=V:=by
 intro rows d h
 match l,rows,d,h with
 | [],[],_,_=>rfl
 |v::l,r::rows,d,h=>rw[ml,OT v r (h 0 v r O O),OU l rows (by simpa using d) λi v r m g=>h (i+1) v r (by simpa using m) (by simpa using g)];rfl
end
def atZ{v:Vl}{r:List U}(T:b8 v r):∀(a b:Nat) (es:List UInt8) (k:Tok) (sz n0:Nat) (H:Heap),H.boxes[a]?=J [.ptr (.box b) 0]->H.boxes[b]?=J (r8 a)->c_ H=V->db n0 H k->n0<=H.tn->(sz=1∨(es=[]/\k=.nil))->F es+F (cA v)<=1099511627000->
 ∃r' H',W1.call (E8 v) (.list k sz (bI es)::.agg r::E7 a v) H=J (r',H')/\∃t,r'=.ret (.list t 1 (bI (es++cA v)))/\Grown n0 H H' t:=by
 induction T with
 |int n hn=>intro a b es k sz n0 H _ _ E D h0 R u;obtain⟨z0,rfl⟩:∃z0:Nat,n=z0:=⟨n.toNat,by omega⟩;exact at1 z0 M es k sz n0 H E D h0 R M
 |text s z=>intro a b es k sz n0 H _ _ E D h0 R u;exact at2 s z es k sz n0 H E D h0 R M|list l g d rows y z hm p ih=>
  intro a b es k sz n0 H ha hb E D h0 R u;have sr:=OU l rows y p;have kr:=ae.mk p;have kih:=ae.mk ih;have ksl:=ae.mk z;have kll:=ae.mk y;have Z:cA (.list l)=3::(eP 9 (F l)++fU l):=by rw[cA]
  rw[Z]at u ⊢;have g1:Grown n0 H (H.push (ar 3 0 [] g d rows)) k:=(Grown.refl D E).push _;have ap:=CG (H:=H.push (ar 3 0 [] g d rows)) (N:=.tight) (c:=3) (M:F es<8796093022208) R g1.can;have B:=g1.app h0;simp only[dY,cg]at u;obtain⟨r3,H3,c3,t3,rfl,C⟩:=NL (F l) M (es++[3]) _ 1 n0 _ B.ok B.can (eS h0 B.tn) (.inl O) (by simp;omega);have g4:=B.trans C;have b0:(H.push (ar 3 0 [] g d rows)).boxes[H.boxes.length]?=J (ar 3 0 [] g d rows):=aK _ _;have b1:((H.push (ar 3 0 [] g d rows)).app k).boxes[H.boxes.length]?=J (ar 3 0 [] g d rows):=by rw[dP];exact b0
  have b3:H3.boxes[H.boxes.length]?=J (ar 3 0 [] g d rows):=C.box _ _ b1;have l0:=jv b0;have l1:=jv b1;have l3:=jv b3;have u94:=kY;have A:=vM (n:=l.length) M;have GL:((F rows:Nat):Int)=((F l:Nat):Int):=by rw[y]
  have X:=ae.mk g4;have kha:=ae.mk ha;have khb:=ae.mk hb;have kl2:=ae.mk u;have sv0:cH (.list g d rows) (.list g d rows)=V:=by rw[cH,sr,Bool.and_true];cases g<;>simp[qU]
  clear g1 B C g4 E D R b0 b1 b3 p ih z y sr ha hb u;show ∃r' H',W1.call 215 [.list k sz (bI es),.agg (ar 3 0 [] g d rows),.ptr (.box a) 0] H=J (r',H')/\_;refine bL O Tryz.func215 O ?_;refine bA @BH @oQ @iO (aj @dU @oW) ?_;refine iC [(2,4)] Aa am (λz1 hp=>?_) ?_
  .simp only[hY]at hp;subst hp;refine jP (x:=.ptr (.box (F H.boxes)) 3) (v:=.list g d rows) am O O O am (sv0) ?_ ?_<;>(simp only[dw,cX];exact jb @BH @oQ @iO (aj @dU (aj @oW @and_self)))
  refine bA @BH @oQ @iO (aj @dU @oW) ?_;refine b9 (λz0 e q=>∃(i:Nat) (t:Tok),i<=F l/\z0=F l-i/\e.get 0=.list t 1 (bI (es++[3]++eP 9 (F l)++fU (l.take i)))/\e.get 2=.ptr (.box a) 0/\e.get 17=.list g d rows/\e.get 18=.v (.int .i64 (F l:Nat))/\e.get 19=.v (.int .i64 i)/\e.defers=[]/\Grown n0 H q t) ?_ (F l) _ _ ?_;rotate_left 1
  .refine⟨0,t3,bV _,O,?_,?_,?_,?_,?_,?_,X.out⟩<;>(first|assumption|(simp only[gW,reduceIte,aJ,aB,cX,fU,ga]<;>first|rfl|(rw[GL])))
  clear c3 ap l0 l1 l3 X A;rintro z0 e q ⟨i,t,hi,rfl,g0,B,g17,g18,g19,hd,hG⟩;have X:=ae.mk hG;clear hG;by_cases dj:i<F l
  .obtain⟨v,T⟩:∃v,l[i]?=J v:=⟨_,aN dj⟩;obtain⟨r,p⟩:∃r,rows[i]?=J r:=⟨_,aN M⟩;have m:=kr.out i v r T p;have h4:d=4:=ksl.out (by rintro rfl;simp at p);subst h4;have o:=X.out.push r;have Y:=Sy T;have el:=Sx l (i+1);rw[Y,cg]at el;have u:=kl2.out;have nl:=hw 9 (F l);obtain⟨r2,H2,c2,t2,rfl,C⟩:=kih.out i v r T p a b (es++[3]++eP 9 (F l)++fU (l.take i)) t 1 n0 (q.push r) (o.box _ _ kha.out) (o.box _ _ khb.out) o.ok o.can (eS h0 o.tn) (.inl O) (by simp;omega);rw[show es++[3]++eP 9 (F l)++fU (l.take i)++cA v=es++[3]++eP 9 (F l)++fU (l.take (i+1)) by rw[Y];simp]at c2;have kG2:=ae.mk (o.trans C);have ld:=D1 (H:=q) m.len p;have st:=Pc (H:=q) m;have l2:aD aa Gt (q.push r) 118 (.ptr (.box (F q.boxes)) 0)=J (.agg r):=mQ m.len (aK _ _);have l5:=Nd m (aK q r);have l6:=VA (o.box _ _ kha.out);have l7:=Nc (v:=v) (o.box _ _ khb.out);have ik:=DZ (b:=b) (v:=v);have zz:=sd;have s96:=mU;have auU:(i:Int)<(F rows:Int):=(by omega);generalize E8 v=fv at *
   generalize E7 a v=cv at *
   generalize yP v=kv at *
   clear o C Y el u nl T p m X;refine bA @BH @aT @dU @xV ?_;refine du Aa am ?_;refine bA @BH @aT @dU (aj @xV (aj @dM.{0} @eu.{0})) ?_;exact⟨F l-(i+1),by omega,i+1,t2,by omega,O,by trivial,by trivial,by trivial,by trivial,by simp,by trivial,kG2.out⟩
  .have:i=F l:=(by omega);subst this;rw[fB]at g0;have ee:es++[3]++eP 9 (F l)++fU l=es++3::(eP 9 (F l)++fU l):=(by simp);rw[ee]at g0;refine bg @BH ?_;exact⟨_,_,O,_,O,X.out⟩
def apQ:Tryz.f145.results.toList=[.tmp 2]:=am
def Iw:Tryz.f74.results.toList=[.tmp 2,.tmp 3]:=am
def aer{v:Vl}{r:List U}(d:b8 v r)(m:fg v<=16)(h:Heap):∃h',W1.call 145 [.agg r] h=J (.ret (I 0),h')/\Ext h h':=by
 obtain⟨y,q,g⟩:=ags d M (h.push r);have u:=d.cells;have z:=mQ d.len (aK h r);have o:=ae.mk ((Ext.push h r).trans g);have p:¬((16:Int)<((fg v:Nat):Int)):=by omega
 clear d g m;unfold I;refine gy O Tryz.func145 O ?_;refine bg @apQ ?_;exact⟨_,O,o.out⟩
def afJ{v:Vl}{r:List U}(g:b8 v r)(N:fg v<=16)(R:F (cA v)<=1099511627000)(h:Heap)(T:c_ h=V):
 ∃Y h',W1.call 74 [.agg r] h=J (Y,h')/\∃t,Y=.ret (.tuple [.list t 1 (bI (cA v)),.v (.int .i64 0)])/\Ext h h':=by
 obtain⟨d,c1,B⟩:=aer g N (h.push r);unfold I at c1;have o:=(Ext.push h r).trans B;have cs:=g.cells;have u:=aK h r;have m:=B.box _ _ u;have c2:=at3 d;have y:((d.push (r8 (F d.boxes+1))).push [.ptr (.box (F d.boxes)) 0]).boxes[h.boxes.length]?=J r:=aM (aM m);have z:((d.push (r8 (F d.boxes+1))).push [.ptr (.box (F d.boxes)) 0]).boxes[d.boxes.length]?=J (r8 (F d.boxes+1)):=aM (aK _ _);have C:((d.push (r8 (F d.boxes+1))).push [.ptr (.box (F d.boxes)) 0]).boxes[F d.boxes+1]?=J [.ptr (.box (F d.boxes)) 0]:=mJ (by rw[bF]);have x3:Ext d ((d.push (r8 (F d.boxes+1))).push [.ptr (.box (F d.boxes)) 0]):=(Ext.push _ _).trans (.push _ _);have q:=(o.trans x3).ok T;obtain⟨r4,h4,A,t,rfl,D⟩:=atZ g (F d.boxes+1) (F d.boxes) [] .nil 0 h.tn _ C z q (.inl O) (o.trans x3).tn (.inr ⟨O,O⟩) (by simpa using R);rw[dM]at A;have kX:=ae.mk (D.ext (o.trans x3) (aV _));have ld0:=mQ g.len u;have ld1:=mQ g.len m;have ld2:=mQ g.len y;have lk1:=Nd g m;have lk2:=Nd g y;have lf:=Nc (v:=v) z;have ik:=DZ (b:=d.boxes.length) (v:=v);have p:=OT v r g;have A:W1.call (E8 v) (.list .nil 0 []::.agg r::E7 (F d.boxes+1) v) ((d.push (r8 (F d.boxes+1))).push [.ptr (.box (F d.boxes)) 0])=J (.ret (.list t 1 (bI (cA v))),h4):=A;generalize E8 v=fv at *
 generalize E7 (F d.boxes+1) v=cv at *
 generalize hkv:yP v=kv at *
 generalize E:(d.push (r8 (F d.boxes+1))).push [.ptr (.box (F d.boxes)) 0]=H3 at *
 have Z:cH (.agg r) (.agg r)=V:=by rw[cH,p]
 clear g B N o u m y z C x3 q D T R p E;refine bL O Tryz.func74 O ?_;refine bA @Iw @dU @xV (aj @dM.{0} @eu.{0}) ?_;refine iC [(0,2),(0,7)] Aa am (λz0 X=>?_) ?_
 .simp only[gL,qp,or_false]at X;rcases X with rfl|rfl
  .refine jP (x:=.ptr (.box (F h.boxes)) 0) (v:=.v (.int .i64 (kv:Nat))) am O O O am (by simp[cH,gH]) ?_ ?_<;>(simp only[dw,cX];exact jb @Iw @dU @xV @and_self)
  .refine jP (x:=.ptr (.box (F h.boxes)) 0) (v:=.agg r) am O O O am (Z) ?_ ?_<;>(simp only[dw,cX];exact jb @Iw @dU @xV @and_self)
 refine bA @Iw @dU @xV (aj @dM.{0} @eu.{0}) ?_;exact⟨_,_,O,_,O,kX.out⟩
mutual
def b8.hold(v:Vl):∀r,b8 v r->b8 v (aZ r)/\aA 0 0 0 (aZ r)=V:=by
 intro r h;cases h with|int n p=>exact⟨.int n p,O⟩|text s d=>exact⟨.text s d,O⟩|list l k sz rows g d o q=>obtain⟨m,h2⟩:=b8.holds l rows g q;have e:aZ (ar 3 0 [] k sz rows)=ar 3 0 [] (bU k) sz (dk rows):=rfl;rw[e];refine⟨.list l _ sz _ (by rw[DH];exact g) (λy=>d λu=>y (by rw[u];rfl)) (by rw[DH];exact o) m,?_⟩;unfold ar;simp[aA,au,I,sv,ef,h2]
def b8.holds(l:List Vl):∀rows:List (List U),F rows=F l->(∀(i:Nat) v r,l[i]?=J v->rows[i]?=J r->b8 v r)->(∀(i:Nat) v r,l[i]?=J v->(dk rows)[i]?=J r->b8 v r)/\e_ 0 0 0 (dk rows)=V:=by
 intro rows m h
 match l,rows,m,h with
 | [],[],_,_=>exact⟨λi v r d=>by simp at d,O⟩
 |v::l,r::rows,m,h=>
  obtain⟨o,h2⟩:=b8.hold v r (h 0 v r O O);obtain⟨p,q⟩:=b8.holds l rows (by simpa using m) λi v r d g=>h (i+1) v r (by simpa using d) (by simpa using g);refine⟨λi y u d g=>?_,by rw[dk,e_,h2,q];rfl⟩;cases i with
  |zero=>injection d with d;injection g with g;subst d;subst g;exact o
  |succ i=>exact p i y u d g
end
def EE:Tryz.f225.results.toList=[.tmp 2]:=am
def EF:Tryz.f226.results.toList=[.tmp 2]:=am
def apM:Tryz.f172.results.toList=[.tmp 2]:=am
def an3{v:Vl}{r:List U}(o:b8 v r):∀h,∃h',W1.call 225 [.agg r] h=J (.ret (.v (.bool V)),h')/\Ext h h':=by
 have u9:=zT;have u94:=kY;have s96:=mU
 induction o with
 |int n hn=>
  intro h;refine gy O QD O ?_
  repeat' (first|simp(maxSteps:=9999999) (disch:=first|exact dZ|fail) only[gW,reduceIte,aJ,aB,EE,iO,pq,rF,qa,jv,dU,fQ,qm,decide_true, *]|refine dX ?_ ?_<;>(intro _;try omega))
  all_goals exact⟨_,O,Ext.push _ _⟩
 |text s q=>
  intro h;refine gy O QD O ?_
  repeat' (first|simp(maxSteps:=9999999) (disch:=first|exact dZ|fail) only[gW,reduceIte,aJ,aB,EE,iO,pq,rF,qa,jv,dU,fQ,qm,decide_true, *]|refine dX ?_ ?_<;>(intro _;try omega))
  all_goals exact⟨_,O,Ext.push _ _⟩
 |list l k sz rows A q hm d B=>
  intro h;have Y:=ae.mk d;have E:=ae.mk B;have T:=ae.mk q;have X:=ae.mk A;refine gy O QD O ?_;clear d B q A;refine bA @EE @iO @pq (aj @rF (aj @qa (aj @jv (aj @dU (aj @qm @decide_true))))) ?_;refine b9 (λz0 e H=>∃i:Nat,i<=F rows/\z0=F rows-i/\e.get 1=.ptr (.box (F h.boxes)) 0/\e.get 3=.v (.int .i64 i)/\e.defers=[]/\H.boxes[h.boxes.length]?=J (ar 3 0 [] k sz rows)/\Ext h H) ?_ (F rows) _ _ ?_;rotate_left 1
  .refine⟨0,bV _,O,?_,?_,?_,aK _ _,Ext.push _ _⟩<;>(first|assumption|(exact gR))
  rintro z0 e H ⟨i,hi,rfl,g1,g3,hd,g,z⟩;have u:=ae.mk z;have R:=ae.mk g;have l0:=pq g;have l1:=rF g;have l2:=qa g;have l3:=jv g;clear z g;by_cases p:i<F rows
  .obtain⟨r,d⟩:∃r,rows[i]?=J r:=⟨_,aN p⟩;obtain⟨v,o⟩:∃v,l[i]?=J v:=⟨_,aN (by have:=X.out;omega)⟩;have m:=Y.out i v r o d;have N:sz=4:=T.out (by rintro rfl;simp at p);subst N;obtain⟨H2,c1,y⟩:=E.out i v r o d H;have ld:=D1 (H:=H) m.len d;have C:=ae.mk (u.out.trans y);have D:=ae.mk (y.box _ _ R.out);have Z:(i:Int)<(F rows:Int):=(by omega);clear u m o d y;refine cK @EE @aT @dU ?_;exact⟨F rows-(i+1),by omega,i+1,by omega,O,by trivial,by simp,by trivial,D.out,C.out⟩
  .have:i=F rows:=(by omega);subst this;refine cK @EE @dU @decide_true ?_;exact⟨_,O,u.out⟩
def anE{v:Vl}{r:List U}(g:b8 v r):fg v<=100->∀h,∃h',W1.call 226 [.agg r] h=J (.ret (.v (.int .i64 (fg v:Nat))),h')/\Ext h h':=by
 have u9:=zT;have u94:=kY;have s96:=mU
 induction g with
 |int n hn=>intro _ h;refine gy O QE O ?_;show bC _ _ _ _ (wy _ _ _ _ (.ret (.v (.int .i64 0))) _);refine bA @EF @iO @pq @dU ?_;exact⟨_,O,Ext.push _ _⟩|text s y=>intro _ h;refine gy O QE O ?_;show bC _ _ _ _ (wy _ _ _ _ (.ret (.v (.int .i64 0))) _);refine bA @EF @iO @pq @dU ?_;exact⟨_,O,Ext.push _ _⟩|list l k sz rows D y hm d E=>
  intro u h;have kd:=ae.mk u;have kr:=ae.mk d;have T:=ae.mk E;have kh:=ae.mk y;have X:=ae.mk D;refine gy O QE O ?_;clear d E y D u;refine bA @EF @iO @pq @dU ?_;refine b9 (λz0 e H=>∃i:Nat,i<=F rows/\z0=F rows-i/\e.get 1=.ptr (.box (F h.boxes)) 0/\e.get 3=.v (.int .i64 (fO (l.take i):Nat))/\e.get 4=.v (.int .i64 i)/\e.defers=[]/\H.boxes[h.boxes.length]?=J (ar 3 0 [] k sz rows)/\Ext h H) ?_ (F rows) _ _ ?_;rotate_left 1
  .refine⟨0,bV _,O,?_,?_,?_,?_,aK _ _,Ext.push _ _⟩<;>(first|assumption|(exact gR))
  rintro z0 e H ⟨i,hi,rfl,g1,g3,g4,u,q,B⟩;have z:=ae.mk B;have kb:=ae.mk q;have l3:=jv q;have m:fg (.list l)=fO l+1:=rfl;have C:=kd.out;rw[m]at C;clear B q;by_cases p:i<F rows
  .obtain⟨r,d⟩:∃r,rows[i]?=J r:=⟨_,aN p⟩;obtain⟨v,g⟩:∃v,l[i]?=J v:=⟨_,aN (by have:=X.out;omega)⟩;have o:=kr.out i v r g d;have h4:sz=4:=kh.out (by rintro rfl;simp at p);subst h4;have hdv:=Sk g;have hdt:=KU l i;obtain⟨H2,c1,A⟩:=T.out i v r g d M H;have ld:=D1 (H:=H) o.len d;have N:=ae.mk (z.out.trans A);have R:=ae.mk (A.box _ _ kb.out);have Y:=ae.mk (KT g);have GL:(i:Int)<(F rows:Int):=(by omega);have hmx:(if ((fO (l.take i):Nat):Int)<((fg v:Nat):Int) then ((fg v:Nat):Int) else ((fO (l.take i):Nat):Int))=((max (fO (l.take i)) (fg v):Nat):Int):=(by split<;>omega);clear z o g d A m;refine bA @EF @aT @dU @yX ?_;exact⟨F rows-(i+1),by omega,i+1,by omega,O,by trivial,by rw[Y.out],by simp,by trivial,R.out,N.out⟩
  .have:i=F rows:=(by omega);subst this;have Z:l.take (F rows)=l:=(by rw[X.out];exact fB);rw[Z]at g3;rw[m];have e2:((fO l+1:Nat):Int)=((fO l:Nat):Int)+1:=(by omega);refine bE @EF @dU ?_;exact⟨_,O,z.out⟩
def anD{v:Vl}{r:List U}(d:b8 v r)(p:fg v<=16)(h:Heap):∃h',W1.call 172 [.agg r] h=J (.ret (I 0),h')/\Ext h h':=by
 obtain⟨o,z,g⟩:=an3 d (h.push r);obtain⟨h2,A,m⟩:=anE d M o;have B:=d.cells;have C:=mQ d.len (aK h r);have y:=mQ d.len (g.box _ _ (aK h r));have q:=ae.mk (((Ext.push h r).trans g).trans m);have u:¬((16:Int)<((fg v:Nat):Int)):=by omega
 clear d g m p;unfold I;refine gy O Tryz.func172 O ?_;refine bg @apM ?_;exact⟨_,O,q.out⟩
def XS:Tryz.f227.results.toList=[.tmp 2]:=am
def apS:Tryz.f228.results.toList=[.tmp 2]:=am
def zl:Tryz.f173.results.toList=[.tmp 2]:=am
def apz:Tryz.f100.results.toList=[.tmp 2,.tmp 3]:=am
def I8(c:Nat)(d:c<256):cP (UInt8.ofNat c)=.v (.int .u8 (c:Nat)):=by have:(UInt8.ofNat c).toNat=c%256:=UInt8.toNat_ofNat';unfold cP;rw[this,mA d]
def HB(k u):eP k u≠[]:=by
 cases k with|zero=>simp[eP]|succ k=>rw[eP];split<;>simp
def CH{H}{k t}{n0}{es new}(d:new≠[])(m:F es+F new<=8796093022208)(g:db n0 H k):
 gb aa H #[60,60] (.list k 1 (bI es)) (.list t 1 (bI new))=J (.list (.free H.tn) 1 (bI (es++new)),H.app k):=
 Kk (.inl ⟨_,k_⟩) Ef d m (.inl O) g
def Oi:∀(k u:Nat),k<=9->u<2*128^k->∀h,c_ h=V->∃r h',W1.call 227 [.v (.int .u64 (u:Nat))] h=J (r,h')/\∃t,r=.ret (.list t 1 (bI (eP k u)))/\Grown h.tn h h' t:=by
 have p:∀(k u:Nat),u<128->∀h,c_ h=V->∃r h',W1.call 227 [.v (.int .u64 (u:Nat))] h=J (r,h')/\∃t,r=.ret (.list t 1 (bI (eP k u)))/\Grown h.tn h h' t:=by
  intro k u d h m;rw[Wo d];have q:=xI (UInt8.ofNat u);rw[I8 u M]at q;have e:bI [UInt8.ofNat u]=[[.v (.int .u8 (u:Nat))]]:=by show[[cP (UInt8.ofNat u)]]=_;rw[I8 u M]
  rw[e];have A:((u:Nat):Int)<128:=by omega
  have v:=ae.mk (Grown.refl (n0:=h.tn) (k:=.tight) (.inr (.inl O)) m);clear m d e;refine bL O aba O ?_;refine bE @XS @CT ?_;exact⟨_,_,O,_,O,v.out⟩
 intro k
 induction k with
 |zero=>intro u _ d;exact p 0 u (by simpa using Nat.lt_trans d aY)|succ k B=>
  intro u D d h m;by_cases o:u<128
  .exact p _ u o h m
  .rw[Wp M];obtain⟨T,z,E,t,rfl,g⟩:=B (u/128) M (by rw[xC]at d;omega) h m;have q:=xI (UInt8.ofNat (u%128+128));have nl:=hw k (u/128);have C:=CH (H:=z) (k:=.tight) (t:=t) (n0:=h.tn) (es:=[UInt8.ofNat (u%128+128)]) (HB k (u/128)) (by simp;omega) (.inr (.inl O));have e:bI [UInt8.ofNat (u%128+128)]=[[.v (.int .u8 ((u%128+128:Nat):Int))]]:=(by show[[cP (UInt8.ofNat (u%128+128))]]=_;rw[I8 _ M]);rw[e]at C;rw[I8 (u%128+128) M]at q;have y:Grown h.tn h z .tight:=⟨g.box,g.loop,.inr (.inl O),g.ok,g.tn,g.dead⟩;have v:=ae.mk (y.app (aV _));have A:¬((u:Nat):Int)<128:=(by omega);have N:((u:Nat):Int).tmod 128=((u%128:Nat):Int):=pC u 128;have R:((u:Nat):Int).tdiv 128=((u/128:Nat):Int):=I4 u 128;have X:IntKind.u64.wrap (((u%128:Nat):Int)+128)=((u%128+128:Nat):Int):=(by rw[show((u%128:Nat):Int)+128=((u%128+128:Nat):Int) by omega,vM M]);have Y:IntKind.u64.wrap ((u/128:Nat):Int)=((u/128:Nat):Int):=(by have:2*128^(k+1)<=2*128^9:=Nat.mul_le_mul_left _ (aaR aY D);exact vM M);clear m d o B g y e nl;refine bL O aba O ?_;refine bE @XS @CT ?_;exact⟨_,_,O,_,O,v.out⟩
def aqD(n:Nat)(o:n<=4611686018427387903)(h:Heap):W1.call 228 [.v (.int .i64 (n:Nat))] h=J (.ret (.v (.int .u64 (g_ n:Nat))),h):=by
 have e:g_ (n:Int)=2*n:=by unfold g_;rw[av M,fh]
 rw[e];have d:=vM (n:=n) M;have g:IntKind.u64.wrap (2*((n:Nat):Int))=((2*n:Nat):Int):=by rw[show 2*((n:Nat):Int)=((2*n:Nat):Int) by omega,vM M]
 have m:(0:Int)<=((n:Nat):Int):=by omega
 refine cq O Tryz.func228 O ?_;exact dV @apS @oW
def afG(v):cA v≠[]:=by cases v<;>simp[cA]
def _root_.Go.AE.Grown.re{n0:Nat}{h h':Heap}{t k:Tok}(g:Grown n0 h h' t)(d:db n0 h' k):Grown n0 h h' k:=⟨g.box,g.loop,d,g.ok,g.tn,g.dead⟩
def _root_.Go.AE.Grown.r_{n0 m:Nat}{h h':Heap}{t:Tok}(g:Grown m h h' t)(d:n0<=m):Grown n0 h h' t:=⟨g.box,g.loop,g.can.mono d,g.ok,g.tn,λn p o=>g.dead n (l_ p d) o⟩
def _root_.Go.AE.Grown.beside{n0:Nat}{h h':Heap}{t k:Tok}(g:Grown h.tn h h' t)(p:db n0 h k):db n0 h' k:=by
 rcases p with rfl|rfl|⟨u,rfl,q,d⟩
 .exact .inl O
 .exact .inr (.inl O)
 .refine .inr (.inr ⟨u,O,q,?_⟩);have m:=qu d;unfold alive at d ⊢;simp only[bm,decide_eq_true_eq,Bool.not_eq_true',List.contains_eq_mem,decide_eq_false_iff_not]at d ⊢;exact⟨l_ m g.tn,λo=>d.2 (g.dead u m o)⟩
def anS{v:Vl}{r:List U}(T:b8 v r):F (cA v)<=1099511627000->∀h,c_ h=V->∃r' h',W1.call 173 [.agg r] h=J (r',h')/\∃t,r'=.ret (.list t 1 (bI (cA v)))/\Grown h.tn h h' t:=by
 induction T with
 |int n hn=>
  intro _ h B;obtain⟨Y,rfl⟩:∃Y:Nat,n=Y:=⟨n.toNat,by omega⟩;have hu:g_ ((Y:Nat):Int)<2*128^9:=by unfold g_;rw[av M];omega
  have m:Grown h.tn h (h.push (ar 1 (Y:Nat) [] .nil 0 [])) .tight:=(Grown.refl (.inr (.inl O)) B).push _;obtain⟨r1,d,c1,t,rfl,o⟩:=Oi 9 (g_ ((Y:Nat):Int)) (aV _) hu _ m.ok;have nl:=hw 9 (g_ ((Y:Nat):Int));have p:=CH (H:=d) (k:=.tight) (t:=t) (n0:=h.tn) (es:=[1]) (HB 9 (g_ ((Y:Nat):Int))) (by simp;omega) (.inr (.inl O));have g:=ae.mk ((m.trans (o.re (.inr (.inl O)))).app (aV _));have cu:=aqD Y M;have p:gb aa d #[60,60] (.list .tight 1 [[cP 1]]) (.list t 1 (bI (eP 9 (g_ ((Y:Nat):Int)))))=J (.list (.free d.tn) 1 (bI (cA (.int (Y:Nat)))),d.app .tight):=by rw[cA];exact p
  clear m o hu hn B nl;refine bL O QB O ?_;refine bA @zl @oQ @iO (aj @pq (aj @rF @dU)) ?_;exact⟨_,_,O,_,O,g.out⟩
 |text s hs=>
  intro q h B;have y:cA (.text s)=2::(eP 9 (F s)++s):=by rw[cA]
  rw[y]at q ⊢;simp only[dY,cg]at q;have m:Grown h.tn h (h.push (ar 2 0 s .nil 0 [])) .tight:=(Grown.refl (.inr (.inl O)) B).push _;obtain⟨r1,d,c1,t,rfl,o⟩:=Oi 9 (F s) (aV _) M _ m.ok;have p:=CH (H:=d) (k:=.tight) (t:=t) (n0:=h.tn) (es:=[2]) (HB 9 (F s)) (by simp;omega) (.inr (.inl O));have z:=(m.trans (o.re (.inr (.inl O)))).app (aV _);obtain⟨t4,h4,ap4,E⟩:=Q2 (es:=[2]++eP 9 (F s)) (s:=s) (by simp;omega) z.can z.ok z.tn;have g:=ae.mk (z.trans E);have p:gb aa d #[60,60] (.list .tight 1 [[cP 2]]) (.list t 1 (bI (eP 9 (F s))))=J (.list (.free d.tn) 1 (bI ([2]++eP 9 (F s))),d.app .tight):=p;have e4:[2]++eP 9 (F s)++s=2::(eP 9 (F s)++s):=by simp
  rw[e4]at ap4;have C:=aK h (ar 2 0 s .nil 0 []);have R:=o.box _ _ C;have b2:(d.app .tight).boxes[h.boxes.length]?=J (ar 2 0 s .nil 0 []):=by rw[dP];exact R
  have l0:=qa C;have l1:=qa R;have l2:=qa b2;have sl:=YN s;have A:=vM (n:=s.length) M;clear m o z E B y e4 C R b2 q;refine bL O QB O ?_;refine bA @zl @oQ @iO (aj @pq (aj @dU @oW)) ?_;refine iC [(5,8),(6,8)] Aa am (λz0 hp=>?_) ?_
  .simp only[gL,qp,or_false]at hp;rcases hp with rfl|rfl
   all_goals
    refine jP (x:=.ptr (.box (F h.boxes)) 2) (v:=.v (.string (bs s))) am O O O am (by simp[cH,gH]) ?_ ?_<;>(simp only[dw,cX];exact jb @zl @oQ @iO (aj @dU (aj @oW @and_self)))
  refine bA @zl @oQ @iO (aj @dU @oW) ?_;exact⟨_,_,O,_,O,g.out⟩
 |list l X sz rows q hs hm N ih=>
  intro u h B;have kr:=ae.mk N;have kih:=ae.mk ih;have kh:=ae.mk hs;have kl2:=ae.mk q;have y:cA (.list l)=3::(eP 9 (F l)++fU l):=by rw[cA]
  rw[y]at u ⊢;simp only[dY,cg]at u;have m:Grown h.tn h (h.push (ar 3 0 [] X sz rows)) .tight:=(Grown.refl (.inr (.inl O)) B).push _;obtain⟨r1,d,c1,t,rfl,o⟩:=Oi 9 (F l) (aV _) M _ m.ok;have nl:=hw 9 (F l);have p:=CH (H:=d) (k:=.tight) (t:=t) (n0:=h.tn) (es:=[3]) (HB 9 (F l)) (by simp;omega) (.inr (.inl O));have z:=(m.trans (o.re (.inr (.inl O)))).app (aV _);have p:gb aa d #[60,60] (.list .tight 1 [[cP 3]]) (.list t 1 (bI (eP 9 (F l))))=J (.list (.free d.tn) 1 (bI ([3]++eP 9 (F l))),d.app .tight):=p;have C:=aK h (ar 3 0 [] X sz rows);have R:=o.box _ _ C;have b2:(d.app .tight).boxes[h.boxes.length]?=J (ar 3 0 [] X sz rows):=by rw[dP];exact R
  have l0:=jv C;have u94:=kY;have A:=vM (n:=rows.length) M;have c1:W1.call 227 [.v (.int .u64 ((F rows:Nat):Int))] (h.push (ar 3 0 [] X sz rows))=J (.ret (.list t 1 (bI (eP 9 (F l)))),d):=by rw[q];exact c1
  have g:=ae.mk z;have kb:=ae.mk b2;have klen:=ae.mk u;clear m o z B y N ih hs q u C R b2;refine bL O QB O ?_;refine bA @zl @oQ @iO (aj @pq (aj @dU @oW)) ?_;refine b9 (λY e H1=>∃(i:Nat) (t:Tok),i<=F rows/\Y=F rows-i/\e.get 1=.ptr (.box (F h.boxes)) 0/\e.get 3=.list t 1 (bI ([3]++eP 9 (F l)++fU (l.take i)))/\e.get 4=.v (.int .i64 i)/\e.defers=[]/\H1.boxes[h.boxes.length]?=J (ar 3 0 [] X sz rows)/\Grown h.tn h H1 t) ?_ (F rows) _ _ ?_;rotate_left 1
  .refine⟨0,.free d.tn,bV _,O,?_,?_,?_,?_,kb.out,g.out⟩<;>(first|assumption|(simp only[gW,reduceIte,aJ,aB,cX,fU,ga]<;>rfl))
  clear c1 p l0 g kb A;rintro Y e H1 ⟨i,t,hi,rfl,o,g3,g4,hd,hb,hG⟩;have g:=ae.mk hG;have kb:=ae.mk hb;have l3:=jv hb;clear hG hb;by_cases dj:i<F rows
  .obtain⟨r,N⟩:∃r,rows[i]?=J r:=⟨_,aN dj⟩;obtain⟨v,T⟩:∃v,l[i]?=J v:=⟨_,aN (by have:=kl2.out;omega)⟩;have tP:=kr.out i v r T N;have h4:sz=4:=kh.out (by rintro rfl;simp at dj);subst h4;have es1:=Sy T;have el:=Sx l (i+1);rw[es1,cg]at el;have q:=klen.out;obtain⟨r2,H2,c2,t2,rfl,E⟩:=kih.out i v r T N M H1 g.out.ok;have D:=E.beside g.out.can;have ap2:=CH (H:=H2) (k:=t) (t:=t2) (n0:=h.tn) (es:=[3]++eP 9 (F l)++fU (l.take i)) (afG v) (by simp;omega) D;rw[show[3]++eP 9 (F l)++fU (l.take i)++cA v=[3]++eP 9 (F l)++fU (l.take (i+1)) by rw[es1];simp]at ap2;have kG2:=ae.mk ((g.out.trans ((E.r_ g.out.tn).re D)).app (aV _));have kb2:ae ((H2.app t).boxes[h.boxes.length]?=J (ar 3 0 [] X 4 rows)):=⟨by rw[dP];exact E.box _ _ kb.out⟩;have ld:=D1 (H:=H1) tP.len N;have s96:=mU;have GL:(i:Int)<(F rows:Int):=(by omega);clear g tP T N E D es1 el q nl;refine cK @zl @aT @dU ?_;exact⟨F rows-(i+1),by omega,i+1,.free H2.tn,by omega,O,by trivial,by trivial,by simp,by trivial,kb2.out,kG2.out⟩
  .have:i=F rows:=(by omega);subst this;rw[show l.take (F rows)=l by rw[kl2.out];exact fB]at g3;have ee:[3]++eP 9 (F l)++fU l=3::(eP 9 (F l)++fU l):=(by simp);rw[ee]at g3;refine bE @zl @dU ?_;exact⟨_,_,O,_,O,g.out⟩
def anu{v:Vl}{r:List U}(d:b8 v r)(p:fg v<=16)(q:F (cA v)<=1099511627000)(h:Heap)(u:c_ h=V):
 ∃y h',W1.call 100 [.agg r] h=J (y,h')/\∃t,y=.ret (.tuple [.list t 1 (bI (cA v)),.v (.int .i64 0)])/\Ext h h':=by
 obtain⟨A,z,m⟩:=anD d p (h.push r);unfold I at z;have g:=(Ext.push h r).trans m;obtain⟨R,h2,D,t,rfl,o⟩:=anS d q A (g.ok u);have E:=d.cells;have N:=mQ d.len (aK h r);have C:=mQ d.len (m.box _ _ (aK h r));have B:=ae.mk (o.ext g g.tn);clear d m g p o u q;refine bL O Tryz.func100 O ?_;refine bg @apz ?_;exact⟨_,_,O,_,O,B.out⟩
def kW:List ey:=(bZ 64).map A6
def apA:Tryz.f96.results.toList=[.cell 2 118]:=am
def apB:Tryz.f97.results.toList=[.cell 2 118]:=am
def apC:Tryz.f99.results.toList=[.cell 2 118]:=am
def Ks(n):iy aa 118 [(0,.v (.int .i64 1)),(1,.v (.int .i64 n))]=J (.agg (ar 1 n [] .nil 0 [])):=am
def Kt(s):iy aa 118 [(0,.v (.int .i64 2)),(2,.v (.string (bs s)))]=J (.agg (ar 2 0 s .nil 0 [])):=am
def bdl(k)(sz)(rows):iy aa 118 [(0,.v (.int .i64 3)),(3,.list k sz rows)]=J (.agg (ar 3 0 [] k sz rows)):=am
def IY{H:Heap}{k n}{s}{t}{sz}{rows}:bY aa (H.push (ar 0 0 [] .nil 0 [])) 118 (.ptr (.box (F H.boxes)) 0) (.agg (ar k n s t sz rows))=J (H.push (ar k n s t sz rows)):=kL O mU O rfl
def Nh{H:Heap}{k n}{s}{t}{sz}{rows}:aD aa Gt (H.push (ar k n s t sz rows)) 118 (.ptr (.box (F H.boxes)) 0)=J (.agg (ar k n s t sz rows)):=mQ O (aK _ _)
def aoe(n:Int)(h:Heap):W1.call 97 [.v (.int .i64 n)] h=J (.ret (.agg (ar 1 n [] .nil 0 [])),h.push (ar 1 n [] .nil 0 [])):=by have d:=sd;refine cq O Tryz.func97 O ?_;exact jb @apB @Ks @IY @Nh
def aqi(s:List UInt8)(h:Heap):W1.call 99 [.v (.string (bs s))] h=J (.ret (.agg (ar 2 0 s .nil 0 [])),h.push (ar 2 0 s .nil 0 [])):=by have d:=sd;refine cq O Tryz.func99 O ?_;exact jb @apC @Kt @IY @Nh
def aoW(k:Tok)(sz:Nat)(rows:List (List U))(h:Heap):W1.call 96 [.list k sz rows] h=J (.ret (.agg (ar 3 0 [] k sz rows)),h.push (ar 3 0 [] k sz rows)):=by have d:=sd;refine cq O Tryz.func96 O ?_;exact jb @apA @bdl @IY @Nh
def L2:List aQ:=[80,81,75,66,130,202,67,69,162,111,100,96,97,99,241,203,193,242,74,231,222]
noncomputable def N1:aQ->Option (List U->Heap->Option (U × Heap)):=lh W1 L2
noncomputable abbrev W2:=whole aa Gt N1
def wk:lW N1 L2:=rm
section
variable (a b n x:Int)
def QO:∀h,W2.call 80 [I a,I b] h=J (.ret (I (dx a b)),h):=bR (L:=L2) O O O (abC a b _) O rfl
def NB:∀h,W2.call 81 [I a,I b] h=J (.ret (I (cS a b)),h):=bR (L:=L2) O O O (ak6 a b _) O rfl
def ajk:∀h,W2.call 222 [I n] h=J (.ret (.tuple [I (if fmod n=0 then 0 else ea n),I (if fmod n=0 then 90 else 0)]),h):=bR (L:=L2) O O O (ajj n _) O rfl
def atI:∀h,W2.call 66 [I x] h=J (.ret (.v (.bool (bX x))),h):=bR (L:=L2) O O O (atE x _) O rfl
def agY:∀h,W2.call 67 [I a,I b] h=J (.ret (.tuple [I (nI a b),I (rq a b)]),h):=bR (L:=L2) O O O (agX a b _) O rfl
def ag7:∀h,W2.call 75 [I a,I n] h=J (.ret (.tuple [I (fb a n),I (ox a)]),h):=bR (L:=L2) O O O (ag6 a n _) O rfl
def anw:∀h,W2.call 130 [I a,I b] h=J (.ret (I (dx a b)),h):=bR (L:=L2) O O O (anv a b _) O rfl
def aoY:∀h,W2.call 202 [I a,I b] h=J (.ret (I (cS a b)),h):=bR (L:=L2) O O O (aoX a b _) O rfl
def aog:∀h,W2.call 231 [I n] h=J (.ret (.tuple [I (if fmod n=0 then 0 else ea n),I (if fmod n=0 then 90 else 0)]),h):=bR (L:=L2) O O O (aof n _) O rfl
def aqF:∀h,W2.call 111 [I x] h=J (.ret (.v (.bool (bX x))),h):=bR (L:=L2) O O O (aqE x _) O rfl
def aoa:∀h,W2.call 97 [I n] h=J (.ret (.agg (ar 1 n [] .nil 0 [])),h):=bR (L:=L2) O O O (aoe n _) O rfl
end
def aqd(s):∀h,W2.call 99 [sv s] h=J (.ret (.agg (ar 2 0 s .nil 0 [])),h):=bR (L:=L2) O O O (aqi s _) O rfl
def vn:c_ ⟨[],[],0,[]⟩=V:=rfl
def agT(d b)(k)(g:F b<=1099511620000)(m:F d<=1099511620000):∀h,W2.call 69 [.v (.string (bs d)),.list k 1 (bI b)] h=J (.ret (I (pc (jQ d b):Nat)),h):=
 bR (L:=L2) (B:=[.v (.string (bs d)),.list (bU k) 1 (bI b)]) O (by rw[aZ,aZ,al.eq_1,pX];rfl) (by simp[aA,au,ef,i']) (agS d b _ g m _) O rfl
def afH{v}{r}(o:b8 v r)(m:fg v<=16)(p:F (cA v)<=1099511600000):∃t,∀h,W2.call 74 [.agg r] h=J (.ret (.tuple [.list t 1 (bI (cA v)),.v (.int .i64 0)]),h):=by obtain⟨d,h2⟩:=b8.hold v r o;obtain⟨q,h',g,t,rfl,-⟩:=afJ d m M ⟨[],[],0,[]⟩ vn;exact⟨bU t,bR (L:=L2) (B:=[.agg (aZ r)]) O O (by simpa [aA,au] using h2) g O (by simp[au,aA,ef,i'])⟩
def anN{v}{r}(o:b8 v r)(m:fg v<=16)(p:F (cA v)<=1099511600000):∃t,∀h,W2.call 100 [.agg r] h=J (.ret (.tuple [.list t 1 (bI (cA v)),.v (.int .i64 0)]),h):=by obtain⟨d,h2⟩:=b8.hold v r o;obtain⟨q,h',g,t,rfl,-⟩:=anu d m M ⟨[],[],0,[]⟩ vn;exact⟨bU t,bR (L:=L2) (B:=[.agg (aZ r)]) O O (by simpa [aA,au] using h2) g O (by simp[au,aA,ef,i'])⟩
def fN(l:List Vl)(rows:List (List U)):Prop:=F rows=F l/\∀(i:Nat) v r,l[i]?=J v->rows[i]?=J r->b8 v r
def apW:Tryz.f223.results.toList=[.tmp 4]:=am
def OC:Tryz.f249.results.toList=[]:=am
def mE:fx aa 23=J ai:=am
def abM:fx aa 207=J ai:=am
def vf{H}{b}{x}(d:H.boxes[b]?=J [x]):aD aa Gt H 23 (.ptr (.box b) 0)=J x:=by rw[fe mE d];rfl
def tU{H}{b}{x}(d:H.boxes[b]?=J [x]):aD aa Gt H 207 (.ptr (.box b) 0)=J x:=by rw[fe abM d];rfl
def vg{H}{b k}{cs}{x}(d:H.boxes[b]?=J cs)(g:cs[k]?=J x):aD aa Gt H 3 (.ptr (.box b) k)=J x:=by rw[fe dS d,Fo,g]
def p9{H}{b k}{cs}{x}(d:H.boxes[b]?=J cs)(g:cs[k]?=J x):aD aa Gt H 23 (.ptr (.box b) k)=J x:=by rw[fe mE d,Fo,g]
def nN{b len aR n}{k}(d:n<len):dH aa 23 (.arr b 0 len aR) (.v (.int k (n:Nat)))=J (.ptr (.box b) n):=by rw[A1 cT eR M M,fh,jC,nX]
def A4{b len aR n}{k}(d:n<len):dH aa 207 (.arr b 0 len aR) (.v (.int k (n:Nat)))=J (.ptr (.box b) n):=by rw[A1 Tryz.underlying207 gV M M,fh,jC,nX]
def QQ(d w c:Nat)(h:Heap):W2.call 223 [.arr d 0 w w,I (c:Nat)] h=J (.ret (.func (.func 249) [] [.ptr (.box (F h.boxes+1)) 0,.ptr (.box (F h.boxes)) 0]),(h.push [.arr d 0 w w]).push [I (c:Nat)]):=by have g:(U.arr d 0 w w).bG=J [.arr d 0 w w]:=rfl;have m:(U.v (.int .i64 (c:Nat))).bG=J [.v (.int .i64 (c:Nat))]:=rfl;unfold I;refine cq O Tryz.func223 O ?_;exact o0 @apW @a_ @bF
def QR(l p y z w c:Nat)(row:List Int)(Inv:Nat->Heap->Prop)
 (q:∀k H,Inv k H->H.boxes[p]?=J [I (c:Nat)]/\H.boxes[y]?=J [.arr z 0 w w]/\(k<w->∃cs,H.boxes[z]?=J cs/\cs[k]?=J (I (ag row k))))
 (B:∀k H,c<=k->k<w->Inv k H->∃H',W2.round l [I (k:Nat),I (ag row k)] H=J (.ret (.v (.bool V)),H')/\Inv (k+1) H')
 (T:c<=w) (pZ:w<=1000000) (o:Heap) (h0:Inv c o):∃H',W2.call 249 [.yield l,.ptr (.box p) 0,.ptr (.box y) 0] o=J (.ret (.tuple []),H')/\Inv w H':=by
 have Y:=ae.mk q;have Z:=ae.mk B;have D:=ae.mk h0;obtain⟨m,d,-⟩:=q c o h0;have N:=ki m;unfold I at N;have u23:=cT;clear q B h0 m d;refine gy O Tryz.func249 O ?_;refine bg @OC ?_;refine b9 (λz0 e H=>∃k:Nat,c<=k/\k<=w/\z0=w-k/\e.get 0=.yield l/\e.get 1=.ptr (.box p) 0/\e.get 2=.ptr (.box y) 0/\e.get 4=.v (.int .i64 k)/\e.defers=[]/\Inv k H) ?_ (w-c) _ _ ?_;rotate_left 1
 .refine⟨c,aV _,T,O,?_,?_,?_,?_,?_,D.out⟩<;>(first|assumption|(exact gR))
 clear N D;rintro z0 e H ⟨k,C,ys,rfl,g0,g1,g2,g4,hd,u⟩;obtain⟨m,d,b3⟩:=Y.out k H u;have l2:=vf d;have v:=ae.mk u;clear m u;by_cases g:k<w
 .obtain⟨cs,b4,A⟩:=b3 g;obtain⟨H',r1,R⟩:=Z.out k H C g v.out;have ix:=nN (b:=z) (len:=w) (aR:=w) (k:=.i64) g;have l3:=vg b4 A;have E:=ae.mk R;have X:((k:Nat):Int)<((w:Nat):Int):=by omega
  unfold I at *
  clear d b3 b4 A R v;refine bE @OC @xN ?_;exact⟨w-(k+1),by omega,k+1,by omega,by omega,O,by trivial,by trivial,by trivial,by simp,by trivial,E.out⟩
 .have:k=w:=by omega
  subst this;clear d b3;refine bg @OC ?_;exact⟨_,O,v.out⟩
def Ow:Tryz.f224.results.toList=[]:=am
structure iI(H:Heap)(tb:Nat)(B:List Nat)(t:List (List Int))(w:Nat):Prop where
 gZ:H.boxes[tb]?=J (B.map λb=>U.arr b 0 w w)
 len:B.length=t.length
 nd:B.Nodup
 row:∀(i b:Nat) (r:List Int),B[i]?=J b->t[i]?=J r->H.boxes[b]?=J (r.map I)
 wid:∀r∈t,r.length=w
 out:tb∉B
def We{l:List Nat}(h:l.Nodup){i j x:Nat}(hi:l[i]?=J x)(m:l[j]?=J x):i=j:=by obtain⟨o,d⟩:=aS.1 hi;obtain⟨h2,g⟩:=aS.1 m;exact(List.getElem_inj h).1 (d.trans g.symm)
def iI.set{H}{A w i b}{B}{t}(T:iI H A B t w)(hi:B[i]?=J b){r}(C:F r=w):iI (H.put b (r.map I)) A B (t.set i r) w:=by
 have o:=(aS.1 hi).1;have v:=cU hi;refine⟨?_,by rw[mX];exact T.len,T.nd,λj u p g d=>?_,λp d=>?_,T.out⟩
 .rw[cr (λe=>T.out (by rw[e];exact v))];exact T.gZ
 .by_cases m:j=i
  .subst m;rw[hi]at g;injection g with g;subst g;rw[List.getElem?_set_self (by rw[<-T.len];exact o)]at d;injection d with d;subst d;have y:j<F t:=(by rw[<-T.len];exact o);exact dn (aS.1 (T.row j b _ hi (aN y))).1
  .have z:u≠b:=λe=>m (We T.nd (by rw[<-e];exact g) hi);rw[cr z];rw[List.getElem?_set_ne (λe=>m e.symm)]at d;exact T.row j u p g d
 .rcases uB d with q|q
  .exact T.wid p q
  .rw[q];exact C
def iI.mono{H H'}{d w}{B}{t}(T:iI H d B t w)(m:∀(c:Nat) cs,H.boxes[c]?=J cs->H'.boxes[c]?=J cs):iI H' d B t w:=
 ⟨m _ _ T.gZ,T.len,T.nd,λi b r g o=>m _ _ (T.row i b r g o),T.wid,T.out⟩
def jY(n:Int)(a own:List Int)(c k:Nat):List Int:=(bZ (F a)).map λj=>if c<=j/\j<k then iL n (ag a j) (ag own j) else ag a j
def qy{n}{a own}{c k}:F (jY n a own c k)=F a:=by unfold jY;simp
def CR{n}{a own}{c k j}(d:j<F a):ag (jY n a own c k) j=if c<=j/\j<k then iL n (ag a j) (ag own j) else ag a j:=by rw[fS (by rw[qy];exact d)];unfold jY;rw[sH,JH]
def afb{n}{a own}{c}:jY n a own c c=a:=by refine ug qy λj d=>?_;rw[qy]at d;rw[CR d,aP M]
def afa{n}{a own}{c k}(p:c<=k)(m:k<F a):(jY n a own c k).set k (iL n (ag a k) (ag own k))=jY n a own c (k+1):=by
 refine ug (by rw[mX,qy,qy]) λj g=>?_;rw[mX,qy]at g;rw[FI (by rw[qy];exact m),CR g,CR g];by_cases d:j=k
 .subst d;rw[av O,av M]
 .rw[aP d];by_cases o:c<=j/\j<k
  .rw[av o,av M]
  .rw[aP o,aP M]
def ae9{n}{a own}{c}(o:F a=F own)(m:c<=F a):jY n a own c (F a)=a.take c++gQ n (a.drop c) (own.drop c):=by
 have d:F (a.drop c)=F (own.drop c):=by simp[o]
 refine ug (by rw[qy,cg,rG d,cR,ev];omega) λj g=>?_;rw[qy]at g;rw[CR g,zY m];by_cases p:j<c
 .rw[aP M,av p]
 .rw[av M,aP p,sS d (by rw[ev];omega),FH,FH,(M:c+(j-c)=j)]
def tY{r}{k}(d:k<F r):(r.map I)[k]?=J (I (ag r k)):=by rw[dW,aN d,fS d];rfl
def um{H}{b k}{r:List Int}{x}(g:H.boxes[b]?=J (r.map I))(d:k<F r):bY aa H 3 (.ptr (.box b) k) (.v (.int .i64 x))=J (H.put b ((r.set k x).map I)):=by rw[fE (xs:=[I x]) O eR g O (by rw[br];exact d)];congr 2;unfold dC;rw[aaq,xz,av (by rw[br];exact d)];simp
def vp{x}(h:okF x):0<=x/\x<=9223372036854775807:=by obtain⟨d,h2⟩:=h;have:Qi=1073741789:=rfl;omega
def aet(h:Heap)(o:Nat)(B:List Nat)(t:List (List Int))(w i y c:Nat)(a own:List Int)(T:iI h o B t w)(hi:t[i]?=J a)(E:t[y]?=J own)(fI:i≠y)(hc:c<w)(A:w<=1000000)(z:∀r∈t,∀x∈r,okF x):
 ∃h',W2.call 224 [.arr o 0 (F B) (F B),I (i:Nat),I (y:Nat),I (c:Nat)] h=J (.ret (.tuple []),h')/\iI h' o B (t.set i (rn c a own)) w/\∀n0,fj B n0 h h':=by
 have eC:=(aS.1 hi).1;have DV:=(aS.1 E).1;obtain⟨m,v⟩:∃b,B[i]?=J b:=⟨_,aN (by rw[T.len];exact eC)⟩;obtain⟨p,Gy⟩:∃b,B[y]?=J b:=⟨_,aN (by rw[T.len];exact DV)⟩;have ra:=T.row i m a v hi;have ro:=T.row y p own Gy E;have wa:=T.wid a (cU hi);have wo:=T.wid own (cU E);have tH:m≠p:=λe=>fI (We T.nd (by rw[e]at v;exact v) Gy);have lE:=(aS.1 T.gZ).1;have auF:=(aS.1 ra).1;have auJ:=(aS.1 ro).1;have aiD:o≠m:=λe=>T.out (by rw[e];exact cU v);have TX:(B.map λb=>U.arr b 0 w w)[i]?=J (.arr m 0 w w):=by rw[dW,v];rfl
 have hdy:(B.map λb=>U.arr b 0 w w)[y]?=J (.arr p 0 w w):=by rw[dW,Gy];rfl
 have oka:=z a (cU hi);have oko:=z own (cU E);have hiB:i<F B:=by rw[T.len];exact eC
 have hyB:y<F B:=by rw[T.len];exact DV
 have z3:=Jc;have bx1:∀b n z4:Nat,(U.arr b 0 n z4).bG=J [.arr b 0 n z4]:=λ_ _ _=>rfl;have bx2:∀n:Int,(U.v (.int .i64 n)).bG=J [.v (.int .i64 n)]:=λ_=>rfl;have ixi:=A4 (b:=o) (len:=B.length) (aR:=B.length) (k:=.i64) hiB;have ixy:=A4 (b:=o) (len:=B.length) (aR:=B.length) (k:=.i64) hyB;have ixc:=nN (b:=m) (len:=w) (aR:=w) (k:=.i64) hc;have n0:=vp (nZ oka c);have unf:rn c a own=if ag a c=0 then a else jY (ag a c) a own c w:=by unfold rn;rw[<-wa,ae9 M M]
 rw[unf];clear unf;generalize hn:ag a c=n at *
 have ahP:∀(z5:U) (q ds:List U),((h.push q).push ds).boxes[o]?=J (B.map λb=>U.arr b 0 w w)/\((h.push q).push ds).boxes[m]?=J (a.map I):=λz5 q ds=>⟨aM (aM T.gZ),aM (aM ra)⟩;generalize g:(h.push [.arr o 0 (F B) (F B)]).push [I (i:Nat)]=d;have l1:∀q,aD aa Gt (d.push q) 207 (.ptr (.box (F h.boxes)) 0)=J (.arr o 0 (F B) (F B)):=λq=>tU (by rw[<-g];exact aM (aM (aK _ _)));have l1':aD aa Gt d 207 (.ptr (.box (F h.boxes)) 0)=J (.arr o 0 (F B) (F B)):=tU (by rw[<-g];exact aM (aK _ _));have l2:aD aa Gt d 3 (.ptr (.box (F h.boxes+1)) 0)=J (.v (.int .i64 (i:Nat))):=ki (by rw[<-g];exact mJ (by rw[bF]));have l3:aD aa Gt d 23 (.ptr (.box o) i)=J (.arr m 0 w w):=p9 (by rw[<-g];exact aM (aM T.gZ)) TX;have l4:aD aa Gt d 3 (.ptr (.box m) c)=J (.v (.int .i64 n)):=by have:=vg (k:=c) (x:=I (ag a c)) (show d.boxes[m]?=J (a.map I) by rw[<-g];exact aM (aM ra)) (tY M);rw[hn]at this;exact this
 have l5:aD aa Gt (d.push [.v (.int .i64 n)]) 3 (.ptr (.box (F d.boxes)) 0)=J (.v (.int .i64 n)):=ki (aK _ _);have s5:bY aa (d.push [I 0]) 3 (.ptr (.box (F d.boxes)) 0) (.v (.int .i64 n))=J (d.push [.v (.int .i64 n)]):=kL O eR O O;have l6:∀q,aD aa Gt (d.push q) 23 (.ptr (.box o) y)=J (.arr p 0 w w):=λq=>p9 (by rw[<-g];exact aM (aM (aM T.gZ))) hdy;have Z:ae (F d.boxes=F h.boxes+2):=⟨by rw[<-g,bF,bF]⟩;have kM2:ae (∀n0,fj B n0 h d):=⟨λn0=>by rw[<-g];exact(fj.refl.push _).push _⟩;have kT2:ae (iI d o B t w):=⟨T.mono λcc q z0=>by rw[<-g];exact aM (aM z0)⟩;have e0:(h.push [U.arr o 0 (F B) (F B)]).push [.v (.int .i64 (i:Nat))]=d:=g;have kL2:ae (d.loops=h.loops):=⟨by rw[<-g];rfl⟩;have kb0:ae (d.boxes[h.boxes.length]?=J [.arr o 0 (F B) (F B)]):=⟨by rw[<-g];exact aM (aK _ _)⟩;have kb1:ae (d.boxes[F h.boxes+1]?=J [I (i:Nat)]):=⟨by rw[<-g];exact mJ (by rw[bF])⟩;have e1:F (h.push [U.arr o 0 (F B) B.length]).boxes=F h.boxes+1:=bF _ _;have kT:=ae.mk T;have ko:=ae.mk (aj oka oko);clear ahP lE T ra ro z oka oko g;unfold I at *
 refine gy O Tryz.func224 O ?_;by_cases hz:n=0
 .subst hz;rw[av O];refine bE @Ow @a_ ?_;exact⟨_,O,by
   have e:t.set i a=t:=by
    apply nV;intro j;rw[kQ];split
    .rename_i z0;subst z0;exact hi.symm
    .rfl
   rw[e];exact kT2.out.mono λcc q z0=>aM z0,λn0=>(kM2.out n0).push _⟩
 .rw[aP hz];have Y:=QQ p w c (d.push [.v (.int .i64 n)]);unfold I at Y;refine bE @Ow @a_ ?_;refine bC.gen λe he hd hp nf=>?_;have g4:e.get 4=.ptr (.box (F h.boxes)) 0:=by rw[he];exact gS
  have g5:e.get 5=.ptr (.box (F h.boxes+1)) 0:=by rw[he];exact gS
  have g8:e.get 8=.ptr (.box (F d.boxes)) 0:=by rw[he];exact gS
  have g25:e.get 25=.func (.func 249) [] [.ptr (.box (F d.boxes+1+1)) 0,.ptr (.box (F d.boxes+1)) 0]:=by rw[he];simp only[gW,reduceIte,aJ,aB];simp only[bF]
  have hdf:e.defers=[]:=by rw[hd];exact gS
  clear he hd hp nf;refine EL (by rw[Aq];exact g25) λrec w1 w2 w3 w4 w5 w6=>?_;have yu:=Z.out;have Tz:=kT2.out;have z:=ko.out;have Tt:∀n0,fj B n0 h (((d.push [.v (.int .i64 n)]).push [.arr p 0 w w]).push [.v (.int .i64 c)]):=λn0=>(((kM2.out n0).push _).push _).push _;have R:iI (((d.push [.v (.int .i64 n)]).push [.arr p 0 w w]).push [.v (.int .i64 c)]) o B t w:=Tz.mono λcc q z0=>aM (aM (aM z0));have p0:(((d.push [.v (.int .i64 n)]).push [.arr p 0 w w]).push [.v (.int .i64 c)]).boxes[d.boxes.length]?=J [.v (.int .i64 n)]:=aM (aM (aK _ _));have p1:(((d.push [.v (.int .i64 n)]).push [.arr p 0 w w]).push [.v (.int .i64 c)]).boxes[F d.boxes+1]?=J [.arr p 0 w w]:=aM (mJ (by rw[bF]));have p2:(((d.push [.v (.int .i64 n)]).push [.arr p 0 w w]).push [.v (.int .i64 c)]).boxes[F d.boxes+1+1]?=J [.v (.int .i64 c)]:=mJ (by rw[bF,bF]);have p3:(((d.push [.v (.int .i64 n)]).push [.arr p 0 w w]).push [.v (.int .i64 c)]).boxes[h.boxes.length]?=J [.arr o 0 (F B) (F B)]:=aM (aM (aM kb0.out));have p4:(((d.push [.v (.int .i64 n)]).push [.arr p 0 w w]).push [.v (.int .i64 c)]).boxes[F h.boxes+1]?=J [.v (.int .i64 i)]:=aM (aM (aM kb1.out));have pL:(((d.push [.v (.int .i64 n)]).push [.arr p 0 w w]).push [.v (.int .i64 c)]).loops=h.loops:=kL2.out;generalize ((d.push [.v (.int .i64 n)]).push [.arr p 0 w w]).push [.v (.int .i64 c)]=u at *
  have Ts:F u.loops=F h.loops:=congrArg F pL;rw[Ts];clear pL;clear l1 l1' l2 l3 l4 l5 s5 l6 e0 e1 Y Tz kb0 kb1;have D:=R.row i m a v hi;have N:=R.row y p own Gy E;have pg:=(aS.1 D).1;have wV:=(aS.1 (kT.out.gZ)).1;have auH:=(aS.1 (kT.out.row i m a v hi)).1;have nb:(u.loop rec).loops[h.loops.length]?=J rec:=by rw[<-Ts];exact @D' u rec
  have I1:∀(k:Nat) (H:Heap),H=(u.loop rec).put m ((jY n a own c k).map I)->H.boxes[F d.boxes+1+1]?=J [I (c:Nat)]/\H.boxes[F d.boxes+1]?=J [.arr p 0 w w]/\(k<w->∃q,H.boxes[p]?=J q/\q[k]?=J (I (ag own k))):=by
   rintro k H rfl;refine⟨?_,?_,λhk=>⟨_,?_,tY M⟩⟩
   .rw[cr M];exact p2
   .rw[cr M];exact p1
   .rw[cr (Ne.symm tH)];exact N
  have I2:∀(k:Nat) (H:Heap),c<=k->k<w->H=(u.loop rec).put m ((jY n a own c k).map I)->∃H',W2.round (F h.loops) [I (k:Nat),I (ag own k)] H=J (.ret (.v (.bool V)),H')/\H'=(u.loop rec).put m ((jY n a own c (k+1)).map I):=by
   rintro k H wR ys rfl;refine Oj (Post:=λH=>H=(u.loop rec).put m ((jY n a own c (k+1)).map I)) nb (by rw[w2];rfl) w5 w6 ?_;have kq:=afa (n:=n) (own:=own) wR (M:k<F a);have cat:ag (jY n a own c k) k=ag a k:=(by rw[CR M,aP M]);have r1:∀t,(nq (F h.loops) rec [I (k:Nat),I (ag own k)]).get t=if 27=t then I (ag own k) else if 26=t then I (k:Nat) else e.get t:=λt=>Il w2 w1
   have d1:(nq (F h.loops) rec [I (k:Nat),I (ag own k)]).defers=[]:=rfl;obtain⟨K,X⟩:∃K,((u.loop rec).put m ((jY n a own c k).map I)).busy (F h.loops) rec=K:=⟨_,O⟩;rw[X];have b1:K.boxes[m]?=J ((jY n a own c k).map I):=(by rw[<-X];exact dn pg);have b2:K.boxes[h.boxes.length]?=J [.arr o 0 (F B) (F B)]:=(by rw[<-X];exact(cr M).trans p3);have b3:K.boxes[F h.boxes+1]?=J [I (i:Nat)]:=(by rw[<-X];exact(cr M).trans p4);have b4:K.boxes[d.boxes.length]?=J [I n]:=(by rw[<-X];exact(cr M).trans p0);have b5:K.boxes[o]?=J (B.map λb=>U.arr b 0 w w):=(by rw[<-X];exact(cr aiD).trans R.gZ);have m1:=vg b1 (tY (r:=jY n a own c k) (k:=k) (by rw[qy];omega));rw[cat]at m1;have m2:=tU b2;have m3:=ki b3;have m4:=ki b4;have m5:=p9 b5 TX;have DZ:=nN (b:=m) (len:=w) (aR:=w) (k:=.i64) ys;have sk:=um (r:=jY n a own c k) (k:=k) (x:=iL n (ag a k) (ag own k)) b1 (by rw[qy];omega);rw[kq]at sk;have vo:=vp (nZ z.1 k);have ok2:=vp (nZ z.2 k);have f1:=λh=>NB n (ag own k) h;have f2:=λh=>QO (ag a k) (0-cS n (ag own k)) h;have f3:=vp (CZ n (ag own k));have fl:iL n (ag a k) (ag own k)=dx (ag a k) (0-cS n (ag own k)):=(by rw[Int.zero_sub];rfl);rw[fl]at sk;generalize cS n (ag own k)=z5 at *
   generalize ag a k=z1 at *
   generalize ag own k=z2 at *
   clear yu g25 D N p0 p1 p2 p3 p4 Z kM2 kT2 kT ko cat Tt R b1 b2 b3 b4 b5 kq fl z;unfold I at *
   rw[w3,w4];refine wI ?_;refine⟨aX,aX,?_⟩;refine bC.gen λe2 C jk rB AQ=>?_;have q4:e2.get 4=.ptr (.box (F h.boxes)) 0:=(by rw[C];simp only[gW,reduceIte,aJ,aB,r1];exact g4);have q5:e2.get 5=.ptr (.box (F h.boxes+1)) 0:=(by rw[C];simp only[gW,reduceIte,aJ,aB,r1];exact g5);have q8:e2.get 8=.ptr (.box (F d.boxes)) 0:=(by rw[C];simp only[gW,reduceIte,aJ,aB,r1];exact g8);have q9:e2.get 9=.v (.int .i64 k):=(by rw[C];simp only[gW,reduceIte,aJ,aB,r1]);have q10:e2.get 10=.v (.int .i64 z2):=(by rw[C];simp only[gW,reduceIte,aJ,aB,r1]);clear C jk rB AQ r1 d1
   repeat' (first|simp(maxSteps:=9999999) (disch:=first|exact dZ|fail) only[gW,reduceIte,aJ,aB, *]|(refine dX ?_ ?_<;>(intro _;try omega))|refine du wk am ?_)
   rw[<-X];simp only[Heap.put,Heap.busy,Heap.loop,Cp];exact⟨aX,aX,aX⟩
  obtain⟨h',c1,c2⟩:=QR (F h.loops) (F d.boxes+1+1) (F d.boxes+1) p w c own (λk H=>H=(u.loop rec).put m ((jY n a own c k).map I)) I1 I2 M A ((u.loop rec).put m ((jY n a own c c).map I)) O;have e3:u.loop rec=(u.loop rec).put m ((jY n a own c c).map I):=by rw[afb];exact(kC (h:=u.loop rec) D).symm
  rw[<-e3]at c1;subst c2;clear e3;refine⟨_,_,c1,rec,nb,by rw[w5];decide,.inl ⟨w6,?_⟩⟩;clear c1 w1 w2 w3 w4 w5 w6 nb D N p0 p1 p2 p3 p4 Z kM2 kT2 kT ko;refine bg @Ow ?_;refine⟨_,O,?_,λn0=>(((Tt n0).Ba _).trans (.put (cU v) _)).eY (aV _) _⟩;have T5:=iI.set (H:=u.loop rec) (R.mono λ_ _ z0=>z0) v (r:=jY n a own c w) (by rw[qy];exact wa);exact T5.mono λ_ _ z0=>z0
end Go.Proofs.YtcbhpkjbiehcpaaGreatDoor
end
