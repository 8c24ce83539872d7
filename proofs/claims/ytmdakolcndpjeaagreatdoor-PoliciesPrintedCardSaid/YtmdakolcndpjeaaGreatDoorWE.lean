/-
  Part of the proof: WE.
-/
import Derived.Test.YtmdakolcndpjeaaGreatDoorWD
import Derived.Test.YtmdakolcndpjeaaGreatDoorWC
open True renaming intro->ev
open Nat renaming lt_or_ge->dp,reduceEqDiff->ao,le_trans->cY,not_lt_zero->ik,le_refl->aK,zero_le->cz,zero_add->gL,add_zero->gD,reduceAdd->gE
open List renaming getElem?_append_left->qh,getElem?_append_right->uZ,length_cons->dD,cons_append->bR,nil_append->bT,take_succ_cons->di,take_zero->de,drop_zero->fc,mem_singleton->qi,getElem?_eq_some_iff->aF,append_nil->dI,length_append->cO,length_singleton->oY,getElem?_eq_getElem->cv,append_assoc->lz,flatMap_append->Gi,length->qY,mem_cons->fe,not_mem_nil->ow,map_cons->gB,map_nil->nV,take_length->jk,mem_of_getElem?->ie,ext_getElem?->uY,getElem?_eq_none->oX,all_eq_true->dn,mem_cons_self->dQ,mem_cons_of_mem->dG,length_nil->iJ
open Go.Proofs.Tryz renaming prog->aq,func132->np,func148->Gx,underlying22->o9,underlying23->lB,func131->wR,underlying9->fH,func76->GA,underlying24->j6,func77->Lk,func78->Dh,underlying20->Az,func75->SO,func30->Dg,func14->Lg,func12->Ay
open Option renaming some->aa,map_some->cy,some.injEq->aY
open Bool renaming true->ab,false->ak,eq_false_iff->ib,false_eq_true->dP
open Prod renaming mk.injEq->aW
open Int renaming reduceAdd->lT,reduceLT->lU,toNat_one->lW,reduceToNat->lV
set_option maxHeartbeats 64000000
set_option maxRecDepth 100000
set_option linter.unusedSimpArgs false
set_option linter.unusedVariables false
set_option linter.constructorNameAsVariable false
set_option linter.defProp false
section
namespace Go.Proofs.YtmdakolcndpjeaaGreatDoor
open Go.AE Go.Lex Go.Pol Go.Syn
def ado{a b:List Ex}{r s:List (List AV)}(h1:Go.Pol.Rows a r)(h2:Go.Pol.Rows b s):Go.Pol.Rows (a++b) (r++s):=by
 refine⟨by simp[h1.1,h2.1],λi x q hx hq=>?_⟩;rcases dp i a.length with hi|hi
 ·rw[qh hi] at hx;rw[qh (by rw[h1.1];exact hi)] at hq;exact h1.2 i x q hx hq
 ·rw[uZ hi] at hx;rw[uZ (by rw[h1.1];exact hi),h1.1] at hq;exact h2.2 _ x q hx hq
def S9{b n0:Nat}{h:ae}{row:List AV}{t:List Ex}{tokS:Tok}{szS:Nat}{rowsS:List (List AV)}(hr:Go.Pol.Rows t rowsS)(hz:∀i:Nat,i<t.length->szS=5)(hl:t.length<=100000000):
 ∃tokA hA,iM aq h #[24,24] (.list .tight 5 [row]) (.list tokS szS rowsS)=aa (.list tokA 5 (row::rowsS),hA)/\bp b n0 h hA/\hA.boxes=h.boxes:=by
 cases t with
 |nil=>have e:rowsS=[]:=List.eq_nil_of_length_eq_zero (by rw[hr.1];rfl);subst e;exact⟨.tight,h,S8,bp.refl _ _ _,rfl⟩
 |cons x r=>
  obtain rfl:=hz 0 bh;have bL:rowsS≠[]:=by intro q;have:=hr.1;rw[q] at this;simp at this
  exact⟨_,_,GN (.inr (.inl rfl)) (.inl rfl) (by rw[hr.1];simp at hl ⊢;omega) bL,bp.app (.inr (.inl rfl)),lC _ _⟩
section
variable {b:Nat} {tok:Tok} {sz:Nat} {l:List Tk} {n:Int} {p:Po} {t:PT} {h:ae}
def aeC{α:Type}{s:List UInt8}{item:List Tk->PR α}(hq:∀l x r,cq s l=ab->item l=.ok x r->r.length<l.length):∀(m:Nat) (l:List Tk) (t:List α) (r:List Tk),cD s item m l=.ok t r->t.length+r.length<=l.length:=by
 intro m
 induction m with
 |zero=>intro l t r h;cases h
 |succ m ih=>
  intro l t r h;unfold cD at h;by_cases q:cq s l=ab
  ·rw[aB q] at h;obtain⟨x,l1,e1,h⟩:=bD h;obtain⟨v,l2,e2,h⟩:=bD h;injection h with h1 h2;subst h1;subst h2;have:=hq _ _ _ q e1;have:=ih _ _ _ e2;rw[dD];omega
  ·rw[ax q] at h;injection h with h1 h2;subst h1;subst h2;simp
def aa3{m:Nat}{l r:List Tk}{x:Ex}(h:iV (cp m) l=.ok x r):r.length<l.length:=by have e1:iV (cp m) l=(cS gd l).bind λ_ r=>cp m r:=rfl;rw[e1] at h;obtain⟨_,l3,w3,w4⟩:=bD h;have:=gX w3;have:=(s7 m).len l3;rw[w4] at this;have:r.length<=l3.length:=this;omega
def Wa{m:Nat}(E:yz m)(n0:Nat)(P:Pa b tok sz l n p t h)(ho:cR h=ab)(hn:n0<=h.tn)(hl:l.length<=m)(h1:cq jz l=ak)(h2:cq lf l=ak)(h3:cq ld l=ak):Reads 132 [.ptr (.box b) 0] b n0 n p t h xf (cp (m+1) l):=by
 have a26:=eG;have s26:=ec;have z26:=nS;have a109:=wS;have s109:=yg;have a24:=jm;have s24:=wA;have A0:=At.start (n0:=n0) P.lt (ar 0 0 0 [] .nil 0 []);have P0:=(P.push [.ptr (.box b) 0]).push (ar 0 0 0 [] .nil 0 []);rw[V6 h1 h2 h3];have c0:=wE P0 h1;have c01:=wE P0 h2;have c02:=wE P0 h3;have D7:=P.cI;have agG:=P.lt;have bwe:=nw gx gF;have bwc:=nu gm;simp only[gx,gF] at bwe;simp only[gm] at bwc;simp only[jz] at c0;simp only[lf] at c01;simp only[ld] at c02;obtain⟨r2,h2,c2,q2⟩:=EO n0 P0;have l0:=A0.len;have l00:=A0.pQ;have p0:=A0.ptr;have x0:=A0.res;cases w2:iy l with
 |bad l2=>
  rw[w2] at q2;obtain⟨rfl,m2⟩:=q2;have aN:=ag.mk (A0.call m2).mu;clear A0 P0 P m2 E;refine bO rfl np rfl ?_
  repeat' (first|simp(maxSteps:=9999999) (disch:=first|exact dZ|fail) only[gW,reduceIte,ao,al,eF,aA,aJ,eC,pc,nw,dw,fO,dC,bZ,dA,fM,eH,bR,bT, *]|refine dX ?_ ?_<;>(intro _;try omega))
  exact⟨_,_,rfl,rfl,aN.out⟩
 |ok d l2=>
  rw[w2] at q2;obtain⟨v2,tok2,sz2,rfl,rfl,m2,P2⟩:=q2;have A2:=A0.call m2;have A3:=A2.set (ar 3 d 0 [] .nil 0 []);have P3:=P2.put (c:=h.boxes.length+1) aj (ar 3 d 0 [] .nil 0 []);have eQ:l2.length<l.length:=by have:=xT w2;omega
  obtain⟨r4,h4,c4,q4⟩:=F3 n0 .tight [gx,gF] bh P3;simp only[gx,gF] at c4;have l2':=A2.len;have l20:=A2.pQ;have x2:=A2.res;have p2:=A2.ptr;have p3:=A3.ptr;rw[bE];cases w4:fm [gx,gF] l2 with
  |bad l4=>
   rw[w4] at q4;obtain⟨rfl,m4⟩:=q4;have aN:=ag.mk (A3.call m4).mu;clear A0 A2 A3 P0 P2 P3 P m2 m4 E;refine bO rfl np rfl ?_
   repeat' (first|simp(maxSteps:=9999999) (disch:=first|exact dZ|fail) only[gW,reduceIte,ao,al,eF,aA,aJ,eC,pc,nw,dw,fO,dC,bZ,dA,fM,eH,bR,bT, *]|refine dX ?_ ?_<;>(intro _;try omega))
   exact⟨_,_,rfl,rfl,aN.out⟩
  |ok u4 l4=>
   rw[w4] at q4;obtain⟨v4,tok4,iI,rfl,rfl,m4,P4⟩:=q4;have A4:=A3.call m4;have hl4:l4.length<=l2.length:=(by have:=(vO [gx,gF]).len l2;rw[w4] at this;exact this);obtain⟨r5,h5,c5,q5⟩:=E b n0 tok4 iI l4 n p t h4 P4 (A4.mu.ok ho) (cY hn A4.mu.tn) aj;have l4':=A4.len;have l40:=A4.pQ;have x4:=A4.res;have p4:=A4.ptr;rw[bE];cases w5:cp m l4 with
   |bad l5=>
    rw[w5] at q5;obtain⟨rfl,m5⟩:=q5;have aN:=ag.mk (A4.call m5).mu;clear A0 A2 A3 A4 P0 P2 P3 P4 P m2 m4 m5 E;refine bO rfl np rfl ?_
    repeat' (first|simp(maxSteps:=9999999) (disch:=first|exact dZ|fail) only[gW,reduceIte,ao,al,eF,aA,aJ,eC,pc,nw,dw,fO,dC,bZ,dA,fM,eH,bR,bT, *]|refine dX ?_ ?_<;>(intro _;try omega))
    exact⟨_,_,rfl,rfl,aN.out⟩
   |ok xa l5=>
    rw[w5] at q5;obtain⟨v5,tok5,sz5,rfl,⟨tka,sza,rowsa,rfl,uj⟩,m5,P5⟩:=q5;have A5:=A4.call m5;have A6:=A5.set (ar 3 d 0 [] .tight 5 [ar xa.kind xa.n xa.no xa.name tka sza rowsa]);have P6:=P5.put (c:=h.boxes.length+1) aj (ar 3 d 0 [] .tight 5 [ar xa.kind xa.n xa.no xa.name tka sza rowsa]);have H0:l5.length<=l4.length:=(by have:=(s7 m).len l4;rw[w5] at this;exact this);obtain⟨r7,h7,c7,q7⟩:=aeD (c:=h.boxes.length) E n0 P6 A6.ptr aj (A6.mu.ok ho) (cY hn A6.mu.tn) aj (m+1) aj;simp only[gd] at c7;have l5':=A5.len;have l50:=A5.pQ;have x5:=A5.res;have p5:=A5.ptr;have p6:=A6.ptr;have x6:=A6.res;have l6:=A6.len;have fU:=PM uj;rw[bE];cases w7:cD gd (iV (cp m)) (m+1) l5 with
    |bad l7=>
     rw[w7] at q7;obtain⟨rfl,m7⟩:=q7;have aN:=ag.mk (A6.call m7).mu;clear A0 A2 A3 A4 A5 A6 P0 P2 P3 P4 P5 P6 P m2 m4 m5 m7 E uj fU;refine bO rfl np rfl ?_
     repeat' (first|simp(maxSteps:=9999999) (disch:=first|exact dZ|fail) only[gW,reduceIte,ao,al,eF,aA,aJ,eC,pc,nw,dw,fO,dC,bZ,dA,fM,eH,bR,bT, *]|refine dX ?_ ?_<;>(intro _;try omega))
     refine JU 4 [] ai ai ai ?_
     repeat' (first|simp(maxSteps:=9999999) (disch:=first|exact dZ|fail) only[gW,reduceIte,ao,al,eF,aA,aJ,eC,pc,nw,dw,fO,dC,bZ,dA,fM,eH,bR,bT,di,de,List.drop_succ_cons,fc,List.head?_cons,List.filterMap_cons,List.filterMap_nil,EF,EY,EL,DG,DH,and_true,true_and, *]|refine dX ?_ ?_<;>(intro _;try omega))
     exact⟨_,_,rfl,rfl,aN.out⟩
    |ok ts l7=>
     rw[w7] at q7;obtain⟨v7,tok7,sz7,rfl,⟨tkS,szS,rowsS,rfl,Ei,IC⟩,m7,P7⟩:=q7;have A7:=A6.call m7;have agB:=aeC (λl x r _ h=>aa3 h) _ _ _ _ w7;obtain⟨tokA,hA,oI,mA,eA⟩:=S9 (b:=b) (n0:=n0) (h:=h7) (row:=ar xa.kind xa.n xa.no xa.name tka sza rowsa) Ei IC (tokS:=tkS) aj;have A8:=A7.call mA;have A9:=A8.set (ar 3 d 0 [] tokA 5 (ar xa.kind xa.n xa.no xa.name tka sza rowsa::rowsS));have P8:Pa b tok7 sz7 l7 n p t hA:=⟨by rw[eA];exact P7.box,P7.size,P7.cI⟩;have P9:=P8.put (c:=h.boxes.length+1) aj (ar 3 d 0 [] tokA 5 (ar xa.kind xa.n xa.no xa.name tka sza rowsa::rowsS));obtain⟨r10,qs,c10,q10⟩:=ov n0 .tight gm P9;simp only[gm] at c10;have x7:=A7.res;have l7':=A7.len;have p7:=A7.ptr;have x8:=A8.res;have l8:=A8.len;have p9:=A9.ptr;rw[bE];cases w10:cS gm l7 with
     |bad l10=>
      rw[w10] at q10;obtain⟨rfl,m10⟩:=q10;have aN:=ag.mk (A9.call m10).mu;have ks:=ag.mk fU;clear A0 A2 A3 A4 A5 A6 A7 A8 A9 P0 P2 P3 P4 P5 P6 P7 P8 P9 P m2 m4 m5 m7 m10 mA E uj fU Ei IC eA;refine bO rfl np rfl ?_
      repeat' (first|simp(maxSteps:=9999999) (disch:=first|exact dZ|fail) only[gW,reduceIte,ao,al,eF,aA,aJ,eC,pc,nw,dw,fO,dC,bZ,dA,fM,eH,bR,bT, *]|refine dX ?_ ?_<;>(intro _;try omega))
      refine nM [(1,4)] ai ?_ ?_
      ·intro pr hp;simp only[qi] at hp;subst hp;refine uL (x:=.ptr (.box (h.boxes.length+1)) (0+4)) (v:=.list .tight 5 [ar xa.kind xa.n xa.no xa.name tka sza rowsa]) ai rfl rfl rfl ai (J3 ks.out _ _) ?_ ?_
       ·simp only[di,de]
        repeat' (first|simp(maxSteps:=9999999) (disch:=first|exact dZ|fail) only[gW,reduceIte,ao,al,eF,aA,aJ,eC,pc,nw,dw,fO,dC,bZ,dA,fM,eH,bR,bT, *]|refine dX ?_ ?_<;>(intro _;try omega))
        exact⟨by trivial,by trivial,by trivial⟩
       ·simp only[di,de]
        repeat' (first|simp(maxSteps:=9999999) (disch:=first|exact dZ|fail) only[gW,reduceIte,ao,al,eF,aA,aJ,eC,pc,nw,dw,fO,dC,bZ,dA,fM,eH,bR,bT, *]|refine dX ?_ ?_<;>(intro _;try omega))
        exact⟨by trivial,by trivial⟩
      ·repeat' (first|simp(maxSteps:=9999999) (disch:=first|exact dZ|fail) only[gW,reduceIte,ao,al,eF,aA,aJ,eC,pc,nw,dw,fO,dC,bZ,dA,fM,eH,bR,bT, *]|refine dX ?_ ?_<;>(intro _;try omega))
       exact⟨_,_,rfl,rfl,aN.out⟩
     |ok u10 l10=>
      rw[w10] at q10;obtain⟨v10,tok10,sz10,rfl,rfl,m10,P10⟩:=q10;have A10:=A9.call m10;have A11:=A10.set (ar 3 d 0 [] tokA 5 (ar xa.kind xa.n xa.no xa.name tka sza rowsa::rowsS));have l10':=A10.len;have x10:=A10.res;have x11:=A11.res;have aN:=ag.mk A11.mu;have kP:=ag.mk (P10.put (c:=h.boxes.length+1) aj (ar 3 d 0 [] tokA 5 (ar xa.kind xa.n xa.no xa.name tka sza rowsa::rowsS)));have krow:=ag.mk (PK (k:=3) (n:=d) (no:=0) (s:=[]) (l:=xa::ts) (tok:=tokA) (sz:=5) (ado fU Ei) (λ_ _=>rfl) (by simp;omega));have ks:=ag.mk fU;clear A0 A2 A3 A4 A5 A6 A7 A8 A9 A10 A11 P0 P2 P3 P4 P5 P6 P7 P8 P9 P10 P m2 m4 m5 m7 m10 mA E uj fU Ei IC eA;refine bO rfl np rfl ?_
      repeat' (first|simp(maxSteps:=9999999) (disch:=first|exact dZ|fail) only[gW,reduceIte,ao,al,eF,aA,aJ,eC,pc,nw,dw,fO,dC,bZ,dA,fM,eH,bR,bT, *]|refine dX ?_ ?_<;>(intro _;try omega))
      refine nM [(1,4)] ai ?_ ?_
      ·intro pr hp;simp only[qi] at hp;subst hp;refine uL (x:=.ptr (.box (h.boxes.length+1)) (0+4)) (v:=.list .tight 5 [ar xa.kind xa.n xa.no xa.name tka sza rowsa]) ai rfl rfl rfl ai (J3 ks.out _ _) ?_ ?_
       ·simp only[di,de]
        repeat' (first|simp(maxSteps:=9999999) (disch:=first|exact dZ|fail) only[gW,reduceIte,ao,al,eF,aA,aJ,eC,pc,nw,dw,fO,dC,bZ,dA,fM,eH,bR,bT, *]|refine dX ?_ ?_<;>(intro _;try omega))
        exact⟨by trivial,by trivial,by trivial⟩
       ·simp only[di,de]
        repeat' (first|simp(maxSteps:=9999999) (disch:=first|exact dZ|fail) only[gW,reduceIte,ao,al,eF,aA,aJ,eC,pc,nw,dw,fO,dC,bZ,dA,fM,eH,bR,bT, *]|refine dX ?_ ?_<;>(intro _;try omega))
        exact⟨by trivial,by trivial⟩
      ·repeat' (first|simp(maxSteps:=9999999) (disch:=first|exact dZ|fail) only[gW,reduceIte,ao,al,eF,aA,aJ,eC,pc,nw,dw,fO,dC,bZ,dA,fM,eH,bR,bT, *]|refine dX ?_ ?_<;>(intro _;try omega))
       exact⟨_,_,rfl,_,_,_,rfl,⟨_,_,_,rfl,krow.out⟩,aN.out,kP.out⟩
def Pu:∀m,yz m:=by
 intro m
 induction m with
 |zero=>intro b n0 tok sz l n p t h _ _ _ hl;exact absurd hl (ik _)|succ m E=>
  intro b n0 tok sz l n p t h P ho hn hl;cases w1:cq jz l with
  |true=>exact Wb n0 P w1|false=>
   cases w2:cq lf l with
   |true=>exact Wd n0 P w1 w2|false=>
    cases w3:cq ld l with|true=>exact Wc E n0 P ho hn aj w1 w2 w3|false=>exact Wa E n0 P ho hn aj w1 w2 w3
end
def adu:Tryz.f129.results.toList=[.tmp 4]:=ai
def Fp:Tryz.f148.results.toList=[.tmp 2]:=ai
def Fm:Tryz.f128.results.toList=[.tmp 6]:=ai
def af1(x:Value):(AV.v x).cF=aa [.v x]:=rfl
def Me(b:Nat)(s:List UInt8)(h:ae):W.call 129 [.ptr (.box b) 0,.v (.string (bs s))] h=aa (.ret (.func (.func 148) [] [.ptr (.box h.boxes.length) 0,.ptr (.box (h.boxes.length+1)) 0]),(h.push [.ptr (.box b) 0]).push [.v (.string (bs s))]):=by
 have a109:=wS;have s109:=yg;have a9:=dR;have s9:=oV;refine fg rfl Tryz.func129 rfl ?_
 repeat' (first|simp(maxSteps:=9999999) (disch:=first|exact dZ|fail) only[gW,reduceIte,ao,al,adu,eC,af1,aA, *]|refine dX ?_ ?_<;>(intro _;try omega))
section
variable {b:Nat} {tok:Tok} {sz:Nat} {l:List Tk} {n:Int} {p:Po} {t:PT} {h:ae}
def Vv{c c2:Nat}{s:List UInt8}(n0:Nat)(P:Pa b tok sz l n p t h)(hc:h.boxes[c]?=aa [.ptr (.box b) 0])(qu:h.boxes[c2]?=aa [.v (.string (bs s))])(pD:c≠b)(HD:c2≠b):Reads 148 [.ptr (.box c) 0,.ptr (.box c2) 0] b n0 n p t h Mo (gq s l):=by
 have a109:=wS;have s109:=yg;have a9:=dR;have s9:=oV;have bws:=nu s;have bwc:=nu bK;simp only[bK] at bwc;have nc:=(aF.1 hc).1;have nc2:=(aF.1 qu).1;have e1:gq s l=(cS s l).bind λ_ r=>(iw r).bind λx r=>(cS bK r).bind λ_ r=>.ok x r:=rfl;obtain⟨r1,h1,c1,q1⟩:=ov n0 .tight s P;unfold Reads;rw[e1];cases w1:cS s l with
 |bad l1=>
  rw[w1] at q1;obtain⟨rfl,m1⟩:=q1;refine bO rfl Gx rfl ?_
  repeat' (first|simp(maxSteps:=9999999) (disch:=first|exact dZ|fail) only[gW,reduceIte,ao,al,Fp,aJ, *]|refine dX ?_ ?_<;>(intro _;try omega))
  exact⟨_,_,rfl,rfl,m1⟩
 |ok u l1=>
  rw[w1] at q1;obtain⟨v1,tok1,mC,rfl,rfl,m1,P1⟩:=q1;obtain⟨r2,h2,c2',q2⟩:=BS n0 P1;have d1:=m1.box _ _ pD hc;have nd1:=(aF.1 d1).1;rw[bE];cases w2:iw l1 with
  |bad l2=>
   rw[w2] at q2;obtain⟨rfl,m2⟩:=q2;have aN:=ag.mk (m1.trans m2);clear m1 m2 P1 P;refine bO rfl Gx rfl ?_
   repeat' (first|simp(maxSteps:=9999999) (disch:=first|exact dZ|fail) only[gW,reduceIte,ao,al,Fp,aJ, *]|refine dX ?_ ?_<;>(intro _;try omega))
   exact⟨_,_,rfl,rfl,aN.out⟩
  |ok x l2=>
   rw[w2] at q2;obtain⟨v2,tok2,sz2,rfl,rfl,m2,P2⟩:=q2;obtain⟨r3,h3,c3,q3⟩:=ov n0 .tight bK P2;simp only[bK] at c3;have d2:=m2.box _ _ pD d1;have nd2:=(aF.1 d2).1;rw[bE];cases w3:cS bK l2 with
   |bad l3=>
    rw[w3] at q3;obtain⟨rfl,m3⟩:=q3;have aN:=ag.mk ((m1.trans m2).trans m3);clear m1 m2 m3 P1 P2 P;refine bO rfl Gx rfl ?_
    repeat' (first|simp(maxSteps:=9999999) (disch:=first|exact dZ|fail) only[gW,reduceIte,ao,al,Fp,aJ, *]|refine dX ?_ ?_<;>(intro _;try omega))
    exact⟨_,_,rfl,rfl,aN.out⟩
   |ok u3 l3=>
    rw[w3] at q3;obtain⟨v3,tok3,bQ,rfl,rfl,m3,P3⟩:=q3;have aN:=ag.mk ((m1.trans m2).trans m3);have kP:=ag.mk P3;clear m1 m2 m3 P1 P2 P3 P;refine bO rfl Gx rfl ?_
    repeat' (first|simp(maxSteps:=9999999) (disch:=first|exact dZ|fail) only[gW,reduceIte,ao,al,Fp,aJ, *]|refine dX ?_ ?_<;>(intro _;try omega))
    exact⟨_,_,rfl,_,_,_,rfl,rfl,aN.out,kP.out⟩
def Tc{h:ae}{tok k':Tok}{sz:Nat}{a:List (List UInt8)}{x:List UInt8}(hk:dx 0 h tok)(hs:sz=1∨(a=[]/\tok=.nil))(ha:a.length<=1000000000):
 iM aq h #[22,22] (.list tok sz (strs a)) (.list k' 1 [[.v (.string (bs x))]])=aa (.list (.free h.tn) 1 (strs (a++[x])),h.app tok):=by
 have hi:(aq.info? 9).map (λi=>(i.bytes,i.size,i.zero.map λz=>z.cells.size))=aa (16,1,aa 1):=ai;cases hq:aq.info? 9 with
 |none=>rw[hq] at hi;cases hi
 |some i=>
  rw[hq] at hi;simp only[cy,aY,aW] at hi;obtain⟨i1,i2,i3⟩:=hi;have la:=dL a;have:=wV (k':=k') (new:=[[.v (.string (bs x))]]) (es:=strs a) o9 o9 hq aj (by rw[i3,i2]) bh (by rw[i1,la];simp;omega) (by rw[la];simp;omega)
   (by rw[i2];rcases hs with q|⟨q,q2⟩;exact .inl q;exact .inr ⟨by rw[q];rfl,q2⟩) hk
  rw[i2] at this;have e:strs a++[[.v (.string (bs x))]]=strs (a++[x]):=by simp[strs]
  rw[e] at this;exact this
def VR(l:List (List UInt8))(v:AV):Prop:=∃tok sz,v=.list tok sz (strs l)/\∀i:Nat,i<l.length->sz=1
def Vw{s:List UInt8}{l r:List Tk}{x:List UInt8}(h:gq s l=.ok x r):r.length<l.length:=by have:=Hb h;omega
def Qr{c c2:Nat}{s:List UInt8}(n0:Nat)(P:Pa b tok sz l n p t h)(hc:h.boxes[c]?=aa [.ptr (.box b) 0])(qu:h.boxes[c2]?=aa [.v (.string (bs s))])(pD:c≠b)(HD:c2≠b)(ho:cR h=ab)(hn:n0<=h.tn)(f:Nat)(hf:l.length<f):
 Reads 128 [.ptr (.box b) 0,.v (.string (bs s)),.func (.func 148) [] [.ptr (.box c) 0,.ptr (.box c2) 0]] b n0 n p t h VR (cD s (gq s) f l):=by
 unfold Reads;have kP:=ag.mk P;have kc:=ag.mk hc;have kc2:=ag.mk qu;have ko:=ag.mk ho;have D7:=P.cI;clear P hc qu ho;refine bO rfl Tryz.func128 rfl ?_
 repeat' (first|simp(maxSteps:=9999999) (disch:=first|exact dZ|fail) only[gW,reduceIte,ao,al,Fm, *]|refine dX ?_ ?_<;>(intro _;try omega))
 refine eX (λk e h'=>∃(a:List (List UInt8)) (tokL:Tok) (szL:Nat) (tok':Tok) (sz':Nat) (l':List Tk) (f':Nat),k=l'.length/\e.get 0=.ptr (.box b) 0/\e.get 1=.v (.string (bs s))/\e.get 2=.func (.func 148) [] [.ptr (.box c) 0,.ptr (.box c2) 0]/\e.get 6=.list tokL szL (strs a)/\e.defers=[]/\
  l'.length<f'/\a.length+l'.length<=l.length/\cD s (gq s) f l=PR.pre a (cD s (gq s) f' l')/\(szL=1∨(a=[]/\tokL=.nil))/\dx n0 h' tokL/\bp b n0 h h'/\cR h'=ab/\Pa b tok' sz' l' n p t h') ?_ l.length _ _ ?_
 ·rintro k e h' ⟨a,tokL,szL,tok',sz',l',f',rfl,g0,g1,g2,g6,hd,D8,eE,od,bG,fi,hm,aU,hP⟩;have kpre:=ag.mk od;have ksz:=ag.mk bG;have kca:=ag.mk fi;have km:=ag.mk hm;have kok:=ag.mk aU;have kP':=ag.mk hP;clear od bG fi hm aU hP;have c1:=BJ s kP'.out;obtain⟨f'',rfl⟩:∃f'',f'=f''+1:=⟨f' - 1,by omega⟩;cases hi:cq s l' with
  |false=>
   rw[hi] at c1;have eU:cD s (gq s) f l=.ok a l':=(by rw[kpre.out];unfold cD;rw[hi,ax bq];show PR.ok (a++[]) l'=_;rw[dI]);rw[eU];clear eU
   repeat' (first|simp(maxSteps:=9999999) (disch:=first|exact dZ|fail) only[gW,reduceIte,ao,al,Fm, *]|refine dX ?_ ?_<;>(intro _;try omega))
   refine⟨_,_,rfl,_,_,_,rfl,⟨_,_,rfl,λi hi=>?_⟩,km.out,kP'.out⟩;rcases ksz.out with q|⟨q,-⟩
   ·exact q
   ·rw[q] at hi;simp at hi
  |true=>
   rw[hi] at c1;obtain⟨r2,h2,c2',q2⟩:=Vv (c:=c) (c2:=c2) h'.tn kP'.out (km.out.box _ _ pD kc.out) (km.out.box _ _ HD kc2.out) pD HD;cases w2:gq s l' with
   |bad l2=>
    rw[w2] at q2;obtain⟨rfl,m2⟩:=q2;have eU:cD s (gq s) f l=.bad l2:=(by rw[kpre.out];unfold cD;rw[aB hi,w2];rfl);rw[eU];have aN:=ag.mk (km.out.trans (m2.uP (cY hn km.out.tn)));clear eU m2
    repeat' (first|simp(maxSteps:=9999999) (disch:=first|exact dZ|fail) only[gW,reduceIte,ao,al,Fm,bR,bT, *]|refine dX ?_ ?_<;>(intro _;try omega))
    exact⟨_,_,rfl,rfl,aN.out⟩
   |ok x l2=>
    rw[w2] at q2;obtain⟨v2,tok2,sz2,rfl,rfl,m2,P2⟩:=q2;have eQ:=Vw w2;have gH:cD s (gq s) f l=PR.pre (a++[x]) (cD s (gq s) f'' l2):=by
     rw[kpre.out,<-JA];have e2:cD s (gq s) (f''+1) l'=(gq s l').bind λx r=>(cD s (gq s) f'' r).bind λt r=>.ok (x::t) r:=by
      conv=>lhs;unfold cD
      rw[aB hi]
     rw[e2,w2,bE]
    have kgo:=ag.mk gH;have km2:=ag.mk (km.out.trans (m2.uP (cY hn km.out.tn)));have kok2:=ag.mk (m2.ok kok.out);have kca2:dx n0 h2 tokL:=kca.out.mut m2 (aK _);have kca3:=ag.mk kca2;have oI:=Tc (h:=h2) (k':=.tight) (x:=x) (kca2.mono (cz _)) ksz.out aj;have bwx:=nu x;have kP2:=ag.mk P2;clear gH m2 kca2 P2
    repeat' (first|simp(maxSteps:=9999999) (disch:=first|exact dZ|fail) only[gW,reduceIte,ao,al,Fm,bR,bT, *]|refine dX ?_ ?_<;>(intro _;try omega))
    refine⟨l2.length,eQ,a++[x],_,_,tok2,sz2,l2,f'',rfl,(by first|trivial|(simp;done)|(simp;omega)),(by first|trivial|(simp;done)|(simp;omega)),(by first|trivial|(simp;done)|(simp;omega)),rfl,(by first|trivial|(simp;done)|(simp;omega)),by omega,by rw[cO,oY];omega,kgo.out,.inl rfl,?_,?_,?_,?_⟩
    ·exact kca3.out.next kok2.out (cY hn km2.out.tn)
    ·exact km2.out.GM kca3.out
    ·exact(bp.app (b:=0) kca3.out).ok kok2.out
    ·exact kP2.out.app _
 ·refine⟨[],.nil,0,tok,sz,l,f,rfl,?_,?_,?_,?_,?_,hf,by simp,(pre_nil _).symm,.inr ⟨rfl,rfl⟩,.inl rfl,bp.refl _ _ _,ko.out,kP.out⟩<;>exact gR
end
def we:Tryz.f131.results.toList=[.cell 2 62]:=ai
def Fo:Tryz.f130.results.toList=[.tmp 6]:=ai
def VP(x:Rl)(v:AV):Prop:=∃tok sz rows,v=.agg (aS x tok sz rows)/\Row x.expr (r5 x tok sz rows)
def VQ(l:List Rl)(v:AV):Prop:=∃tok sz rows,v=.list tok sz rows/\eo l rows/\∀i:Nat,i<l.length->sz=8
section
variable {h:ae} {c:Nat} {k k':List UInt8} {i th th':Int} {e x:Ex} {y y':Rl} {tok tok':Tok} {sz sz':Nat} {rows rows':List (List AV)}
def wu(hb:h.boxes[c]?=aa (aS ⟨k,i,th,e⟩ tok sz rows)):dh aq h 9 (.ptr (.box c) 0) (.v (.string (bs k')))=aa (h.put c (aS ⟨k',i,th,e⟩ tok sz rows)):=dK (off:=0) (cs:=aS ⟨k,i,th,e⟩ tok sz rows) (xs:=[.v (.string (bs k'))]) rfl oV hb rfl (aj:0+1<=8)
def wv(hb:h.boxes[c]?=aa (aS ⟨k,i,th,e⟩ tok sz rows)):dh aq h 3 (.ptr (.box c) 2) (.v (.int .i64 th'))=aa (h.put c (aS ⟨k,i,th',e⟩ tok sz rows)):=dK (off:=2) (cs:=aS ⟨k,i,th,e⟩ tok sz rows) (xs:=[.v (.int .i64 th')]) rfl bQ hb rfl (aj:2+1<=8)
def wy(hb:h.boxes[c]?=aa (aS ⟨k,i,th,e⟩ tok sz rows)):dh aq h 26 (.ptr (.box c) 3) (.agg (ar x.kind x.n x.no x.name tok' sz' rows'))=aa (h.put c (aS ⟨k,i,th,x⟩ tok' sz' rows')):=dK (off:=3) (cs:=aS ⟨k,i,th,e⟩ tok sz rows) (xs:=ar x.kind x.n x.no x.name tok' sz' rows') rfl ec hb rfl (aj:3+5<=8)
def sX(hb:h.boxes[c]?=aa (aS y tok sz rows)):dz aq Gt h 62 (.ptr (.box c) 0)=aa (.agg (aS y tok sz rows)):=nH pb mU hb (aK 8)
def rU(hb:h.boxes[c]?=aa (aS y tok sz rows)):dh aq h 62 (.ptr (.box c) 0) (.agg (aS y' tok' sz' rows'))=aa (h.put c (aS y' tok' sz' rows')):=dK (off:=0) (cs:=aS y tok sz rows) (xs:=aS y' tok' sz' rows') rfl mU hb rfl (aK 8)
def Tb(hk:dx 0 h tok)(hs:sz=8∨(rows=[]/\tok=.nil))(hl:rows.length<=1000000000){r:List AV}:
 iM aq h #[23,23] (.list tok sz rows) (.list .tight 8 [r])=aa (.list (.free h.tn) 8 (rows++[r]),h.app tok):=by
 have hi:(aq.info? 62).map (λi=>(decide (i.bytes<=1000),i.size,i.zero.map λz=>z.cells.size))=aa (ab,8,aa 8):=ai;cases hq:aq.info? 62 with
 |none=>rw[hq] at hi;cases hi
 |some i=>
  rw[hq] at hi;simp only[cy,aY,aW,decide_eq_true_eq] at hi;obtain⟨i1,i2,i3⟩:=hi;have hm:(rows.length+1) * i.bytes<=1000000001 * 1000:=Nat.mul_le_mul aj i1;have:=wV (k':=.tight) (new:=[r]) (es:=rows) lB lB hq aj (by rw[i3,i2]) bh (by simp only[oY];omega) (by simp only[oY];omega)
   (by rw[i2];exact hs) hk
  rw[i2] at this;exact this
end
def adF{m:Nat}{l r:List Tk}{x:Rl}(h:iA m l=.ok x r):r.length<l.length:=by
 have h1:=PW h;have h2:1<=(bP x).length:=by simp[bP]
 omega
section
variable {b:Nat} {tok:Tok} {sz:Nat} {l:List Tk} {n:Int} {p:Po} {t:PT} {h:ae}
def adE{m:Nat}(n0:Nat)(P:Pa b tok sz l n p t h)(ho:cR h=ab)(hn:n0<=h.tn)(hl:l.length<=m):Reads 131 [.ptr (.box b) 0] b n0 n p t h VP (iA m l):=by
 have a62:=pb;have s62:=mU;have z62:=Ky;have a9:=dR;have a26:=eG;have s26:=ec;have nb:=P.lt;have P0:=P.push (aS ⟨[],0,0,.mk 0 0 0 [] []⟩ .nil 0 []);have M0:=(bp.refl b n0 h).push (aS ⟨[],0,0,.mk 0 0 0 [] []⟩ .nil 0 []);have e0:=bX h (aS ⟨[],0,0,.mk 0 0 0 [] []⟩ .nil 0 []);have bw_rule:=nu eN;have bw_think:=nu nF;have bw_eq:=nu gn;have bw_semi:=nu bK;simp only[eN] at bw_rule;simp only[nF] at bw_think;simp only[gn] at bw_eq;simp only[bK] at bw_semi;have e9:iA m l=(cS eN l).bind λ_ r=>(iw r).bind λs r=>(cS nF r).bind λ_ r=>(iy r).bind λn r=>(cS gn r).bind λ_ r=>(cp m r).bind λx r=>(cS bK r).bind λ_ r=>.ok ⟨s,0,n,x⟩ r:=rfl;unfold Reads;rw[e9];obtain⟨r1,h1,c1,q1⟩:=ov n0 .tight eN P0;simp only[eN] at c1;cases w1:cS eN l with
 |bad l1=>
  rw[w1] at q1;obtain⟨rfl,m1⟩:=q1;have aN:=ag.mk (M0.trans m1);clear m1 M0 P0 P;refine bO rfl wR rfl ?_
  repeat' (first|simp(maxSteps:=9999999) (disch:=first|exact dZ|fail) only[gW,reduceIte,ao,al,we,aA,aJ,dt,wu,wv,wy,sX,rU,dA,bH, *]|refine dX ?_ ?_<;>(intro _;try omega))
  exact⟨_,_,rfl,rfl,aN.out⟩
 |ok u1 l1=>
  rw[w1] at q1;obtain⟨v1,tok1,mC,rfl,rfl,m1,Q1⟩:=q1;have d1:=m1.box _ _ aj e0;have nd1:=(aF.1 d1).1;have M1:=M0.trans m1;have P1:=Q1;have e1:=d1;rw[bE];obtain⟨r2,h2,c2,q2⟩:=BS n0 P1;cases w2:iw l1 with
  |bad l2=>
   rw[w2] at q2;obtain⟨rfl,m2⟩:=q2;have aN:=ag.mk (M1.trans m2);clear m2 M0 M1 P0 P1 P;refine bO rfl wR rfl ?_
   repeat' (first|simp(maxSteps:=9999999) (disch:=first|exact dZ|fail) only[gW,reduceIte,ao,al,we,aA,aJ,dt,wu,wv,wy,sX,rU,dA,bH, *]|refine dX ?_ ?_<;>(intro _;try omega))
   exact⟨_,_,rfl,rfl,aN.out⟩
  |ok s l2=>
   rw[w2] at q2;obtain⟨v2,tok2,sz2,rfl,rfl,m2,Q2⟩:=q2;have d2:=m2.box _ _ aj e1;have nd2:=(aF.1 d2).1;have M2:=(M1.trans m2).dm (c:=h.boxes.length) (aK _) (aS ⟨s,0,0,.mk 0 0 0 [] []⟩ .nil 0 []);have P2:=Q2.put (c:=h.boxes.length) aj (aS ⟨s,0,0,.mk 0 0 0 [] []⟩ .nil 0 []);have e2:(h2.put h.boxes.length (aS ⟨s,0,0,.mk 0 0 0 [] []⟩ .nil 0 [])).boxes[h.boxes.length]?=aa (aS ⟨s,0,0,.mk 0 0 0 [] []⟩ .nil 0 []):=mz nd2;rw[bE];obtain⟨r3,h3,c3,q3⟩:=ov n0 .tight nF P2;simp only[nF] at c3;cases w3:cS nF l2 with
   |bad l3=>
    rw[w3] at q3;obtain⟨rfl,m3⟩:=q3;have aN:=ag.mk (M2.trans m3);clear m3 M0 M1 M2 P0 P1 P2 P;refine bO rfl wR rfl ?_
    repeat' (first|simp(maxSteps:=9999999) (disch:=first|exact dZ|fail) only[gW,reduceIte,ao,al,we,aA,aJ,dt,wu,wv,wy,sX,rU,dA,bH, *]|refine dX ?_ ?_<;>(intro _;try omega))
    exact⟨_,_,rfl,rfl,aN.out⟩
   |ok u3 l3=>
    rw[w3] at q3;obtain⟨v3,tok3,bQ,rfl,rfl,m3,Q3⟩:=q3;have d3:=m3.box _ _ aj e2;have nd3:=(aF.1 d3).1;have M3:=M2.trans m3;have P3:=Q3;have e3:=d3;rw[bE];obtain⟨r4,h4,c4,q4⟩:=EO n0 P3;cases w4:iy l3 with
    |bad l4=>
     rw[w4] at q4;obtain⟨rfl,m4⟩:=q4;have aN:=ag.mk (M3.trans m4);clear m4 M0 M1 M2 M3 P0 P1 P2 P3 P;refine bO rfl wR rfl ?_
     repeat' (first|simp(maxSteps:=9999999) (disch:=first|exact dZ|fail) only[gW,reduceIte,ao,al,we,aA,aJ,dt,wu,wv,wy,sX,rU,dA,bH, *]|refine dX ?_ ?_<;>(intro _;try omega))
     exact⟨_,_,rfl,rfl,aN.out⟩
    |ok d l4=>
     rw[w4] at q4;obtain⟨v4,tok4,iI,rfl,rfl,m4,Q4⟩:=q4;have d4:=m4.box _ _ aj e3;have nd4:=(aF.1 d4).1;have M4:=(M3.trans m4).dm (c:=h.boxes.length) (aK _) (aS ⟨s,0,d,.mk 0 0 0 [] []⟩ .nil 0 []);have P4:=Q4.put (c:=h.boxes.length) aj (aS ⟨s,0,d,.mk 0 0 0 [] []⟩ .nil 0 []);have e4:(h4.put h.boxes.length (aS ⟨s,0,d,.mk 0 0 0 [] []⟩ .nil 0 [])).boxes[h.boxes.length]?=aa (aS ⟨s,0,d,.mk 0 0 0 [] []⟩ .nil 0 []):=mz nd4;rw[bE];obtain⟨r5,h5,c5,q5⟩:=ov n0 .tight gn P4;simp only[gn] at c5;cases w5:cS gn l4 with
     |bad l5=>
      rw[w5] at q5;obtain⟨rfl,m5⟩:=q5;have aN:=ag.mk (M4.trans m5);clear m5 M0 M1 M2 M3 M4 P0 P1 P2 P3 P4 P;refine bO rfl wR rfl ?_
      repeat' (first|simp(maxSteps:=9999999) (disch:=first|exact dZ|fail) only[gW,reduceIte,ao,al,we,aA,aJ,dt,wu,wv,wy,sX,rU,dA,bH, *]|refine dX ?_ ?_<;>(intro _;try omega))
      exact⟨_,_,rfl,rfl,aN.out⟩
     |ok u5 l5=>
      rw[w5] at q5;obtain⟨v5,tok5,sz5,rfl,rfl,m5,Q5⟩:=q5;have d5:=m5.box _ _ aj e4;have nd5:=(aF.1 d5).1;have M5:=M4.trans m5;have P5:=Q5;have e5:=d5;rw[bE];have H0:l5.length<m:=(by have:=gX w1;have:=zq w2;have:=gX w3;have:=xT w4;have:=gX w5;omega);obtain⟨r6,h6,c6,q6⟩:=Pu m b n0 tok5 sz5 l5 n p t h5 P5 (M5.ok ho) (cY hn M5.tn) H0;cases w6:cp m l5 with
      |bad l6=>
       rw[w6] at q6;obtain⟨rfl,m6⟩:=q6;have aN:=ag.mk (M5.trans m6);clear m6 M0 M1 M2 M3 M4 M5 P0 P1 P2 P3 P4 P5 P;refine bO rfl wR rfl ?_
       repeat' (first|simp(maxSteps:=9999999) (disch:=first|exact dZ|fail) only[gW,reduceIte,ao,al,we,aA,aJ,dt,wu,wv,wy,sX,rU,dA,bH, *]|refine dX ?_ ?_<;>(intro _;try omega))
       exact⟨_,_,rfl,rfl,aN.out⟩
      |ok x l6=>
       rw[w6] at q6;obtain⟨v6,tok6,sz6,rfl,⟨tkx,szx,rowsx,rfl,iv⟩,m6,Q6⟩:=q6;have d6:=m6.box _ _ aj e5;have nd6:=(aF.1 d6).1;have M6:=(M5.trans m6).dm (c:=h.boxes.length) (aK _) (aS ⟨s,0,d,x⟩ tkx szx rowsx);have P6:=Q6.put (c:=h.boxes.length) aj (aS ⟨s,0,d,x⟩ tkx szx rowsx);have e6:(h6.put h.boxes.length (aS ⟨s,0,d,x⟩ tkx szx rowsx)).boxes[h.boxes.length]?=aa (aS ⟨s,0,d,x⟩ tkx szx rowsx):=mz nd6;rw[bE];obtain⟨r7,h7,c7,q7⟩:=ov n0 .tight bK P6;simp only[bK] at c7;cases w7:cS bK l6 with
       |bad l7=>
        rw[w7] at q7;obtain⟨rfl,m7⟩:=q7;have aN:=ag.mk (M6.trans m7);clear m7 M0 M1 M2 M3 M4 M5 M6 P0 P1 P2 P3 P4 P5 P6 P;refine bO rfl wR rfl ?_
        repeat' (first|simp(maxSteps:=9999999) (disch:=first|exact dZ|fail) only[gW,reduceIte,ao,al,we,aA,aJ,dt,wu,wv,wy,sX,rU,dA,bH, *]|refine dX ?_ ?_<;>(intro _;try omega))
        exact⟨_,_,rfl,rfl,aN.out⟩
       |ok u7 l7=>
        rw[w7] at q7;obtain⟨v7,tok7,sz7,rfl,rfl,m7,Q7⟩:=q7;have d7:=m7.box _ _ aj e6;have nd7:=(aF.1 d7).1;have M7:=M6.trans m7;have P7:=Q7;have e7:=d7;have aN:=ag.mk (M7.dm (c:=h.boxes.length) (aK _) (aS ⟨s,0,d,x⟩ tkx szx rowsx));have kP:=ag.mk (P7.put (c:=h.boxes.length) aj (aS ⟨s,0,d,x⟩ tkx szx rowsx));have khr:=ag.mk iv;clear m1 M1 P1 m2 M2 P2 m3 M3 P3 m4 M4 P4 m5 M5 P5 m6 M6 P6 m7 M7 P7 Q6 Q4 Q2 M0 P0 P iv;refine bO rfl wR rfl ?_
        repeat' (first|simp(maxSteps:=9999999) (disch:=first|exact dZ|fail) only[gW,reduceIte,ao,al,we,aA,aJ,dt,wu,wv,wy,sX,rU,dA,bH, *]|refine dX ?_ ?_<;>(intro _;try omega))
        exact⟨_,_,rfl,_,_,_,rfl,⟨_,_,_,rfl,khr.out⟩,aN.out,kP.out⟩
def aeG{m:Nat}(n0:Nat)(P:Pa b tok sz l n p t h)(hlm:l.length<=m)(ho:cR h=ab)(hn:n0<=h.tn)(f:Nat)(hf:l.length<f):
 Reads 130 [.ptr (.box b) 0,.v (.string (bs eN)),.func (.func 131) [.ptr (.box b) 0] []] b n0 n p t h VQ (cD eN (iA m) f l):=by
 unfold Reads;have kP:=ag.mk P;have ko:=ag.mk ho;have D7:=P.cI;clear P ho;refine bO rfl Tryz.func130 rfl ?_
 repeat' (first|simp(maxSteps:=9999999) (disch:=first|exact dZ|fail) only[gW,reduceIte,ao,al,Fo, *]|refine dX ?_ ?_<;>(intro _;try omega))
 refine eX (λk e h'=>∃(a:List Rl) (tokL:Tok) (szL:Nat) (rowsL:List (List AV)) (tok':Tok) (sz':Nat) (l':List Tk) (f':Nat),k=l'.length/\e.get 0=.ptr (.box b) 0/\e.get 1=.v (.string (bs eN))/\e.get 2=.func (.func 131) [.ptr (.box b) 0] []/\e.get 6=.list tokL szL rowsL/\e.defers=[]/\
  l'.length<f'/\a.length+l'.length<=l.length/\cD eN (iA m) f l=PR.pre a (cD eN (iA m) f' l')/\(eo a rowsL/\(szL=8∨(rowsL=[]/\tokL=.nil)))/\dx n0 h' tokL/\bp b n0 h h'/\cR h'=ab/\Pa b tok' sz' l' n p t h') ?_ l.length _ _ ?_
 ·rintro k e h' ⟨a,tokL,szL,rowsL,tok',sz',l',f',rfl,g0,g1,g2,g6,hd,D8,eE,od,⟨et,bG⟩,fi,hm,aU,hP⟩;have kpre:=ag.mk od;have ksz:=ag.mk bG;have krow:=ag.mk et;have gh:=et.1;have kca:=ag.mk fi;have km:=ag.mk hm;have kok:=ag.mk aU;have kP':=ag.mk hP;clear od et bG fi hm aU hP;have c1:=BJ eN kP'.out;obtain⟨f'',rfl⟩:∃f'',f'=f''+1:=⟨f' - 1,by omega⟩;cases hi:cq eN l' with
  |false=>
   rw[hi] at c1;have eU:cD eN (iA m) f l=.ok a l':=(by rw[kpre.out];unfold cD;rw[hi,ax bq];show PR.ok (a++[]) l'=_;rw[dI]);rw[eU];clear eU
   repeat' (first|simp(maxSteps:=9999999) (disch:=first|exact dZ|fail) only[gW,reduceIte,ao,al,Fo, *]|refine dX ?_ ?_<;>(intro _;try omega))
   refine⟨_,_,rfl,_,_,_,rfl,⟨_,_,_,rfl,krow.out,λi hi=>?_⟩,km.out,kP'.out⟩;rcases ksz.out with q|⟨q,-⟩
   ·exact q
   ·exfalso;have:=krow.out.1;rw[q] at this;simp at this;omega
  |true=>
   rw[hi] at c1;obtain⟨r2,h2,c2',q2⟩:=adE (m:=m) h'.tn kP'.out kok.out (aK _) aj;cases w2:iA m l' with
   |bad l2=>
    rw[w2] at q2;obtain⟨rfl,m2⟩:=q2;have eU:cD eN (iA m) f l=.bad l2:=(by rw[kpre.out];unfold cD;rw[aB hi,w2];rfl);rw[eU];have aN:=ag.mk (km.out.trans (m2.uP (cY hn km.out.tn)));clear eU m2
    repeat' (first|simp(maxSteps:=9999999) (disch:=first|exact dZ|fail) only[gW,reduceIte,ao,al,Fo,bR,bT,dI,yG, *]|refine dX ?_ ?_<;>(intro _;try omega))
    exact⟨_,_,rfl,rfl,aN.out⟩
   |ok x l2=>
    rw[w2] at q2;obtain⟨v2,tok2,sz2,rfl,⟨tkx,szx,rowsx,rfl,iv⟩,m2,P2⟩:=q2;have eQ:=adF w2;have gH:cD eN (iA m) f l=PR.pre (a++[x]) (cD eN (iA m) f'' l2):=by
     rw[kpre.out,<-JA];have e2:cD eN (iA m) (f''+1) l'=(iA m l').bind λx r=>(cD eN (iA m) f'' r).bind λt r=>.ok (x::t) r:=by
      conv=>lhs;unfold cD
      rw[aB hi]
     rw[e2,w2,bE]
    have kgo:=ag.mk gH;have km2:=ag.mk (km.out.trans (m2.uP (cY hn km.out.tn)));have kok2:=ag.mk (m2.ok kok.out);have kca2:dx n0 h2 tokL:=kca.out.mut m2 (aK _);have kca3:=ag.mk kca2;have oI:=Tb (h:=h2) (r:=aS x tkx szx rowsx) (kca2.mono (cz _)) ksz.out aj;have khr:=ag.mk iv;have kP2:=ag.mk P2;clear gH m2 kca2 P2 iv
    repeat' (first|simp(maxSteps:=9999999) (disch:=first|exact dZ|fail) only[gW,reduceIte,ao,al,Fo,bR,bT,dI,yG, *]|refine dX ?_ ?_<;>(intro _;try omega))
    refine⟨l2.length,eQ,a++[x],_,_,_,tok2,sz2,l2,f'',rfl,(by first|trivial|(simp;done)|(simp;omega)),(by first|trivial|(simp;done)|(simp;omega)),(by first|trivial|(simp;done)|(simp;omega)),rfl,(by first|trivial|(simp;done)|(simp;omega)),by omega,by rw[cO,oY];omega,kgo.out,⟨eo.snoc krow.out (oz.mk khr.out),.inl rfl⟩,?_,?_,?_,?_⟩
    ·exact kca3.out.next kok2.out (cY hn km2.out.tn)
    ·exact km2.out.GM kca3.out
    ·exact(bp.app (b:=0) kca3.out).ok kok2.out
    ·exact kP2.out.app _
 ·refine⟨[],.nil,0,[],tok,sz,l,f,rfl,?_,?_,?_,?_,?_,hf,by simp,(pre_nil _).symm,⟨eo.nil,.inr ⟨rfl,rfl⟩⟩,.inl rfl,bp.refl _ _ _,ko.out,kP.out⟩<;>exact gR
end
def adD:Tryz.f74.results.toList=[.tmp 0]:=ai
def tx:Tryz.f76.results.toList=[]:=ai
def s4:List (List UInt8):=[[],pN,pM,pK,pL]
def OI(h:ae):W.call 74 [] h=aa (.ret (.list .tight 1 (strs s4)),h):=by
 have hb:gl aq 22 5 [(1,.v (.string (bs pN))),(2,.v (.string (bs pM))),(3,.v (.string (bs pK))),(4,.v (.string (bs pL)))]=aa (.list .tight 1 (strs s4)):=ai;simp only[pN,pM,pK,pL] at hb;refine fg rfl Tryz.func74 rfl ?_
 repeat' (first|simp(maxSteps:=9999999) (disch:=first|exact dZ|fail) only[gW,reduceIte,ao,al,adD,hb, *]|refine dX ?_ ?_<;>(intro _;try omega))
section
variable {h:ae} {b:Nat} {tok:Tok} {sz:Nat} {l:List Tk} {n:Int} {p:Po} {t:PT} {s:List UInt8} {m:Int} {tok':Tok} {sz':Nat} {rows':List (List AV)} {x:Ex}
def QE(hb:h.boxes[b]?=aa (par tok sz l n p t)):dh aq h 9 (.ptr (.box b) 2) (.v (.string (bs s)))=aa (h.put b (par tok sz l n {p with name:=s} t)):=dK (off:=2) (cs:=par tok sz l n p t) (xs:=[.v (.string (bs s))]) rfl oV hb rfl (aj:2+1<=12)
def afi(hb:h.boxes[b]?=aa (par tok sz l n p t)):dh aq h 3 (.ptr (.box b) 11) (.v (.int .i64 m))=aa (h.put b (par tok sz l n {p with mode:=m} t)):=dK (off:=11) (cs:=par tok sz l n p t) (xs:=[.v (.int .i64 m)]) rfl bQ hb rfl (aj:11+1<=12)
def QF{o:List (List UInt8)}(hb:h.boxes[b]?=aa (par tok sz l n p t)):dh aq h 22 (.ptr (.box b) 4) (.list tok' sz' (strs o))=aa (h.put b (par tok sz l n {p with aO:=o} {t with to:=tok',so:=sz'})):=dK (off:=4) (cs:=par tok sz l n p t) (xs:=[.list tok' sz' (strs o)]) rfl yh hb rfl (aj:4+1<=12)
def afh{o:List (List UInt8)}(hb:h.boxes[b]?=aa (par tok sz l n p t)):dh aq h 22 (.ptr (.box b) 3) (.list tok' sz' (strs o))=aa (h.put b (par tok sz l n {p with kinds:=o} {t with tk:=tok',sk:=sz'})):=dK (off:=3) (cs:=par tok sz l n p t) (xs:=[.list tok' sz' (strs o)]) rfl yh hb rfl (aj:3+1<=12)
def afj{w:List Rl}(hb:h.boxes[b]?=aa (par tok sz l n p t)):dh aq h 23 (.ptr (.box b) 5) (.list tok' sz' rows')=aa (h.put b (par tok sz l n {p with rules:=w} {t with tr:=tok',sr:=sz',rr:=rows'})):=dK (off:=5) (cs:=par tok sz l n p t) (xs:=[.list tok' sz' rows']) rfl FQ hb rfl (aj:5+1<=12)
def QD(hb:h.boxes[b]?=aa (par tok sz l n p t)):dh aq h 26 (.ptr (.box b) 6) (.agg (ar x.kind x.n x.no x.name tok' sz' rows'))=aa (h.put b (par tok sz l n {p with change:=x} {t with tok:=tok',sz:=sz',rows:=rows'})):=dK (off:=6) (cs:=par tok sz l n p t) (xs:=ar x.kind x.n x.no x.name tok' sz' rows') rfl ec hb rfl (aj:6+5<=12)
def Jx:((par tok sz l n p t).drop 11).head?=aa (.v (.int .i64 p.mode)):=rfl
def sW(hb:h.boxes[b]?=aa (par tok sz l n p t)):dz aq Gt h 28 (.ptr (.box b) 2)=aa (.agg (au p t)):=nH iE gV hb (aj:2+10<=12)
def Pa.with(P:Pa b tok sz l n p t h){p':Po}{t':PT}:Pa b tok sz l n p' t' (h.put b (par tok sz l n p' t')):=⟨mz P.lt,P.size,P.cI⟩
end
def RN(b n0:Nat)(n:Int)(p:Po)(t:PT)(h:ae)(pr:PR (List UInt8 × Int))(r:bw)(h':ae):Prop:=
 match pr with
 | .ok x l=>∃tok sz,r=.ret (.tuple [])/\bp b n0 h h'/\Pa b tok sz l n {p with name:=x.1,mode:=x.2} t h'
 | .bad l=>r=.panic (wH (j9 n l))/\bp b n0 h h'
def aaT(i:Nat)(hi:i<5)(mo:Int)(l:List Tk)(s:List UInt8)(hs:s4[i]?=aa s):if i=0 then hX (jT.drop (i - 1)) mo l=hX (jT.drop i) mo l else hX (jT.drop (i - 1)) mo l=if cq s l=ab then hX (jT.drop i) (i:Int) l.tail else hX (jT.drop i) mo l:=by
 have:i=0∨i=1∨i=2∨i=3∨i=4:=by omega
 rcases this with rfl|rfl|rfl|rfl|rfl
 ·rfl
 all_goals
  injection hs with hs;subst hs;rfl
section
variable {b:Nat} {tok:Tok} {sz:Nat} {l:List Tk} {n:Int} {p:Po} {t:PT} {h:ae}
def Yc(n0:Nat)(P:Pa b tok sz l n p t h)(vB:p.mode=0):∃r h',W.call 76 [.ptr (.box b) 0] h=aa (r,h')/\RN b n0 n p t h (rq l) r h':=by
 have a9:=dR;have s9:=oV;have u22:=o9;have u9:=fH;have a3:=dE;have km0:=ag.mk vB;clear vB;have nb:=P.lt;have bw_pol:=nu mr;have bw_semi:=nu bK;have bw_2:=nw bK mq;simp only[mr] at bw_pol;simp only[bK] at bw_semi;simp only[bK,mq] at bw_2;have mev:=OI;have e9:rq l=(cS mr l).bind λ_ r=>(iw r).bind λs r=>(fm [bK,mq] r).bind λ_ r=>(hX jT 0 r).bind λn r=>(cS bK r).bind λ_ r=>.ok (s,n) r:=rfl;obtain⟨r1,h1,c1,q1⟩:=ov n0 .tight mr P;simp only[mr] at c1;rw[e9];cases w1:cS mr l with
 |bad l1=>
  rw[w1] at q1;obtain⟨rfl,m1⟩:=q1;refine bO rfl GA rfl ?_
  repeat' (first|simp(maxSteps:=9999999) (disch:=first|exact dZ|fail) only[gW,reduceIte,ao,al,tx, *]|refine dX ?_ ?_<;>(intro _;try omega))
  exact⟨_,_,rfl,rfl,m1⟩
 |ok u1 l1=>
  rw[w1] at q1;obtain⟨v1,tok1,mC,rfl,rfl,m1,P1⟩:=q1;obtain⟨r2,h2,c2,q2⟩:=BS n0 P1;rw[bE];cases w2:iw l1 with
  |bad l2=>
   rw[w2] at q2;obtain⟨rfl,m2⟩:=q2;have aN:=ag.mk (m1.trans m2);clear m1 m2 P1 P;refine bO rfl GA rfl ?_
   repeat' (first|simp(maxSteps:=9999999) (disch:=first|exact dZ|fail) only[gW,reduceIte,ao,al,tx, *]|refine dX ?_ ?_<;>(intro _;try omega))
   exact⟨_,_,rfl,rfl,aN.out⟩
  |ok s l2=>
   rw[w2] at q2;obtain⟨v2,tok2,sz2,rfl,rfl,m2,Q2⟩:=q2;have b2:=Q2.box;have nb2:=Q2.lt;have P2:=Q2.with (p':={p with name:=s}) (t':=t);have M2:=(m1.trans m2).trans (.put b n0 h2 (par tok2 sz2 l2 n {p with name:=s} t));obtain⟨r3,h3,c3,q3⟩:=F3 n0 .tight [bK,mq] bh P2;simp only[bK,mq] at c3;rw[bE];cases w3:fm [bK,mq] l2 with
   |bad l3=>
    rw[w3] at q3;obtain⟨rfl,m3⟩:=q3;have aN:=ag.mk (M2.trans m3);clear m1 m2 m3 M2 P1 P2 Q2 P;refine bO rfl GA rfl ?_
    repeat' (first|simp(maxSteps:=9999999) (disch:=first|exact dZ|fail) only[gW,reduceIte,ao,al,tx,dq,bN,QE,gL,gD, *]|refine dX ?_ ?_<;>(intro _;try omega))
    exact⟨_,_,rfl,rfl,aN.out⟩
   |ok u3 l3=>
    rw[w3] at q3;obtain⟨v3,tok3,bQ,rfl,rfl,m3,P3⟩:=q3;have M3:=M2.trans m3;have kM3:=ag.mk M3;have kP3:=ag.mk P3;rw[bE];clear m1 m2 m3 M2 M3 P1 P2 P3 Q2 P;refine bO rfl GA rfl ?_
    repeat' (first|simp(maxSteps:=9999999) (disch:=first|exact dZ|fail) only[gW,reduceIte,ao,al,tx,dq,bN,QE,gL,gD, *]|refine dX ?_ ?_<;>(intro _;try omega))
    refine eX (λk e h'=>∃(i:Nat) (mo:Int) (tok':Tok) (sz':Nat) (l':List Tk),i<=5/\k=5 - i/\e.get 0=.ptr (.box b) 0/\e.get 16=.list .tight 1 (strs s4)/\e.get 17=.v (.int .i64 5)/\e.get 18=.v (.int .i64 (i:Nat))/\e.defers=[]/\hX jT 0 l3=hX (jT.drop (i - 1)) mo l'/\bp b n0 h h'/\Pa b tok' sz' l' n {p with name:=s,mode:=mo} t h') ?_ 5 _ _ ?_
    ·rintro k e h' ⟨i,mo,tok',sz',l',hi,rfl,g0,g16,g17,g18,hd,gH,hm,hP⟩;have km:=ag.mk hm;have kgo:=ag.mk gH;have kP:=ag.mk hP;clear hm gH hP c1 c2 c3;by_cases ay:i<5
     ·obtain⟨w,hw⟩:∃w,s4[i]?=aa w:=⟨_,cv ay⟩;have xH:(strs s4)[i]?=aa [.v (.string (bs w))]:=(by rw[ot,hw];rfl);have dU:(i:Int)<((strs s4).length:Int):=(by rw[dL];show(i:Int)<(5:Nat);omega);have fX:(i:Int)<5:=(by omega);have bC:=aaT i ay mo l' w hw;by_cases h0:i=0
      ·rw[aB h0] at bC;have kst:=ag.mk bC;have qp:¬(0:Int)<(i:Int):=(by omega);have AT:decide ((0:Int)<(i:Int))=ak:=mH qp;clear bC hw h0
       repeat' (first|simp(maxSteps:=9999999) (disch:=first|exact dZ|fail) only[gW,reduceIte,ao,al,tx,aV,ck,aJ, *]|refine dX ?_ ?_<;>(intro _;try omega))
       refine⟨5 - (i+1),by omega,i+1,mo,tok',sz',l',by omega,rfl,(by first|trivial|(simp;done)|(simp;omega)),(by first|trivial|(simp;done)|(simp;omega)),(by first|trivial|(simp;done)|(simp;omega)),(by first|trivial|(simp;done)|(simp;omega)),(by first|trivial|(simp;done)|(simp;omega)),?_,km.out,kP.out⟩;rw[kgo.out,kst.out];rfl
      ·rw[ax h0] at bC;have qp:(0:Int)<(i:Int):=(by omega);have AT:decide ((0:Int)<(i:Int))=ab:=fJ qp;cases ku:cq w l' with
       |false=>
        rw[ku,ax bq] at bC;have kst:=ag.mk bC;have ct:=wE kP.out ku;clear bC hw ku
        repeat' (first|simp(maxSteps:=9999999) (disch:=first|exact dZ|fail) only[gW,reduceIte,ao,al,tx,aV,ck,aJ, *]|refine dX ?_ ?_<;>(intro _;try omega))
        refine⟨5 - (i+1),by omega,i+1,mo,tok',sz',l',by omega,rfl,(by first|trivial|(simp;done)|(simp;omega)),(by first|trivial|(simp;done)|(simp;omega)),(by first|trivial|(simp;done)|(simp;omega)),(by first|trivial|(simp;done)|(simp;omega)),(by first|trivial|(simp;done)|(simp;omega)),?_,km.out,kP.out⟩;rw[kgo.out,kst.out];rfl
       |true=>
        rw[ku,aB rfl] at bC;cases l' with
        |nil=>cases ku
        |cons x r=>
         have kst:=ag.mk bC;have ct:=CL kP.out ku;have P4:=kP.out.next (tok':=jq tok' ab ak r.length);have b4:=P4.box;have nb4:=P4.lt;have kP5:=ag.mk (P4.with (p':={p with name:=s,mode:=(i:Int)}) (t':=t));have kM5:=ag.mk ((km.out.trans (.put b n0 h' (par (jq tok' ab ak r.length) 4 r n {p with name:=s,mode:=mo} t))).trans (.put b n0 _ (par (jq tok' ab ak r.length) 4 r n {p with name:=s,mode:=(i:Int)} t)));clear bC hw ku P4
         repeat' (first|simp(maxSteps:=9999999) (disch:=first|exact dZ|fail) only[gW,reduceIte,ao,al,tx,aV,ck,aJ,dq,bN,afi,gL,gD,gE, *]|refine dX ?_ ?_<;>(intro _;try omega))
         refine⟨5 - (i+1),by omega,i+1,(i:Int),_,4,r,by omega,rfl,(by first|trivial|(simp;done)|(simp;omega)),(by first|trivial|(simp;done)|(simp;omega)),(by first|trivial|(simp;done)|(simp;omega)),(by first|trivial|(simp;done)|(simp;omega)),(by first|trivial|(simp;done)|(simp;omega)),?_,kM5.out,kP5.out⟩;rw[kgo.out,kst.out];rfl
     ·have cJ:i=5:=(by omega);subst cJ;have b5:=kP.out.box;have nb5:=kP.out.lt;have eU:hX jT 0 l3=if mo=0 then .bad l' else .ok mo l':=by rw[kgo.out];rfl
      by_cases hz:mo=0
      ·rw[aB hz] at eU;rw[eU];have cf:=vk kP.out;have ur:decide (mo=0)=ab:=fJ hz;clear eU
       repeat' (first|simp(maxSteps:=9999999) (disch:=first|exact dZ|fail) only[gW,reduceIte,ao,al,tx,dq,bN,Jx,gL,gD,gE, *]|refine dX ?_ ?_<;>(intro _;try omega))
       exact⟨_,_,rfl,rfl,km.out⟩
      ·rw[ax hz] at eU;rw[eU,bE];have ur:decide (mo=0)=ak:=mH hz;obtain⟨r6,h6,c6,q6⟩:=ov n0 .tight bK kP.out;simp only[bK] at c6;clear eU;cases w6:cS bK l' with
       |bad l6=>
        rw[w6] at q6;obtain⟨rfl,m6⟩:=q6;have aN:=ag.mk (km.out.trans m6);clear m6
        repeat' (first|simp(maxSteps:=9999999) (disch:=first|exact dZ|fail) only[gW,reduceIte,ao,al,tx,dq,bN,Jx,gL,gD,gE, *]|refine dX ?_ ?_<;>(intro _;try omega))
        exact⟨_,_,rfl,rfl,aN.out⟩
       |ok u6 l6=>
        rw[w6] at q6;obtain⟨v6,tok6,sz6,rfl,rfl,m6,P6⟩:=q6;have aN:=ag.mk (km.out.trans m6);have kP6:=ag.mk P6;clear m6 P6
        repeat' (first|simp(maxSteps:=9999999) (disch:=first|exact dZ|fail) only[gW,reduceIte,ao,al,tx,dq,bN,Jx,gL,gD,gE, *]|refine dX ?_ ?_<;>(intro _;try omega))
        exact⟨_,_,rfl,_,_,rfl,aN.out,kP6.out⟩
    ·refine⟨0,0,tok3,bQ,l3,by omega,rfl,?_,?_,?_,?_,?_,rfl,kM3.out,?_⟩
     iterate 5
      ·simp only[gW,reduceIte,ao,al,dL]<;>rfl
     ·have:=kP3.out;rw[show({p with name:=s}:Po)={p with name:=s,mode:=0} from by rw[<-km0.out]] at this;exact this
end
def qQ:Tryz.f29.results.toList=[]:=ai
def qk(t1 t2 t3 t4 t5 t6:TypeId)(x1 x2 x3 x4 x5 x6:AV):gl aq 160 6 [(0,.iface t1 x1),(1,.iface t2 x2),(2,.iface t3 x3),(3,.iface t4 x4),(4,.iface t5 x5),(5,.iface t6 x6)]=aa (.list .tight 1 [[.iface t1 x1],[.iface t2 x2],[.iface t3 x3],[.iface t4 x4],[.iface t5 x5],[.iface t6 x6]]):=ai
def ql(t1 t2 t3 t4 t5 t6 t7:TypeId)(x1 x2 x3 x4 x5 x6 x7:AV):gl aq 160 7 [(0,.iface t1 x1),(1,.iface t2 x2),(2,.iface t3 x3),(3,.iface t4 x4),(4,.iface t5 x5),(5,.iface t6 x6),(6,.iface t7 x7)]=aa (.list .tight 1 [[.iface t1 x1],[.iface t2 x2],[.iface t3 x3],[.iface t4 x4],[.iface t5 x5],[.iface t6 x6],[.iface t7 x7]]):=ai
def qJ(p:Po)(t:PT):(AV.agg (au p t)).cF=aa (au p t):=rfl
def rcl(x:Rl)(tok:Tok)(sz:Nat)(rows:List (List AV)):(AV.agg (aS x tok sz rows)).cF=aa (aS x tok sz rows):=rfl
def qK(p:Po)(t:PT):((au p t).drop 0).head?=aa (.v (.string (bs p.name))):=rfl
def qL(p:Po)(t:PT):((au p t).drop 1).head?=aa (.list t.tk t.sk (strs p.kinds)):=rfl
def qM(p:Po)(t:PT):((au p t).drop 2).head?=aa (.list t.to t.so (strs p.aO)):=rfl
def qN(p:Po)(t:PT):((au p t).drop 3).head?=aa (.list t.tr t.sr t.rr):=rfl
def qO(p:Po)(t:PT):((au p t).drop 9).head?=aa (.v (.int .i64 p.mode)):=rfl
def aca(x:Rl)(tok:Tok)(sz:Nat)(rows:List (List AV)):((aS x tok sz rows).drop 0).head?=aa (.v (.string (bs x.kind))):=rfl
def acb(x:Rl)(tok:Tok)(sz:Nat)(rows:List (List AV)):((aS x tok sz rows).drop 2).head?=aa (.v (.int .i64 x.gz)):=rfl
def JC(x:Rl)(tok:Tok)(sz:Nat)(rows:List (List AV)):((aS x tok sz rows).drop 0).take 8=aS x tok sz rows:=rfl
def acd(x:Rl)(tok:Tok)(sz:Nat)(rows:List (List AV)):8<=((aS x tok sz rows).drop 0).length:=aK 8
def aaP{n:Int}(h1:1<=n)(h2:n<=4):(strs s4)[n.toNat]?=aa [.v (.string (bs (pS n)))]:=by
 have:n=1∨n=2∨n=3∨n=4:=by omega
 rcases this with rfl|rfl|rfl|rfl<;>rfl
def aaQ:(strs s4).length=5:=rfl
def uF(p:Po):List Tk:=[wT mr,nT p.name,wT bK,wT mq,nT (pS p.mode),wT bK]
def vT(p:Po):List Tk:=uF p++ia dM p.aO
def uG(p:Po):List Tk:=vT p++ia ez p.kinds
def E1(p:Po):List Tk:=uG p++p.rules.flatMap bP
def Kr(p:Po):dH p=E1 p++([wT jR,wT gn]++(cM p.change++[wT bK])):=by simp[dH,E1,uG,vT,uF,lz]
def QP(p:Po):dH p=uG p++(p.rules.flatMap bP++([wT jR,wT gn]++(cM p.change++[wT bK]))):=by rw[Kr,E1,lz]
def QO(p:Po):dH p=vT p++(ia ez p.kinds++(p.rules.flatMap bP++([wT jR,wT gn]++(cM p.change++[wT bK])))):=by rw[QP,uG,lz]
def afK(p:Po):dH p=uF p++(ia dM p.aO++(ia ez p.kinds++(p.rules.flatMap bP++([wT jR,wT gn]++(cM p.change++[wT bK]))))):=by rw[QO,vT,lz]
def Ht{α β:Type}{l:List α}(f:α->List β){i:Nat}{x:α}(hx:l[i]?=aa x):(l.take (i+1)).flatMap f=(l.take i).flatMap f++f x:=by obtain⟨hj,rfl⟩:=aF.1 hx;rw[List.take_succ_eq_append_getElem hj,Gi];simp
def Hr{α β:Type}(l:List α)(f:α->List β)(i:Nat):((l.take i).flatMap f).length<=(l.flatMap f).length:=by
 have:l.flatMap f=(l.take i).flatMap f++(l.drop i).flatMap f:=by rw[<-Gi,List.take_append_drop]
 rw[this,cO];omega
def abX(b n0:Nat)(p:Po)(t:PT)(hp:ek p t)(jN:1<=p.mode)(H7:p.mode<=4)(l0:List Tk)(h:ae)(Wl:Wr b n0 l0 h)(hl:(l0++dH p).length<=1000000000):yA 29 [.ptr (.box b) 0,.agg (au p t)] b n0 h (l0++dH p):=by
 have a28:=iE;have s28:=gV;have z28:=qX;have a62:=pb;have s62:=mU;have z62:=Ky;have a26:=eG;have s26:=ec;have a3:=dE;have a9:=dR;have a22:=oA;have a23:=nq;have s9:=oV;have s22:=yh;have s23:=FQ;have u22:=o9;have u23:=lB;have u160:=Tryz.underlying160;have i9:=N6;have i104:=N3;have i3:=N5;have i26:=N4;have W0:=Wl.push (au p t);have nb:=Wl.lt;have nZ:=bX h (au p t);have lp0:=congrArg qY (afK p);have lp1:=congrArg qY (QO p);have lp2:=congrArg qY (QP p);have lp3:=congrArg qY (Kr p);rw[cO] at lp0 lp1 lp2 lp3 hl;unfold yA;have aP:(l0++uF p).length<=1000000000:=by rw[cO];omega
 obtain⟨h1,c1,m1,W1⟩:=nL b n0 .tight [.word mr,.name p.name,.word bK,.word mq,.name (pS p.mode),.word bK] (λi hi=>by
  simp only[fe,ow,or_false] at hi;rcases hi with rfl|rfl|rfl|rfl|rfl|rfl<;>exact ev) bh l0 _ W0 (by
  have:=aP;simpa [It.tk,uF] using this)
 simp only[gB,nV,It.av,mr,bK,mq] at c1;have gf:=m1.box _ _ aj nZ;have nb1:=(aF.1 gf).1;have M1:=((bp.refl b n0 h).push (au p t)).trans m1;have kW1:ag (Wr b n0 (l0++(uF p++(p.aO.take 0).flatMap λx=>[wT dM,nT x,wT bK])) h1):=.mk (by have:=W1;simpa [It.tk,uF] using this);have kM1:=ag.mk M1;have kb1:=ag.mk gf;have kp:=ag.mk hp;have xB:=aaP jN H7;have vB:0<=p.mode:=by omega
 have YF:p.mode<((strs s4).length:Int):=by rw[aaQ];omega
 have cm:=OI;have gh:=hp.rules.1;have Bp:=dL p.aO;have YA:=dL p.kinds;have hbo:=hp.bo;have hbk:=hp.bk;have yR:=hp.br;clear W1 m1 M1 W0 Wl jN H7 hp aP;refine eI rfl Tryz.func29 rfl ?_
 repeat' (first|simp(maxSteps:=9999999) (disch:=first|exact dZ|fail) only[gW,reduceIte,ao,al,qQ,qJ,bN,qK,qL,qM,qN,qO,jG,jH,qk,ql,aA,aV,ck,kH,aJ,nZ, *]|refine dX ?_ ?_<;>(intro _;try omega))
 refine nM [(3,7),(7,9)] ai ?_ ?_
 ·intro pr NG;simp only[fe,ow,or_false] at NG;rcases NG with rfl|rfl
  ·refine uL (x:=.ptr (.box h.boxes.length) 0) (v:=.v (.string (bs p.name))) ai rfl rfl rfl ai (by simp[fN,pY]) ?_ ?_
   ·simp only[di,de]
    repeat' (first|simp(maxSteps:=9999999) (disch:=first|exact dZ|fail) only[gW,reduceIte,ao,al,qQ,qJ,bN,qK,qL,qM,qN,qO,jG,jH,qk,ql,aA,aV,ck,kH,aJ,nZ,and_self, *]|refine dX ?_ ?_<;>(intro _;try omega))
   ·simp only[di,de]
    repeat' (first|simp(maxSteps:=9999999) (disch:=first|exact dZ|fail) only[gW,reduceIte,ao,al,qQ,qJ,bN,qK,qL,qM,qN,qO,jG,jH,qk,ql,aA,aV,ck,kH,aJ,nZ,and_self, *]|refine dX ?_ ?_<;>(intro _;try omega))
  ·refine CE (x:=.ptr (.box h.boxes.length) 9) (v:=.v (.int .i64 p.mode)) ai rfl rfl rfl ai (by simp[fN,pY]) ?_ ?_
   ·simp only[di,de]
    repeat' (first|simp(maxSteps:=9999999) (disch:=first|exact dZ|fail) only[gW,reduceIte,ao,al,qQ,qJ,bN,qK,qL,qM,qN,qO,jG,jH,qk,ql,aA,aV,ck,kH,aJ,nZ,and_self, *]|refine dX ?_ ?_<;>(intro _;try omega))
   ·simp only[di,de]
    repeat' (first|simp(maxSteps:=9999999) (disch:=first|exact dZ|fail) only[gW,reduceIte,ao,al,qQ,qJ,bN,qK,qL,qM,qN,qO,jG,jH,qk,ql,aA,aV,ck,kH,aJ,nZ,and_self, *]|refine dX ?_ ?_<;>(intro _;try omega))
 repeat' (first|simp(maxSteps:=9999999) (disch:=first|exact dZ|fail) only[gW,reduceIte,ao,al,qQ,qJ,bN,qK,qL,qM,qN,qO,jG,jH,qk,ql,aA,aV,ck,kH,aJ, *]|refine dX ?_ ?_<;>(intro _;try omega))
 refine eX (λm e h'=>∃(i:Nat),i<=p.aO.length/\m=p.aO.length - i/\e.get 0=.ptr (.box b) 0/\e.get 3=.ptr (.box h.boxes.length) 0/\e.get 27=.list t.to t.so (strs p.aO)/\e.get 28=.v (.int .i64 (p.aO.length:Nat))/\e.get 29=.v (.int .i64 i)/\e.defers=[]/\bp b n0 h h'/\h'.boxes[h.boxes.length]?=aa (au p t)/\Wr b n0 (l0++(uF p++(p.aO.take i).flatMap λx=>[wT dM,nT x,wT bK])) h') ?_ p.aO.length _ _ ?_;rotate_left 1
 ·refine⟨0,cz _,rfl,?_,?_,?_,?_,?_,?_,kM1.out,kb1.out,kW1.out⟩<;>(first|assumption|(simp only[gW,reduceIte,ao,al,Bp]<;>rfl))
 rintro m e h' ⟨i,hi,rfl,g0,g3,g4,g5,g6,hd,hm,kt,hW⟩;have nbx:=(aF.1 kt).1;have km:=ag.mk hm;have kbx:=ag.mk kt;by_cases ay:i<p.aO.length
 ·obtain⟨s,hs⟩:∃s,p.aO[i]?=aa s:=⟨_,cv ay⟩;have nA:(strs p.aO)[i]?=aa [.v (.string (bs s))]:=by rw[ot,hs];rfl
  have bG:=kp.out.zo i ay;have dU:(i:Int)<((strs p.aO).length:Int):=by rw[dL];omega
  have fX:(i:Int)<(p.aO.length:Int):=by omega
  have rv:=Ht (λx=>[wT dM,nT x,wT bK]) hs;have mM:=Hr p.aO (λx=>[wT dM,nT x,wT bK]) (i+1);have pF:(ia dM p.aO).length=(p.aO.flatMap λx=>[wT dM,nT x,wT bK]).length:=rfl;have cP:(l0++(uF p++(p.aO.take (i+1)).flatMap λx=>[wT dM,nT x,wT bK])).length<=1000000000:=by simp only[cO] at lp0 lp1 lp2 lp3 ⊢;omega
  obtain⟨h3,c3,m3,W3⟩:=nL b n0 .tight [.word dM,.name s,.word bK] (λi hi=>by
   simp only[fe,ow,or_false] at hi;rcases hi with rfl|rfl|rfl<;>exact ev) bh _ _ hW (by
   rw[rv] at cP;simpa [It.tk,lz] using cP)
  simp only[gB,nV,It.av,dM,bK] at c3;have vq:=m3.box _ _ aj kt;have kM3:=ag.mk (hm.trans m3);have kb3:=ag.mk vq;have kW3:=ag.mk W3;have kft:=ag.mk rv;clear hm hW W3 m3 cP mM rv hs pF lp0 lp1 lp2 lp3 hl vq
  repeat' (first|simp(maxSteps:=9999999) (disch:=first|exact dZ|fail) only[gW,reduceIte,ao,al,qQ,qJ,bN,qK,qL,qM,qN,qO,jG,jH,qk,ql,aA,aV,ck,kH,aJ, *]|refine dX ?_ ?_<;>(intro _;try omega))
  refine⟨p.aO.length - (i+1),by omega,i+1,by omega,rfl,(by first|trivial|(simp;done)|(simp;omega)),(by first|trivial|(simp;done)|(simp;omega)),(by first|trivial|(simp;done)|(simp;omega)),(by first|trivial|(simp;done)|(simp;omega)),(by first|trivial|(simp;done)|(simp;omega)),(by first|trivial|(simp;done)|(simp;omega)),kM3.out,kb3.out,?_⟩;have:=kW3.out;rw[kft.out];simpa [It.tk,lz] using this
 have cJ:i=p.aO.length:=by omega
 subst cJ;have fX:¬((p.aO.length:Int)<(p.aO.length:Int)):=by omega
 have kM2:=km;have kb2:=kbx;have kW2:ag (Wr b n0 (l0++(vT p++(p.kinds.take 0).flatMap λx=>[wT ez,nT x,wT bK])) h'):=.mk (by rw[jk] at hW;simpa [vT,ia] using hW);clear hm hW km kM1 kb1 kW1 c1 kt hi gf nb1 xB vB YF cm kbx nZ;have kt:=kb2.out
 repeat' (first|simp(maxSteps:=9999999) (disch:=first|exact dZ|fail) only[gW,reduceIte,ao,al,qQ,qJ,bN,qK,qL,qM,qN,qO,jG,jH,qk,ql,aA,aV,ck,kH,aJ, *]|refine dX ?_ ?_<;>(intro _;try omega))
 refine eX (λm e h'=>∃(i:Nat),i<=p.kinds.length/\m=p.kinds.length - i/\e.get 0=.ptr (.box b) 0/\e.get 3=.ptr (.box h.boxes.length) 0/\e.get 42=.list t.tk t.sk (strs p.kinds)/\e.get 43=.v (.int .i64 (p.kinds.length:Nat))/\e.get 44=.v (.int .i64 i)/\e.defers=[]/\bp b n0 h h'/\h'.boxes[h.boxes.length]?=aa (au p t)/\Wr b n0 (l0++(vT p++(p.kinds.take i).flatMap λx=>[wT ez,nT x,wT bK])) h') ?_ p.kinds.length _ _ ?_;rotate_left 1
 ·refine⟨0,cz _,rfl,?_,?_,?_,?_,?_,?_,kM2.out,kb2.out,kW2.out⟩<;>(first|assumption|(simp only[gW,reduceIte,ao,al,YA]<;>rfl))
 rintro m e h' ⟨i,hi,rfl,g0,g3,g4,g5,g6,hd,hm,kt,hW⟩;have nbx:=(aF.1 kt).1;have km:=ag.mk hm;have kbx:=ag.mk kt;by_cases ay:i<p.kinds.length
 ·obtain⟨s,hs⟩:∃s,p.kinds[i]?=aa s:=⟨_,cv ay⟩;have nA:(strs p.kinds)[i]?=aa [.v (.string (bs s))]:=by rw[ot,hs];rfl
  have bG:=kp.out.zk i ay;have dU:(i:Int)<((strs p.kinds).length:Int):=by rw[dL];omega
  have fX:(i:Int)<(p.kinds.length:Int):=by omega
  have rv:=Ht (λx=>[wT ez,nT x,wT bK]) hs;have mM:=Hr p.kinds (λx=>[wT ez,nT x,wT bK]) (i+1);have pF:(ia ez p.kinds).length=(p.kinds.flatMap λx=>[wT ez,nT x,wT bK]).length:=rfl;have cP:(l0++(vT p++(p.kinds.take (i+1)).flatMap λx=>[wT ez,nT x,wT bK])).length<=1000000000:=by simp only[cO] at lp0 lp1 lp2 lp3 ⊢;omega
  obtain⟨h3,c3,m3,W3⟩:=nL b n0 .tight [.word ez,.name s,.word bK] (λi hi=>by
   simp only[fe,ow,or_false] at hi;rcases hi with rfl|rfl|rfl<;>exact ev) bh _ _ hW (by
   rw[rv] at cP;simpa [It.tk,lz] using cP)
  simp only[gB,nV,It.av,ez,bK] at c3;have vq:=m3.box _ _ aj kt;have kM3:=ag.mk (hm.trans m3);have kb3:=ag.mk vq;have kW3:=ag.mk W3;have kft:=ag.mk rv;clear hm hW W3 m3 cP mM rv hs pF lp0 lp1 lp2 lp3 hl vq
  repeat' (first|simp(maxSteps:=9999999) (disch:=first|exact dZ|fail) only[gW,reduceIte,ao,al,qQ,qJ,bN,qK,qL,qM,qN,qO,jG,jH,qk,ql,aA,aV,ck,kH,aJ, *]|refine dX ?_ ?_<;>(intro _;try omega))
  refine⟨p.kinds.length - (i+1),by omega,i+1,by omega,rfl,(by first|trivial|(simp;done)|(simp;omega)),(by first|trivial|(simp;done)|(simp;omega)),(by first|trivial|(simp;done)|(simp;omega)),(by first|trivial|(simp;done)|(simp;omega)),(by first|trivial|(simp;done)|(simp;omega)),(by first|trivial|(simp;done)|(simp;omega)),kM3.out,kb3.out,?_⟩;have:=kW3.out;rw[kft.out];simpa [It.tk,lz] using this
 have cJ:i=p.kinds.length:=by omega
 subst cJ;have fX:¬((p.kinds.length:Int)<(p.kinds.length:Int)):=by omega
 have kM3:=km;have kb3:=kbx;have kW3:ag (Wr b n0 (l0++(uG p++(p.rules.take 0).flatMap bP)) h'):=.mk (by rw[jk] at hW;simpa [uG,ia] using hW);clear hm hW km kM2 kb2 kW2 hi kbx kt;have kt:=kb3.out
 repeat' (first|simp(maxSteps:=9999999) (disch:=first|exact dZ|fail) only[gW,reduceIte,ao,al,qQ,qJ,bN,qK,qL,qM,qN,qO,jG,jH,qk,ql,aA,aV,ck,kH,aJ, *]|refine dX ?_ ?_<;>(intro _;try omega))
 refine eX (λm e h'=>∃(i:Nat),i<=p.rules.length/\m=p.rules.length - i/\e.get 0=.ptr (.box b) 0/\e.get 3=.ptr (.box h.boxes.length) 0/\e.get 57=.list t.tr t.sr t.rr/\e.get 58=.v (.int .i64 (p.rules.length:Nat))/\e.get 59=.v (.int .i64 i)/\e.defers=[]/\bp b n0 h h'/\h'.boxes[h.boxes.length]?=aa (au p t)/\Wr b n0 (l0++(uG p++(p.rules.take i).flatMap bP)) h') ?_ p.rules.length _ _ ?_;rotate_left 1
 ·refine⟨0,cz _,rfl,?_,?_,?_,?_,?_,?_,kM3.out,kb3.out,kW3.out⟩<;>(first|assumption|(simp only[gW,reduceIte,ao,al,gh]<;>rfl))
 rintro m e h' ⟨i,hi,rfl,g0,g3,g4,g5,g6,hd,hm,kt,hW⟩;have nbx:=(aF.1 kt).1;have nbw:=hW.lt;have km:=ag.mk hm;have kbx:=ag.mk kt;by_cases ay:i<p.rules.length
 ·obtain⟨x,hx⟩:∃x,p.rules[i]?=aa x:=⟨_,cv ay⟩;obtain⟨r,hr⟩:∃r,t.rr[i]?=aa r:=⟨_,cv (by rw[gh];exact ay)⟩;obtain⟨tok,sz,rows,rfl,iv⟩:=oz.inv (kp.out.rules.2 i _ _ hx hr);have bG:=kp.out.zr i ay;have dU:(i:Int)<(t.rr.length:Int):=by rw[gh];omega
  have fX:(i:Int)<(p.rules.length:Int):=by omega
  have rv:=Ht bP hx;have mM:=Hr p.rules bP (i+1);have cP:(l0++(uG p++(p.rules.take (i+1)).flatMap bP)).length<=1000000000:=by simp only[cO] at lp0 lp1 lp2 lp3 ⊢;omega
  have hE:=Rb x.expr;have Y1:Row x.expr (r5 x tok sz rows):=iv;obtain⟨h3,c3,m3,W3⟩:=nL b n0 .tight [.word eN,.name x.kind,.word nF,.num x.gz,.word gn,.ex x.expr (r5 x tok sz rows),.word bK] (λi hi=>by
   simp only[fe,ow,or_false] at hi;rcases hi with rfl|rfl|rfl|rfl|rfl|rfl|rfl
   ·exact ev
   ·exact ev
   ·exact ev
   ·exact ev
   ·exact ev
   ·exact⟨hE,_,_,_,rfl,iv⟩
   ·exact ev) bh _ _ (hW.push (aS x tok sz rows)) (by
   rw[rv] at cP;simpa [It.tk,bP,lz] using cP)
  simp only[gB,nV,It.av,eN,nF,gn,bK] at c3;have vq:=m3.box _ _ aj (bW (cs:=aS x tok sz rows) kt);have kM3:=ag.mk ((hm.push (aS x tok sz rows)).trans m3);have kb3:=ag.mk vq;have kW3:=ag.mk W3;have kft:=ag.mk rv;have agD:=bX h' (aS x tok sz rows);clear hm hW W3 m3 cP mM rv hx lp0 lp1 lp2 lp3 hl vq iv Y1 hE
  repeat' (first|simp(maxSteps:=9999999) (disch:=first|exact dZ|fail) only[gW,reduceIte,ao,al,qQ,qJ,bN,qK,qL,qM,qN,qO,jG,jH,qk,ql,aA,aV,ck,kH,aJ,rcl,dt,aca,acb,JC,acd,pR,rU,bH,dr, *]|refine dX ?_ ?_<;>(intro _;try omega))
  refine⟨p.rules.length - (i+1),by omega,i+1,by omega,rfl,(by first|trivial|(simp;done)|(simp;omega)),(by first|trivial|(simp;done)|(simp;omega)),(by first|trivial|(simp;done)|(simp;omega)),(by first|trivial|(simp;done)|(simp;omega)),(by first|trivial|(simp;done)|(simp;omega)),(by first|trivial|(simp;done)|(simp;omega)),kM3.out,kb3.out,?_⟩;have:=kW3.out;rw[kft.out];simpa [It.tk,bP,lz] using this
 have cJ:i=p.rules.length:=by omega
 subst cJ;have fX:¬((p.rules.length:Int)<(p.rules.length:Int)):=by omega
 rw[jk] at hW;have cP:((l0++(uG p++p.rules.flatMap bP))++([wT jR,wT gn]++(cM p.change++[wT bK]))).length<=1000000000:=by simp only[cO] at lp0 lp1 lp2 lp3 ⊢;omega
 have Ej:=kp.out.expr;obtain⟨h3,c3,m3,W3⟩:=nL b n0 .tight [.word jR,.word gn,.ex p.change (p5 p t),.word bK] (λi hi=>by
  simp only[fe,ow,or_false] at hi;rcases hi with rfl|rfl|rfl|rfl
  ·exact ev
  ·exact ev
  ·exact⟨Rb p.change,_,_,_,rfl,Ej⟩
  ·exact ev) bh _ _ hW (by simpa [It.tk,lz] using cP)
 simp only[gB,nV,It.av,jR,gn,bK] at c3;have kM:=ag.mk (hm.trans m3);have kW:=ag.mk W3;clear hm hW W3 m3 cP lp0 lp1 lp2 lp3 hl Ej
 repeat' (first|simp(maxSteps:=9999999) (disch:=first|exact dZ|fail) only[gW,reduceIte,ao,al,qQ,qJ,bN,qK,qL,qM,qN,qO,jG,jH,qk,ql,aA,aV,ck,kH,aJ, *]|refine dX ?_ ?_<;>(intro _;try omega))
 refine⟨_,rfl,kM.out,?_⟩;have:=kW.out;rw[Kr,E1];simpa [It.tk,lz] using this
end Go.Proofs.YtmdakolcndpjeaaGreatDoor
end
section
namespace Go.Proofs.YtmdakolcndpjeaaGreatDoor
open Go.AE Go.Lex Go.Pol
section
variable {k n no:Int} {s:List UInt8} {tok:Tok} {sz:Nat} {rows:List (List AV)}
def rS:((ar k n no s tok sz rows).drop 1).head?=aa (.v (.int .i64 n)):=rfl
def vZ:((ar k n no s tok sz rows).drop 2).head?=aa (.v (.int .i64 no)):=rfl
def pW:((ar k n no s tok sz rows).drop 3).head?=aa (.v (.string (bs s))):=rfl
def gy:((ar k n no s tok sz rows).drop 4).head?=aa (.list tok sz rows):=rfl
end
def Kn{r:List AV}(h:r.length=5):(r.drop 0).take 5=r:=by rw[fc,<-h,jk]
def Lw{a b:Int}{h:ae}{Post:ae->Prop}(hb:a=b)(hp:Post h):∃h',(aa (bw.ret (AV.v (.int .i64 a)),h):Option (bw × ae))=aa (.ret (.v (.int .i64 b)),h')/\Post h':=⟨h,by rw[hb],hp⟩
def Ml{l:List Ex}{i:Nat}{x:Ex}(h:l[i]?=aa x):l.drop i=x::l.drop (i+1):=by obtain⟨hi,rfl⟩:=aF.1 h;exact List.drop_eq_getElem_cons hi
end Go.Proofs.YtmdakolcndpjeaaGreatDoor
end
section
namespace Go.Proofs.YtmdakolcndpjeaaGreatDoor
open Go.AE Go.Lex Go.Pol
end Go.Proofs.YtmdakolcndpjeaaGreatDoor
end
section
namespace Go.Proofs.YtmdakolcndpjeaaGreatDoor
open Go.AE Go.Lex Go.Pol
def mb{b c:Bool}{h:ae}(hb:b=c):(aa (bw.ret (AV.v (.bool b)),h):Option (bw × ae))=aa (.ret (.v (.bool c)),h):=by rw[hb]
def eo.get{l:List Rl}{rr:List (List AV)}(h:eo l rr){i:Nat}(hi:i<l.length):∃x tok sz rows,l[i]?=aa x/\rr[i]?=aa (aS x tok sz rows)/\Row x.expr (r5 x tok sz rows):=by
 have hr:i<rr.length:=by rw[h.1];exact hi
 have h1:=h.2 i _ _ (cv hi) (cv hr);obtain⟨tok,sz,rows,he,et⟩:=oz.inv h1;exact⟨l[i],tok,sz,rows,cv hi,by rw[cv hr,he],et⟩
def wU{b c:Bool}{h:ae}{Post:ae->Prop}(hb:b=c)(hp:Post h):∃h',(aa (bw.ret (AV.v (.bool b)),h):Option (bw × ae))=aa (.ret (.v (.bool c)),h')/\Post h':=⟨h,by rw[hb],hp⟩
noncomputable def nO(p q:Po):Bool:=@decide (p=q) (Classical.propDecidable _)
def rT{p q:Po}:nO p q=ab↔p=q:=by unfold nO;exact @decide_eq_true_iff _ (Classical.propDecidable _)
def wj{p q:Po}(h:p≠q):nO p q=ak:=by rw[ib];exactλe=>h (rT.1 e)
def acS{x y:Rl}(h1:x.kind=y.kind)(h2:x.kG=y.kG)(h3:x.gz=y.gz)(h4:x.expr=y.expr):x=y:=by cases x;cases y;simp_all
def Pd{p q:Po}(h1:p.name=q.name)(h2:p.mode=q.mode)(h3:p.aO=q.aO)(h4:p.kinds=q.kinds)(h5:p.rules=q.rules)(h6:p.change=q.change):p=q:=by cases p;cases q;simp_all
end Go.Proofs.YtmdakolcndpjeaaGreatDoor
end
section
namespace Go.Proofs.YtmdakolcndpjeaaGreatDoor
open Go.AE Go.Lex Go.Pol Go.Syn
noncomputable def wi{α:Type}(a b:List α):Bool:=@decide (a=b) (Classical.propDecidable _)
def JZ{α:Type}{a b:List α}:wi a b=ab↔a=b:=by unfold wi;exact @decide_eq_true_iff _ (Classical.propDecidable _)
def tz{α:Type}{a b:List α}(h:a≠b):wi a b=ak:=by rw[ib];exactλe=>h (JZ.1 e)
def zX{α:Type}{a b:List α}(h:a=b):wi a b=ab:=JZ.2 h
def Cn:Tryz.f133.results.toList=[.tmp 6]:=ai
def Cr:Tryz.f83.results.toList=[.tmp 6]:=ai
def Cq:Tryz.f81.results.toList=[.tmp 4]:=ai
def Fw:Tryz.f82.results.toList=[.tmp 4]:=ai
def Fv:Tryz.f80.results.toList=[.tmp 4]:=ai
def xZ:Tryz.f31.results.toList=[.tmp 4]:=ai
def V1(l l':List Ex)(tok tok':Tok)(sz sz':Nat)(rows rows':List (List AV))(fU:Pol.Rows l rows)(hO:∀i:Nat,i<l.length->sz=5)(gf:l.length<=9223372036854775807)(gQ:Pol.Rows l' rows')(iZ:∀i:Nat,i<l'.length->sz'=5)
 (hf:∀y∈l,∀(r:List AV),Row y r->∀(y':Ex) (r':List AV),Row y' r'->∀h,gY W 81 [.agg r,.agg r'] h (.ret (.v (.bool (qR y y'))))) (h:ae):
 gY W 133 [.list tok sz rows,.list tok' sz' rows',.func (.func 81) [] []] h (.ret (.v (.bool (wi l l')))):=by
 have ux:=j6;have a3:=dE;have a24:=jm;have a26:=eG;have s26:=ec;have z26:=nS;have qD:=fU.1;have oc:=gQ.1;have kr1:=ag.mk fU;have kz1:=ag.mk hO;have kr2:=ag.mk gQ;have kz2:=ag.mk iZ;have kf:=ag.mk hf;clear fU hO gQ iZ hf;refine eI rfl Tryz.func133 rfl ?_;by_cases du:l.length=l'.length
 ·have da:(rows.length:Int)=(rows'.length:Int):=by omega
  have ua:decide ((rows.length:Int)=(rows'.length:Int))=ab:=fJ da;have kll:=ag.mk du;clear da
  repeat' (first|simp(maxSteps:=9999999) (disch:=first|exact dZ|fail) only[gW,reduceIte,ao,al,Cn,qD, *]|refine dX ?_ ?_<;>(intro _;try omega))
  refine eX (λm e h'=>∃(i:Nat),i<=l.length/\m=l.length - i/\e.get 1=.list tok' sz' rows'/\e.get 2=.func (.func 81) [] []/\e.get 15=.list tok sz rows/\e.get 16=.v (.int .i64 (l.length:Nat))/\e.get 17=.v (.int .i64 i)/\e.defers=[]/\Ext h h'/\∀j,j<i->l[j]?=l'[j]?) ?_ l.length _ _ ?_
  ·rintro m e h' ⟨i,hi,rfl,g1,g2,g15,g16,g17,hd,hx,bV⟩;have kx:=ag.mk hx;have kno:=ag.mk bV;clear hx bV;by_cases ay:i<l.length
   ·obtain⟨y,r,hy,hr,cX⟩:=kr1.out.get ay;obtain⟨y',r',lH,gg,vF⟩:=kr2.out.get (aj:i<l'.length);have h5:=kz1.out i ay;have AY:=kz2.out i aj;subst h5;subst AY;obtain⟨tky,szy,rowsy,rfl,-⟩:=Row.iQ cX;obtain⟨tky',szy',rowsy',rfl,-⟩:=Row.iQ vF;have dU:(i:Int)<(rows.length:Int):=(by rw[qD];omega);have fX:(i:Int)<(rows'.length:Int):=(by rw[oc];omega);have ue:(i:Int)<(l.length:Int):=(by omega);have qC:5<=((ar y.kind y.n y.no y.name tky szy rowsy).drop 0).length:=(by rw[fc];exact aK _);have Ns:5<=((ar y'.kind y'.n y'.no y'.name tky' szy' rowsy').drop 0).length:=(by rw[fc];exact aK _);obtain⟨h2,hc,dk⟩:=kf.out y (ie hy) _ cX y' _ vF ((h'.push (ar y.kind y.n y.no y.name tky szy rowsy)).push (ar y'.kind y'.n y'.no y'.name tky' szy' rowsy'));have kx2:=ag.mk ((kx.out.trans ((Ext.push h' (ar y.kind y.n y.no y.name tky szy rowsy)).trans (.push _ (ar y'.kind y'.n y'.no y'.name tky' szy' rowsy')))).trans dk);have p1:((h'.push (ar y.kind y.n y.no y.name tky szy rowsy)).push (ar y'.kind y'.n y'.no y'.name tky' szy' rowsy')).boxes[h'.boxes.length]?=aa (ar y.kind y.n y.no y.name tky szy rowsy):=bW (bX _ _);have p2:((h'.push (ar y.kind y.n y.no y.name tky szy rowsy)).push (ar y'.kind y'.n y'.no y'.name tky' szy' rowsy')).boxes[h'.boxes.length+1]?=aa (ar y'.kind y'.n y'.no y'.name tky' szy' rowsy'):=(by have:=bX (h'.push (ar y.kind y.n y.no y.name tky szy rowsy)) (ar y'.kind y'.n y'.no y'.name tky' szy' rowsy');rw[aA] at this;exact this);clear dk;cases hs:qR y y' with
    |true=>
     have khs:=ag.mk hs;rw[hs] at hc;clear hs ua du
     repeat' (first|simp(maxSteps:=9999999) (disch:=first|exact dZ|fail) only[gW,reduceIte,ao,al,Cn,tq,aA,dw,dC,bH,aV,dr, *]|refine dX ?_ ?_<;>(intro _;try omega))
     refine⟨l.length - (i+1),by omega,i+1,by omega,rfl,(by first|trivial|(simp;done)|(simp;omega)),(by first|trivial|(simp;done)|(simp;omega)),(by first|trivial|(simp;done)|(simp;omega)),(by first|trivial|(simp;done)|(simp;omega)),(by first|trivial|(simp;done)|(simp;omega)),(by first|trivial|(simp;done)|(simp;omega)),kx2.out,λj hj=>?_⟩;rcases dp j i with q|q
     ·exact kno.out j q
     ·have:j=i:=(by omega);subst this;rw[hy,lH,wh.1 khs.out]
    |false=>
     have khs:=ag.mk hs;rw[hs] at hc;clear hs ua du
     repeat' (first|simp(maxSteps:=9999999) (disch:=first|exact dZ|fail) only[gW,reduceIte,ao,al,Cn,tq,aA,dw,dC,bH,aV,dr, *]|refine dX ?_ ?_<;>(intro _;try omega))
     refine iL ?_ kx2.out
     symm
     refine tz ?_;intro q;subst q;rw[hy] at lH;injection lH with lH;have:=khs.out;rw[lH,zU rfl] at this;cases this
   ·have cJ:i=l.length:=(by omega);subst cJ;have dU:¬((l.length:Int)<(l.length:Int)):=(by omega);clear ua du
    repeat' (first|simp(maxSteps:=9999999) (disch:=first|exact dZ|fail) only[gW,reduceIte,ao,al,Cn, *]|refine dX ?_ ?_<;>(intro _;try omega))
    refine iL ?_ kx.out
    symm
    refine zX (uY λj=>?_);have:=kll.out;rcases dp j l.length with q|q
    ·exact kno.out j q
    ·rw[oX q,oX aj]
  ·refine⟨0,cz _,rfl,?_,?_,?_,?_,?_,?_,.refl _,λj hj=>absurd hj (ik j)⟩<;>simp only[gW,reduceIte,ao,al,qD,du]<;>rfl
 ·have da:¬((rows.length:Int)=(rows'.length:Int)):=by omega
  have NI:¬((l.length:Int)=(l'.length:Int)):=by omega
  have kll:=ag.mk du;clear du
  repeat' (first|simp(maxSteps:=9999999) (disch:=first|exact dZ|fail) only[gW,reduceIte,ao,al,Cn, *]|refine dX ?_ ?_<;>(intro _;try omega))
  refine iL ?_ (Ext.refl h)
  symm
  refine tz λq=>kll.out ?_;rw[q]
def Ql:∀(x:Ex) (rx:List AV),Row x rx->∀(y:Ex) (ry:List AV),Row y ry->∀h,gY W 81 [.agg rx,.agg ry] h (.ret (.v (.bool (qR x y)))):=by
 intro x
 induction x using Ex.ind with
 |h k n no s l ih=>
  intro rx iv y ry xG h;obtain⟨k',n',no',s',l'⟩:=y;obtain⟨tok,sz,rows,rfl,fU,hO,gf⟩:=Row.iQ iv;obtain⟨tok',sz',rows',rfl,gQ,iZ,ew⟩:=Row.iQ xG;clear iv xG;have u9:=fH;have a3:=dE;have a9:=dR;have a24:=jm;have a26:=eG;have s26:=ec;simp only[Ex.kind,Ex.n,Ex.no,Ex.name,Ex.l] at fU hO gf gQ iZ ew ⊢;obtain⟨h2,hc,dk⟩:=V1 l l' tok tok' sz sz' rows rows' fU hO gf gQ iZ ih ((h.push (ar k n no s tok sz rows)).push (ar k' n' no' s' tok' sz' rows'));have kx0:=ag.mk ((Ext.push h (ar k n no s tok sz rows)).trans (.push _ (ar k' n' no' s' tok' sz' rows')));have kx2:=ag.mk (kx0.out.trans dk);clear fU hO gf gQ iZ ew ih dk;refine eI rfl Tryz.func81 rfl ?_;by_cases hn:k=k';rotate_left 1
  ·repeat' (first|simp(maxSteps:=9999999) (disch:=first|exact dZ|fail) only[gW,reduceIte,ao,al,Cq,lP,tu,rS,vZ,pW,gy,iP,jK,pq,gr,bZ,rI, *]|refine dX ?_ ?_<;>(intro _;try omega))
   exact iL (uJ (λq=>by injection q with q1 q2 q3 q4 _;exact hn q1)).symm kx0.out
  subst hn;by_cases hn:n=n';rotate_left 1
  ·repeat' (first|simp(maxSteps:=9999999) (disch:=first|exact dZ|fail) only[gW,reduceIte,ao,al,Cq,lP,tu,rS,vZ,pW,gy,iP,jK,pq,gr,bZ,rI, *]|refine dX ?_ ?_<;>(intro _;try omega))
   exact iL (uJ (λq=>by injection q with q1 q2 q3 q4 _;exact hn q2)).symm kx0.out
  subst hn;by_cases hn:no=no';rotate_left 1
  ·repeat' (first|simp(maxSteps:=9999999) (disch:=first|exact dZ|fail) only[gW,reduceIte,ao,al,Cq,lP,tu,rS,vZ,pW,gy,iP,jK,pq,gr,bZ,rI, *]|refine dX ?_ ?_<;>(intro _;try omega))
   exact iL (uJ (λq=>by injection q with q1 q2 q3 q4 _;exact hn q3)).symm kx0.out
  subst hn;by_cases hn:s=s';rotate_left 1
  ·repeat' (first|simp(maxSteps:=9999999) (disch:=first|exact dZ|fail) only[gW,reduceIte,ao,al,Cq,lP,tu,rS,vZ,pW,gy,iP,jK,pq,gr,bZ,rI, *]|refine dX ?_ ?_<;>(intro _;try omega))
   exact iL (uJ (λq=>by injection q with q1 q2 q3 q4 _;exact hn q4)).symm kx0.out
  subst hn
  repeat' (first|simp(maxSteps:=9999999) (disch:=first|exact dZ|fail) only[gW,reduceIte,ao,al,Cq,lP,tu,rS,vZ,pW,gy,iP,jK,pq,gr,bZ,rI, *]|refine dX ?_ ?_<;>(intro _;try omega))
  refine iL ?_ kx2.out;by_cases hl:l=l'
  ·subst hl;rw[zX rfl,zU rfl]
  ·rw[tz hl,uJ];intro q;injection q with _ _ _ _ q;exact hl q
def Mq(k k':Tok)(sz sz':Nat)(a b:List (List UInt8))(hz:∀i:Nat,i<a.length->sz=1)(ur:∀i:Nat,i<b.length->sz'=1)(ha:a.length<=9223372036854775807)(h:ae):
 W.call 82 [.list k sz (strs a),.list k' sz' (strs b)] h=aa (.ret (.v (.bool (decide (a=b)))),h):=by
 have u9:=fH;have u22:=o9;have a9:=dR;have s9:=oV;refine fg rfl Tryz.func82 rfl ?_;by_cases rk:a.length=b.length
 ·have kab:=ag.mk rk
  repeat' (first|simp(maxSteps:=9999999) (disch:=first|exact dZ|fail) only[gW,reduceIte,ao,al,Fw,dL, *]|(refine dX ?_ ?_<;>(intro _;try omega))|refine bM ai ?_)
  refine eX (λm e h'=>∃i:Nat,i<=a.length/\m=a.length - i/\e.get 0=.list k sz (strs a)/\e.get 1=.list k' sz' (strs b)/\e.get 12=.v (.int .i64 (a.length:Nat))/\e.get 13=.v (.int .i64 i)/\e.defers=[]/\h'=h/\∀j,j<i->a[j]?=b[j]?) ?_ a.length _ _ ?_
  ·rintro m e h' ⟨i,hi,rfl,g0,g1,g12,g13,hd,rfl,bV⟩;have kno:=ag.mk bV;clear bV;by_cases ay:i<a.length
   ·obtain⟨x,hx⟩:∃t,a[i]?=aa t:=⟨_,cv ay⟩;obtain⟨y,hy⟩:∃t,b[i]?=aa t:=⟨_,cv aj⟩;obtain rfl:=hz i ay;obtain rfl:=ur i aj;have dU:(i:Int)<((strs a).length:Int):=(by rw[dL];omega);have fX:(i:Int)<((strs b).length:Int):=(by rw[dL];omega);have ue:(i:Int)<(a.length:Int):=(by omega);have agH:(i:Int)<(b.length:Int):=(by omega);clear rk
    repeat' (first|simp(maxSteps:=9999999) (disch:=first|exact dZ|fail) only[gW,reduceIte,ao,al,Fw,dL,ot,aV,ck,aJ, *]|(refine dX ?_ ?_<;>(intro _;try omega))|refine bM ai ?_)
    ·rename_i uq;refine⟨a.length - (i+1),by omega,i+1,by omega,rfl,(by first|trivial|(simp;done)|(simp;omega)),(by first|trivial|(simp;done)|(simp;omega)),(by first|trivial|(simp;done)|(simp;omega)),(by first|trivial|(simp;done)|(simp;omega)),(by first|trivial|(simp;done)|(simp;omega)),(by first|trivial|(simp;done)|(simp;omega)),λj hj=>?_⟩;rcases dp j i with q|q
     ·exact kno.out j q
     ·have:j=i:=(by omega);subst this;rw[hx,hy,uq]
    ·rename_i uq;refine mb ?_
     symm
     rw[decide_eq_false_iff_not];rintro rfl;rw[hx] at hy;injection hy with hy;exact uq hy
   ·have cJ:i=a.length:=(by omega);have dy:¬((i:Int)<(a.length:Int)):=(by omega);clear rk
    repeat' (first|simp(maxSteps:=9999999) (disch:=first|exact dZ|fail) only[gW,reduceIte,ao,al,Fw,dL, *]|(refine dX ?_ ?_<;>(intro _;try omega))|refine bM ai ?_)
    refine mb ?_
    symm
    rw[decide_eq_true_eq];refine uY λj=>?_;have:=kab.out;rcases dp j a.length with q|q
    ·exact kno.out j aj
    ·rw[oX q,oX aj]
  ·refine⟨0,cz _,rfl,?_,?_,?_,?_,?_,rfl,λj hj=>absurd hj (ik j)⟩<;>simp only[gW,reduceIte,ao,al,dL]<;>(first|rfl|rw[rk])
 ·repeat' (first|simp(maxSteps:=9999999) (disch:=first|exact dZ|fail) only[gW,reduceIte,ao,al,Fw,dL, *]|(refine dX ?_ ?_<;>(intro _;try omega))|refine bM ai ?_)
  refine mb ?_
  symm
  rw[decide_eq_false_iff_not];rintro rfl;exact rk rfl
def aea(x:Rl)(tok:Tok)(sz:Nat)(rows:List (List AV))(hx:Row x.expr (r5 x tok sz rows))(y:Rl)(tok':Tok)(sz':Nat)(rows':List (List AV))(hy:Row y.expr (r5 y tok' sz' rows'))(h:ae):
 gY W 80 [.agg (aS x tok sz rows),.agg (aS y tok' sz' rows')] h (.ret (.v (.bool (wi [x] [y])))):=by
 have u9:=fH;have a3:=dE;have a9:=dR;have a26:=eG;have s26:=ec;have a62:=pb;have s62:=mU;obtain⟨h2,hc,dk⟩:=Ql x.expr _ hx y.expr _ hy ((h.push (aS x tok sz rows)).push (aS y tok' sz' rows'));have kx0:=ag.mk ((Ext.push h (aS x tok sz rows)).trans (.push _ (aS y tok' sz' rows')));have kx2:=ag.mk (kx0.out.trans dk);have p1:((h.push (aS x tok sz rows)).push (aS y tok' sz' rows')).boxes[h.boxes.length]?=aa (aS x tok sz rows):=bW (bX _ _);have p2:((h.push (aS x tok sz rows)).push (aS y tok' sz' rows')).boxes[h.boxes.length+1]?=aa (aS y tok' sz' rows'):=by have:=bX (h.push (aS x tok sz rows)) (aS y tok' sz' rows');rw[aA] at this;exact this
 have l1:=pR p1;have l2:=pR p2;clear hx hy dk;obtain⟨k,no,th,ex⟩:=x;obtain⟨k',no',th',ex'⟩:=y;refine eI rfl Tryz.func80 rfl ?_;by_cases hn:k=k';rotate_left 1
 ·repeat' (first|simp(maxSteps:=9999999) (disch:=first|exact dZ|fail) only[gW,reduceIte,ao,al,Fv,dt,eO,aA, *]|refine dX ?_ ?_<;>(intro _;try omega))
  exact iL (tz (λq=>by injection q with q _;injection q with q1 q2 q3 _;exact hn q1)).symm kx0.out
 subst hn;by_cases hn:no=no';rotate_left 1
 ·repeat' (first|simp(maxSteps:=9999999) (disch:=first|exact dZ|fail) only[gW,reduceIte,ao,al,Fv,dt,eO,aA, *]|refine dX ?_ ?_<;>(intro _;try omega))
  exact iL (tz (λq=>by injection q with q _;injection q with q1 q2 q3 _;exact hn q2)).symm kx0.out
 subst hn;by_cases hn:th=th';rotate_left 1
 ·repeat' (first|simp(maxSteps:=9999999) (disch:=first|exact dZ|fail) only[gW,reduceIte,ao,al,Fv,dt,eO,aA, *]|refine dX ?_ ?_<;>(intro _;try omega))
  exact iL (tz (λq=>by injection q with q _;injection q with q1 q2 q3 _;exact hn q3)).symm kx0.out
 subst hn
 repeat' (first|simp(maxSteps:=9999999) (disch:=first|exact dZ|fail) only[gW,reduceIte,ao,al,Fv,dt,eO,aA, *]|refine dX ?_ ?_<;>(intro _;try omega))
 refine iL ?_ kx2.out;by_cases hl:ex=ex'
 ·subst hl;rw[zX rfl,zU rfl]
 ·rw[tz,uJ hl];intro q;injection q with q _;injection q with _ _ _ q;exact hl q
def V2(l l':List Rl)(tok tok':Tok)(sz sz':Nat)(rows rows':List (List AV))(fU:eo l rows)(hO:∀i:Nat,i<l.length->sz=8)(gf:l.length<=9223372036854775807)(gQ:eo l' rows')(iZ:∀i:Nat,i<l'.length->sz'=8)
 (h:ae):
 gY W 83 [.list tok sz rows,.list tok' sz' rows',.func (.func 80) [] []] h (.ret (.v (.bool (wi l l')))):=by
 have ux:=lB;have a3:=dE;have a23:=nq;have a62:=pb;have s62:=mU;have z62:=Ky;have qD:=fU.1;have oc:=gQ.1;have kr1:=ag.mk fU;have kz1:=ag.mk hO;have kr2:=ag.mk gQ;have kz2:=ag.mk iZ;clear fU hO gQ iZ;refine eI rfl Tryz.func83 rfl ?_;by_cases du:l.length=l'.length
 ·have da:(rows.length:Int)=(rows'.length:Int):=by omega
  have ua:decide ((rows.length:Int)=(rows'.length:Int))=ab:=fJ da;have kll:=ag.mk du;clear da
  repeat' (first|simp(maxSteps:=9999999) (disch:=first|exact dZ|fail) only[gW,reduceIte,ao,al,Cr,qD, *]|refine dX ?_ ?_<;>(intro _;try omega))
  refine eX (λm e h'=>∃(i:Nat),i<=l.length/\m=l.length - i/\e.get 1=.list tok' sz' rows'/\e.get 2=.func (.func 80) [] []/\e.get 15=.list tok sz rows/\e.get 16=.v (.int .i64 (l.length:Nat))/\e.get 17=.v (.int .i64 i)/\e.defers=[]/\Ext h h'/\∀j,j<i->l[j]?=l'[j]?) ?_ l.length _ _ ?_
  ·rintro m e h' ⟨i,hi,rfl,g1,g2,g15,g16,g17,hd,hx,bV⟩;have kx:=ag.mk hx;have kno:=ag.mk bV;clear hx bV;by_cases ay:i<l.length
   ·obtain⟨y,tky,szy,rowsy,hy,hr,cX⟩:=eo.get kr1.out ay;obtain⟨y',tky',szy',rowsy',lH,gg,vF⟩:=eo.get kr2.out (aj:i<l'.length);have h5:=kz1.out i ay;have AY:=kz2.out i aj;subst h5;subst AY;have dU:(i:Int)<(rows.length:Int):=(by rw[qD];omega);have fX:(i:Int)<(rows'.length:Int):=(by rw[oc];omega);have ue:(i:Int)<(l.length:Int):=(by omega);have qC:8<=((aS y tky szy rowsy).drop 0).length:=(by rw[fc];exact aK _);have Ns:8<=((aS y' tky' szy' rowsy').drop 0).length:=(by rw[fc];exact aK _);obtain⟨h2,hc,dk⟩:=aea y tky szy rowsy cX y' tky' szy' rowsy' vF ((h'.push (aS y tky szy rowsy)).push (aS y' tky' szy' rowsy'));have kx2:=ag.mk ((kx.out.trans ((Ext.push h' (aS y tky szy rowsy)).trans (.push _ (aS y' tky' szy' rowsy')))).trans dk);have p1:((h'.push (aS y tky szy rowsy)).push (aS y' tky' szy' rowsy')).boxes[h'.boxes.length]?=aa (aS y tky szy rowsy):=bW (bX _ _);have p2:((h'.push (aS y tky szy rowsy)).push (aS y' tky' szy' rowsy')).boxes[h'.boxes.length+1]?=aa (aS y' tky' szy' rowsy'):=(by have:=bX (h'.push (aS y tky szy rowsy)) (aS y' tky' szy' rowsy');rw[aA] at this;exact this);clear dk;cases hs:wi [y] [y'] with
    |true=>
     have khs:=ag.mk hs;rw[hs] at hc;clear hs ua du
     repeat' (first|simp(maxSteps:=9999999) (disch:=first|exact dZ|fail) only[gW,reduceIte,ao,al,Cr,JC,aA,rU,sX,bH,aV,dr, *]|refine dX ?_ ?_<;>(intro _;try omega))
     refine⟨l.length - (i+1),by omega,i+1,by omega,rfl,(by first|trivial|(simp;done)|(simp;omega)),(by first|trivial|(simp;done)|(simp;omega)),(by first|trivial|(simp;done)|(simp;omega)),(by first|trivial|(simp;done)|(simp;omega)),(by first|trivial|(simp;done)|(simp;omega)),(by first|trivial|(simp;done)|(simp;omega)),kx2.out,λj hj=>?_⟩;rcases dp j i with q|q
     ·exact kno.out j q
     ·have:j=i:=(by omega);subst this;rw[hy,lH,(List.cons.inj (JZ.1 khs.out)).1]
    |false=>
     have khs:=ag.mk hs;rw[hs] at hc;clear hs ua du
     repeat' (first|simp(maxSteps:=9999999) (disch:=first|exact dZ|fail) only[gW,reduceIte,ao,al,Cr,JC,aA,rU,sX,bH,aV,dr, *]|refine dX ?_ ?_<;>(intro _;try omega))
     refine iL ?_ kx2.out
     symm
     refine tz ?_;intro q;subst q;rw[hy] at lH;injection lH with lH;have:=khs.out;rw[lH,zX rfl] at this;cases this
   ·have cJ:i=l.length:=(by omega);subst cJ;have dU:¬((l.length:Int)<(l.length:Int)):=(by omega);clear ua du
    repeat' (first|simp(maxSteps:=9999999) (disch:=first|exact dZ|fail) only[gW,reduceIte,ao,al,Cr, *]|refine dX ?_ ?_<;>(intro _;try omega))
    refine iL ?_ kx.out
    symm
    refine zX (uY λj=>?_);have:=kll.out;rcases dp j l.length with q|q
    ·exact kno.out j q
    ·rw[oX q,oX aj]
  ·refine⟨0,cz _,rfl,?_,?_,?_,?_,?_,?_,.refl _,λj hj=>absurd hj (ik j)⟩<;>simp only[gW,reduceIte,ao,al,qD,du]<;>rfl
 ·have da:¬((rows.length:Int)=(rows'.length:Int)):=by omega
  have NI:¬((l.length:Int)=(l'.length:Int)):=by omega
  have kll:=ag.mk du;clear du
  repeat' (first|simp(maxSteps:=9999999) (disch:=first|exact dZ|fail) only[gW,reduceIte,ao,al,Cr, *]|refine dX ?_ ?_<;>(intro _;try omega))
  refine iL ?_ (Ext.refl h)
  symm
  refine tz λq=>kll.out ?_;rw[q]
def ad9(p q:Po)(t u:PT)(ok:ek p t)(ok2:ek q u)(h:ae):gY W 31 [.agg (au p t),.agg (au q u)] h (.ret (.v (.bool (nO p q)))):=by
 have u9:=fH;have u23:=lB;have a3:=dE;have a9:=dR;have a22:=oA;have a23:=nq;have a26:=eG;have s26:=ec;have a28:=iE;have s28:=gV;have c1:=Mq t.to u.to t.so u.so p.aO q.aO ok.zo ok2.zo ok.bo ((h.push (au p t)).push (au q u));have c2:=Mq t.tk u.tk t.sk u.sk p.kinds q.kinds ok.zk ok2.zk ok.bk ((h.push (au p t)).push (au q u));obtain⟨h2,c3,dk⟩:=V2 p.rules q.rules t.tr u.tr t.sr u.sr t.rr u.rr ok.rules ok.zr ok.br ok2.rules ok2.zr ((h.push (au p t)).push (au q u));obtain⟨h3,c4,NX⟩:=Ql p.change _ ok.expr q.change _ ok2.expr h2;have kx0:=ag.mk ((Ext.push h (au p t)).trans (.push _ (au q u)));have kx2:=ag.mk (kx0.out.trans dk);have kx3:=ag.mk (kx2.out.trans NX);have p1:((h.push (au p t)).push (au q u)).boxes[h.boxes.length]?=aa (au p t):=bW (bX _ _);have p2:((h.push (au p t)).push (au q u)).boxes[h.boxes.length+1]?=aa (au q u):=by have:=bX (h.push (au p t)) (au q u);rw[aA] at this;exact this
 have p3:=dk.box _ _ p1;have p4:=dk.box _ _ p2;have l1:=kH p3;have l2:=kH p4;have kno:ag (∀(_:p=q),p.name=q.name/\p.mode=q.mode/\p.aO=q.aO/\p.kinds=q.kinds/\p.rules=q.rules/\p.change=q.change):=.mk (λe=>by subst e;exact⟨rfl,rfl,rfl,rfl,rfl,rfl⟩);have kyes:ag (p.name=q.name->p.mode=q.mode->p.aO=q.aO->p.kinds=q.kinds->p.rules=q.rules->p.change=q.change->nO p q=ab):=.mk (λa b c d e f=>rT.2 (Pd a b c d e f));clear ok ok2 dk NX;refine eI rfl Tryz.func31 rfl ?_;by_cases hn:p.name=q.name;rotate_left 1
 ·have d1:decide (p.name=q.name)=ak:=mH hn;have kn:=ag.mk hn;clear hn
  repeat' (first|simp(maxSteps:=9999999) (disch:=first|exact dZ|fail) only[gW,reduceIte,ao,al,xZ,bN,cK,aA, *]|refine dX ?_ ?_<;>(intro _;try omega))
  exact iL (wj (λe=>kn.out (kno.out e).1)).symm kx0.out
 have d1:decide (p.name=q.name)=ab:=fJ hn;have k1:=ag.mk hn;clear hn;by_cases hn:p.mode=q.mode;rotate_left 1
 ·have d2:decide (p.mode=q.mode)=ak:=mH hn;have kn:=ag.mk hn;clear hn
  repeat' (first|simp(maxSteps:=9999999) (disch:=first|exact dZ|fail) only[gW,reduceIte,ao,al,xZ,bN,cK,aA, *]|refine dX ?_ ?_<;>(intro _;try omega))
  exact iL (wj (λe=>kn.out (kno.out e).2.1)).symm kx0.out
 have d2:decide (p.mode=q.mode)=ab:=fJ hn;have k2:=ag.mk hn;clear hn;by_cases hn:p.aO=q.aO;rotate_left 1
 ·rw[mH hn] at c1;have kn:=ag.mk hn;clear hn
  repeat' (first|simp(maxSteps:=9999999) (disch:=first|exact dZ|fail) only[gW,reduceIte,ao,al,xZ,bN,cK,aA, *]|refine dX ?_ ?_<;>(intro _;try omega))
  exact iL (wj (λe=>kn.out (kno.out e).2.2.1)).symm kx0.out
 rw[fJ hn] at c1;have k3:=ag.mk hn;clear hn;by_cases hn:p.kinds=q.kinds;rotate_left 1
 ·rw[mH hn] at c2;have kn:=ag.mk hn;clear hn
  repeat' (first|simp(maxSteps:=9999999) (disch:=first|exact dZ|fail) only[gW,reduceIte,ao,al,xZ,bN,cK,aA, *]|refine dX ?_ ?_<;>(intro _;try omega))
  exact iL (wj (λe=>kn.out (kno.out e).2.2.2.1)).symm kx0.out
 rw[fJ hn] at c2;have k4:=ag.mk hn;clear hn;by_cases hn:p.rules=q.rules;rotate_left 1
 ·rw[tz hn] at c3;have kn:=ag.mk hn;clear hn
  repeat' (first|simp(maxSteps:=9999999) (disch:=first|exact dZ|fail) only[gW,reduceIte,ao,al,xZ,bN,cK,aA, *]|refine dX ?_ ?_<;>(intro _;try omega))
  exact iL (wj (λe=>kn.out (kno.out e).2.2.2.2.1)).symm kx2.out
 rw[zX hn] at c3;have k5:=ag.mk hn;clear hn;by_cases hn:p.change=q.change;rotate_left 1
 ·rw[uJ hn] at c4;have kn:=ag.mk hn;clear hn
  repeat' (first|simp(maxSteps:=9999999) (disch:=first|exact dZ|fail) only[gW,reduceIte,ao,al,xZ,bN,cK,aA, *]|refine dX ?_ ?_<;>(intro _;try omega))
  exact iL (wj (λe=>kn.out (kno.out e).2.2.2.2.2)).symm kx3.out
 rw[zU hn] at c4;have k6:=ag.mk hn;clear hn
 repeat' (first|simp(maxSteps:=9999999) (disch:=first|exact dZ|fail) only[gW,reduceIte,ao,al,xZ,bN,cK,aA, *]|refine dX ?_ ?_<;>(intro _;try omega))
 exact iL (kyes.out k1.out k2.out k3.out k4.out k5.out k6.out).symm kx3.out
def JR:Tryz.f77.results.toList=[]:=ai
def Cp:Tryz.f78.results.toList=[]:=ai
def zt(m:Nat)(l:List Tk):PR (List (List UInt8) × List (List UInt8)):=(cD dM (gq dM) m l).bind λo r=>(cD ez (gq ez) m r).bind λk r=>.ok (o,k) r
def Cu(m:Nat)(l:List Tk):PR (List Rl × Ex):=(cD eN (iA m) m l).bind λw r=>(fm [jR,gn] r).bind λ_ r=>(cp m r).bind λx r=>(cS bK r).bind λ_ r=>.ok (w,x) r
def bind_assoc{α β γ:Type}(x:PR α)(f:α->List Tk->PR β)(g:β->List Tk->PR γ):(x.bind f).bind g=x.bind λa r=>(f a r).bind g:=by cases x<;>rfl
def abS(m:Nat)(l:List Tk):mQ m l=(rq l).bind λhd r=>(zt m r).bind λok r=>(Cu m r).bind λwx r=>.ok ⟨hd.1,ok.2,ok.1,wx.1,wx.2,hd.2⟩ r:=by unfold mQ yE zt Cu;simp only[bind_assoc,bE]
def Sp(b n0:Nat)(n:Int)(p:Po)(t:PT)(h:ae)(pr:PR (List (List UInt8) × List (List UInt8)))(r:bw)(h':ae):Prop:=
 match pr with
 | .ok x l=>∃tok sz to so tk sk,r=.ret (.tuple [])/\bp b n0 h h'/\Pa b tok sz l n {p with aO:=x.1,kinds:=x.2} {t with to:=to,so:=so,tk:=tk,sk:=sk} h'/\(∀i:Nat,i<x.1.length->so=1)/\∀i:Nat,i<x.2.length->sk=1
 | .bad l=>r=.panic (wH (j9 n l))/\bp b n0 h h'
def SS(b n0:Nat)(n:Int)(p:Po)(t:PT)(h:ae)(pr:PR (List Rl × Ex))(r:bw)(h':ae):Prop:=
 match pr with
 | .ok x l=>∃tok sz tr sr rr tke sze rowse,r=.ret (.tuple [])/\bp b n0 h h'/\Pa b tok sz l n {p with rules:=x.1,change:=x.2} {t with tr:=tr,sr:=sr,rr:=rr,tok:=tke,sz:=sze,rows:=rowse} h'/\eo x.1 rr/\(∀i:Nat,i<x.1.length->sr=8)/\Row x.2 (ar x.2.kind x.2.n x.2.no x.2.name tke sze rowse)
 | .bad l=>r=.panic (wH (j9 n l))/\bp b n0 h h'
section
variable {b:Nat} {tok:Tok} {sz:Nat} {l:List Tk} {n:Int} {p:Po} {t:PT} {h:ae}
def aaZ{m:Nat}(n0:Nat)(P:Pa b tok sz l n p t h)(ho:cR h=ab)(hn:n0<=h.tn)(hl:l.length<m):∃r h',W.call 77 [.ptr (.box b) 0] h=aa (r,h')/\Sp b n0 n p t h (zt m l) r h':=by
 have a22:=oA;have s22:=yh;have nb:=P.lt;have dv1:=Me b dM h;have P0:=(P.push [.ptr (.box b) 0]).push [.v (.string (bs dM))];have M0:=((bp.refl b n0 h).push [.ptr (.box b) 0]).push [.v (.string (bs dM))];have pC:((h.push [.ptr (.box b) 0]).push [.v (.string (bs dM))]).boxes[h.boxes.length]?=aa [.ptr (.box b) 0]:=bW (bX _ _);have qu:((h.push [.ptr (.box b) 0]).push [.v (.string (bs dM))]).boxes[h.boxes.length+1]?=aa [.v (.string (bs dM))]:=by have:=bX (h.push [.ptr (.box b) 0]) [.v (.string (bs dM))];rw[aA] at this;exact this
 obtain⟨r1,h1,c1,q1⟩:=Qr n0 P0 pC qu aj aj (M0.ok ho) (cY hn M0.tn) m hl;simp only[dM] at c1 dv1;have e9:zt m l=(cD dM (gq dM) m l).bind λo r=>(cD ez (gq ez) m r).bind λk r=>.ok (o,k) r:=rfl;rw[e9];cases w1:cD dM (gq dM) m l with
 |bad l1=>
  rw[w1] at q1;obtain⟨rfl,m1⟩:=q1;have aN:=ag.mk (M0.trans m1);clear M0 m1 P0 P;refine bO rfl Lk rfl ?_
  repeat' (first|simp(maxSteps:=9999999) (disch:=first|exact dZ|fail) only[gW,reduceIte,ao,al,JR, *]|refine dX ?_ ?_<;>(intro _;try omega))
  exact⟨_,_,rfl,rfl,aN.out⟩
 |ok o l1=>
  rw[w1] at q1;obtain⟨v1,tok1,mC,rfl,⟨tko,szo,rfl,ID⟩,m1,Q1⟩:=q1;have b1:=Q1.box;have nb1:=Q1.lt;have M1:=(M0.trans m1).trans (.put b n0 h1 (par tok1 mC l1 n {p with aO:=o} {t with to:=tko,so:=szo}));have P1:=Q1.with (p':={p with aO:=o}) (t':={t with to:=tko,so:=szo});have lG:l1.length<=l.length:=by have:=(qI dM (uz dM) m).len l;rw[w1] at this;exact this
  have dv2:=Me b ez (h1.put b (par tok1 mC l1 n {p with aO:=o} {t with to:=tko,so:=szo}));rw[td] at dv2;have P2:=(P1.push [.ptr (.box b) 0]).push [.v (.string (bs ez))];have M2:=(M1.push [.ptr (.box b) 0]).push [.v (.string (bs ez))];have aP:(h1.put b (par tok1 mC l1 n {p with aO:=o} {t with to:=tko,so:=szo})).boxes.length=h1.boxes.length:=td ..;have iR:=bW (cs:=[.v (.string (bs ez))]) (bX (h1.put b (par tok1 mC l1 n {p with aO:=o} {t with to:=tko,so:=szo})) [.ptr (.box b) 0]);have rp:=bX ((h1.put b (par tok1 mC l1 n {p with aO:=o} {t with to:=tko,so:=szo})).push [.ptr (.box b) 0]) [.v (.string (bs ez))];rw[aP] at iR;rw[aA,aP] at rp;obtain⟨r3,h3,c3,q3⟩:=Qr n0 P2 iR rp aj aj (M2.ok ho) (cY hn M2.tn) m aj;simp only[ez] at c3 dv2;rw[bE];cases w3:cD ez (gq ez) m l1 with
  |bad l3=>
   rw[w3] at q3;obtain⟨rfl,m3⟩:=q3;have aN:=ag.mk (M2.trans m3);clear M0 M1 M2 m1 m3 P0 P1 P2 Q1 P ID aP;refine bO rfl Lk rfl ?_
   repeat' (first|simp(maxSteps:=9999999) (disch:=first|exact dZ|fail) only[gW,reduceIte,ao,al,JR,dq,bN,QF,gL,gD,gE, *]|refine dX ?_ ?_<;>(intro _;try omega))
   exact⟨_,_,rfl,rfl,aN.out⟩
  |ok k l3=>
   rw[w3] at q3;obtain⟨v3,tok3,bQ,rfl,⟨tkk,szk,rfl,N0⟩,m3,Q3⟩:=q3;have b3:=Q3.box;have nb3:=Q3.lt;have kM:=ag.mk ((M2.trans m3).trans (.put b n0 h3 (par tok3 bQ l3 n {p with aO:=o,kinds:=k} {t with to:=tko,so:=szo,tk:=tkk,sk:=szk})));have kP:=ag.mk (Q3.with (p':={p with aO:=o,kinds:=k}) (t':={t with to:=tko,so:=szo,tk:=tkk,sk:=szk}));have k1:=ag.mk ID;have k2:=ag.mk N0;clear M0 M1 M2 m1 m3 P0 P1 P2 Q1 Q3 P ID N0 aP;refine bO rfl Lk rfl ?_
   repeat' (first|simp(maxSteps:=9999999) (disch:=first|exact dZ|fail) only[gW,reduceIte,ao,al,JR,dq,bN,QF,afh,gL,gD,gE, *]|refine dX ?_ ?_<;>(intro _;try omega))
   exact⟨_,_,rfl,_,_,_,_,_,_,rfl,kM.out,kP.out,k1.out,k2.out⟩
def adJ{m:Nat}(n0:Nat)(P:Pa b tok sz l n p t h)(ho:cR h=ab)(hn:n0<=h.tn)(hl:l.length<m):∃r h',W.call 78 [.ptr (.box b) 0] h=aa (r,h')/\SS b n0 n p t h (Cu m l) r h':=by
 have a23:=nq;have s23:=FQ;have a26:=eG;have s26:=ec;have nb:=P.lt;have bw_semi:=nu bK;have bw_2:=nw jR gn;simp only[bK] at bw_semi;simp only[jR,gn] at bw_2;obtain⟨r1,h1,c1,q1⟩:=aeG (m:=m) n0 P aj ho hn m hl;simp only[eN] at c1;have e9:Cu m l=(cD eN (iA m) m l).bind λw r=>(fm [jR,gn] r).bind λ_ r=>(cp m r).bind λx r=>(cS bK r).bind λ_ r=>.ok (w,x) r:=rfl;rw[e9];cases w1:cD eN (iA m) m l with
 |bad l1=>
  rw[w1] at q1;obtain⟨rfl,m1⟩:=q1;clear P;refine bO rfl Dh rfl ?_
  repeat' (first|simp(maxSteps:=9999999) (disch:=first|exact dZ|fail) only[gW,reduceIte,ao,al,Cp, *]|refine dX ?_ ?_<;>(intro _;try omega))
  exact⟨_,_,rfl,rfl,m1⟩
 |ok w l1=>
  rw[w1] at q1;obtain⟨v1,tok1,mC,rfl,⟨Ak,szr,rr,rfl,da,xM⟩,m1,Q1⟩:=q1;have b1:=Q1.box;have nb1:=Q1.lt;have strul:=@afj h1 b tok1 mC l1 n p t Ak szr rr w b1;have M1:=m1.trans (.put b n0 h1 (par tok1 mC l1 n {p with rules:=w} {t with tr:=Ak,sr:=szr,rr:=rr}));have P1:=Q1.with (p':={p with rules:=w}) (t':={t with tr:=Ak,sr:=szr,rr:=rr});have lG:l1.length<=l.length:=by have:=(qI eN (EJ m) m).len l;rw[w1] at this;exact this
  obtain⟨r2,h2,c2,q2⟩:=F3 n0 .tight [jR,gn] bh P1;simp only[jR,gn] at c2;rw[bE];cases w2:fm [jR,gn] l1 with
  |bad l2=>
   rw[w2] at q2;obtain⟨rfl,m2⟩:=q2;have aN:=ag.mk (M1.trans m2);clear M1 m1 m2 P1 Q1 P da xM b1;refine bO rfl Dh rfl ?_
   repeat' (first|simp(maxSteps:=9999999) (disch:=first|exact dZ|fail) only[gW,reduceIte,ao,al,Cp,dq,bN,gL,gD,gE, *]|refine dX ?_ ?_<;>(intro _;try omega))
   exact⟨_,_,rfl,rfl,aN.out⟩
  |ok u2 l2=>
   rw[w2] at q2;obtain⟨v2,tok2,sz2,rfl,rfl,m2,P2⟩:=q2;have M2:=M1.trans m2;have eQ:l2.length<=l1.length:=(by have:=(vO [jR,gn]).len l1;rw[w2] at this;exact this);obtain⟨r3,h3,c3,q3⟩:=Pu m b n0 tok2 sz2 l2 n _ _ h2 P2 (M2.ok ho) (cY hn M2.tn) aj;rw[bE];cases w3:cp m l2 with
   |bad l3=>
    rw[w3] at q3;obtain⟨rfl,m3⟩:=q3;have aN:=ag.mk (M2.trans m3);clear M1 M2 m1 m2 m3 P1 P2 Q1 P da xM b1;refine bO rfl Dh rfl ?_
    repeat' (first|simp(maxSteps:=9999999) (disch:=first|exact dZ|fail) only[gW,reduceIte,ao,al,Cp,dq,bN,gL,gD,gE, *]|refine dX ?_ ?_<;>(intro _;try omega))
    exact⟨_,_,rfl,rfl,aN.out⟩
   |ok x l3=>
    rw[w3] at q3;obtain⟨v3,tok3,bQ,rfl,⟨tke,sze,rowse,rfl,xF⟩,m3,Q3⟩:=q3;have b3:=Q3.box;have nb3:=Q3.lt;have M3:=(M2.trans m3).trans (.put b n0 h3 (par tok3 bQ l3 n {p with rules:=w,change:=x} {t with tr:=Ak,sr:=szr,rr:=rr,tok:=tke,sz:=sze,rows:=rowse}));have P3:=Q3.with (p':={p with rules:=w,change:=x}) (t':={t with tr:=Ak,sr:=szr,rr:=rr,tok:=tke,sz:=sze,rows:=rowse});obtain⟨r4,h4,c4,q4⟩:=ov n0 .tight bK P3;simp only[bK] at c4;rw[bE];cases w4:cS bK l3 with
    |bad l4=>
     rw[w4] at q4;obtain⟨rfl,m4⟩:=q4;have aN:=ag.mk (M3.trans m4);clear M1 M2 M3 m1 m2 m3 m4 P1 P2 P3 Q1 Q3 P da xM xF b1;refine bO rfl Dh rfl ?_
     repeat' (first|simp(maxSteps:=9999999) (disch:=first|exact dZ|fail) only[gW,reduceIte,ao,al,Cp,dq,bN,QD,gL,gD,gE, *]|refine dX ?_ ?_<;>(intro _;try omega))
     exact⟨_,_,rfl,rfl,aN.out⟩
    |ok u4 l4=>
     rw[w4] at q4;obtain⟨v4,tok4,iI,rfl,rfl,m4,P4⟩:=q4;have aN:=ag.mk (M3.trans m4);have kP:=ag.mk P4;have k1:=ag.mk da;have k2:=ag.mk xM;have k3:=ag.mk xF;clear M1 M2 M3 m1 m2 m3 m4 P1 P2 P3 P4 Q1 Q3 P da xM xF b1;refine bO rfl Dh rfl ?_
     repeat' (first|simp(maxSteps:=9999999) (disch:=first|exact dZ|fail) only[gW,reduceIte,ao,al,Cp,dq,bN,QD,gL,gD,gE, *]|refine dX ?_ ?_<;>(intro _;try omega))
     exact⟨_,_,rfl,_,_,_,_,_,_,_,_,rfl,aN.out,kP.out,k1.out,k2.out,k3.out⟩
end
def Co:Tryz.f75.results.toList=[]:=ai
def lQ:Tryz.f30.results.toList=[.cell 4 28,.cell 5 3,.cell 6 31]:=ai
def Km:cU aq 31=aa 1:=ai
def Ln:fZ aq 31=aa ak:=ai
def ags:(fa aq 31).bind AV.cF=aa [.v (.int .i64 0)]:=ai
def agr:(fa aq 3).bind AV.cF=aa [.v (.int .i64 0)]:=ai
def agn:(fa aq 107).bind AV.cF=aa [.v (.int .i64 0)]:=ai
def afs:cU aq 107=aa 1:=ai
def DR(r:Ref)(off:Nat):cN aq 107 (.ptr r off) 0=aa (.ptr r (off+0)):=ai
def Dp(x:AV):nr aq (.iface 107 x) 107 ab=aa (.tuple [x,.v (.bool ab)]):=ai
def Zu:isIface aq 20=aa ab:=ai
def wZ:gb aq 28 []=aa (.agg (au zP zT)):=ai
def oS{a z:AV}:dO [a] 0 [z]=[z]:=rfl
section
variable {h:ae} {c:Nat} {p p':Po} {t t':PT} {a a':Int}
def lp(hb:h.boxes[c]?=aa (au p t)):dh aq h 28 (.ptr (.box c) 0) (.agg (au p' t'))=aa (h.put c (au p' t')):=dK (off:=0) (cs:=au p t) (xs:=au p' t') rfl gV hb rfl (aK 10)
def FI(hb:h.boxes[c]?=aa [.v (.int .i64 a)]):dh aq h 107 (.ptr (.box c) 0) (.agg [.v (.int .i64 a')])=aa (h.put c [.v (.int .i64 a')]):=dK (off:=0) (cs:=[.v (.int .i64 a)]) (xs:=[.v (.int .i64 a')]) rfl afs hb rfl (aK 1)
def oT(hb:h.boxes[c]?=aa [.v (.int .i64 a)]):dh aq h 3 (.ptr (.box c) 0) (.v (.int .i64 a'))=aa (h.put c [.v (.int .i64 a')]):=dK (off:=0) (cs:=[.v (.int .i64 a)]) (xs:=[.v (.int .i64 a')]) rfl bQ hb rfl (aK 1)
def oU(hb:h.boxes[c]?=aa [.v (.int .i64 a)]):dh aq h 31 (.ptr (.box c) 0) (.v (.int .i64 a'))=aa (h.put c [.v (.int .i64 a')]):=dK (off:=0) (cs:=[.v (.int .i64 a)]) (xs:=[.v (.int .i64 a')]) rfl Km hb rfl (aK 1)
end
def tN(n:Nat):List AV:=[.ptr (.box n) 0,.ptr (.box (n+1)) 0,.ptr (.box (n+1+1)) 0]
def Pr(n:Nat)(h:ae):W.fS 75 (tN n) none h=aa (.ret (.tuple []),none,h):=by
 have u20:=Az;refine yH SO rfl ?_;unfold tN
 repeat' (first|simp(maxSteps:=9999999) (disch:=first|exact dZ|fail) only[gW,reduceIte,ao,al,Co,yD,and_self, *]|refine dX ?_ ?_<;>(intro _;try omega))
def E5(n:Nat)(h:ae)(a:Int){p:Po}{t:PT}{y z:Int}(h0:h.boxes[n]?=aa (au p t))(h1:h.boxes[n+1]?=aa [.v (.int .i64 y)])(h2:h.boxes[n+1+1]?=aa [.v (.int .i64 z)]):
 W.fS 75 (tN n) (aa (wH a,ak)) h=aa (.ret (.tuple []),aa (wH a,ab),(((h.push [.v (.int .i64 a)]).put n (au zP zT)).put (n+1) [.v (.int .i64 a)]).put (n+1+1) [.v (.int .i64 190)]):=by
 have u20:=Az;have i20:=Zu;have s28:=gV;have s31:=Km;have s3:=bQ;have z107:=agn;have a3:=dE;have n2:=(aF.1 h2).1;refine yH SO rfl ?_;unfold tN wH
 repeat' (first|simp(maxSteps:=9999999) (disch:=first|exact dZ|fail) only[gW,reduceIte,ao,al,Co,wX,Dp,DR,wZ,lp,FI,oT,oU,oS,bH,aJ,and_self, *]|refine dX ?_ ?_<;>(intro _;try omega))
 refine nM [(2,3)] ai ?_ ?_
 ·intro pr hp;simp only[qi] at hp;subst hp;refine uL (x:=.ptr (.box h.boxes.length) 0) (v:=.v (.int .i64 a)) ai rfl rfl rfl ai (by simp[fN,pY]) ?_ ?_
  ·simp only[di,de]
   repeat' (first|simp(maxSteps:=9999999) (disch:=first|exact dZ|fail) only[gW,reduceIte,ao,al,Co,wX,Dp,DR,wZ,lp,FI,oT,oU,oS,bH,aJ,and_self, *]|refine dX ?_ ?_<;>(intro _;try omega))
  ·simp only[di,de]
   repeat' (first|simp(maxSteps:=9999999) (disch:=first|exact dZ|fail) only[gW,reduceIte,ao,al,Co,wX,Dp,DR,wZ,lp,FI,oT,oU,oS,bH,aJ,and_self, *]|refine dX ?_ ?_<;>(intro _;try omega))
 ·repeat' (first|simp(maxSteps:=9999999) (disch:=first|exact dZ|fail) only[gW,reduceIte,ao,al,Co,wX,Dp,DR,wZ,lp,FI,oT,oU,oS,bH,aJ,and_self, *]|refine dX ?_ ?_<;>(intro _;try omega))
def lD(tk:Tok)(sz:Nat)(l:List Tk)(n:Int):gb aq 111 [(0,.list tk sz (cV l)),(1,.v (.int .i64 n))]=aa (.agg (par tk sz l n zP zT)):=ai
def fns(c:Nat):List (List AV):=[[.func (.func 76) [.ptr (.box c) 0] []],[.func (.func 77) [.ptr (.box c) 0] []],[.func (.func 78) [.ptr (.box c) 0] []]]
def Ud(c:Nat):gl aq 112 3 [(0,.func (.func 76) [.ptr (.box c) 0] []),(1,.func (.func 77) [.ptr (.box c) 0] []),(2,.func (.func 78) [.ptr (.box c) 0] [])]=aa (.list .tight 1 (fns c)):=ai
def WN(c:Nat):(fns c)[0]?=aa [.func (.func 76) [.ptr (.box c) 0] []]:=rfl
def WO(c:Nat):(fns c)[1]?=aa [.func (.func 77) [.ptr (.box c) 0] []]:=rfl
def WQ(c:Nat):(fns c)[2]?=aa [.func (.func 78) [.ptr (.box c) 0] []]:=rfl
def WR(c:Nat):(fns c).length=3:=rfl
def SZ:fZ aq 1=aa ak:=ai
def mC:cU aq 1=aa 1:=ai
def Df(m:Nat)(l:List Tk)(n:Int)(h:ae)(r:bw)(h':ae):Prop:=
 match mX m l with
 | .ok p _=>∃t,r=.ret (.tuple [.agg (au p t),.v (.int .i64 0),.v (.int .i64 0)])/\ek p t/\Ext h h'
 | .bad q=>r=.ret (.tuple [.agg (au zP zT),.v (.int .i64 (j9 n q)),.v (.int .i64 190)])/\Ext h h'
def H3(h:ae):ae:=((h.push (au zP zT)).push [.v (.int .i64 0)]).push [.v (.int .i64 0)]
def RM(h:ae):(H3 h).boxes.length=h.boxes.length+1+1+1:=by simp only[H3,aA]
def RL(h:ae):Ext h (H3 h):=((Ext.push h _).trans (.push _ _)).trans (.push _ _)
def RH(h:ae):(H3 h).boxes[h.boxes.length]?=aa (au zP zT):=bW (bW (bX _ _))
def RI(h:ae):(H3 h).boxes[h.boxes.length+1]?=aa [.v (.int .i64 0)]:=by have:=bW (cs:=[.v (.int .i64 0)]) (bX (h.push (au zP zT)) [.v (.int .i64 0)]);rw[aA] at this;exact this
def RJ(h:ae):(H3 h).boxes[h.boxes.length+1+1]?=aa [.v (.int .i64 0)]:=by have:=bX ((h.push (au zP zT)).push [.v (.int .i64 0)]) [.v (.int .i64 0)];rw[aA,aA] at this;exact this
structure Rd(h h':ae):Prop where
 mu:bp (h.boxes.length+1+1+1) h.tn h h'
 b0:h'.boxes[h.boxes.length]?=aa (au zP zT)
 b1:h'.boxes[h.boxes.length+1]?=aa [.v (.int .i64 0)]
 b2:h'.boxes[h.boxes.length+1+1]?=aa [.v (.int .i64 0)]
def Rd.call{h h' h2:ae}(R:Rd h h')(m:bp (h.boxes.length+1+1+1) h.tn h' h2):Rd h h2:=⟨R.mu.trans m,m.box _ _ aj R.b0,m.box _ _ aj R.b1,m.box _ _ aj R.b2⟩
def Rd.ext{h h':ae}(R:Rd h h'):Ext h h':=(Ext.refl h).mut R.mu aj
def agd(m:Nat)(l:List Tk):mX m l=(mQ m l).bind λp r=>if r=[] then .ok p r else .bad r:=rfl
def abU{m:Nat}{l r:List Tk}{p:Po}(h:mQ m l=.ok p r)(hl:l.length<=100000000){t:PT}(h1:eo p.rules t.rr)(h2:Row p.change (p5 p t))(h3:∀i:Nat,i<p.kinds.length->t.sk=1)(h4:∀i:Nat,i<p.aO.length->t.so=1)(h5:∀i:Nat,i<p.rules.length->t.sr=8):ek p t:=by
 have aP:=abT h;have e:(dH p).length=6+((ia dM p.aO).length+((ia ez p.kinds).length+((p.rules.flatMap bP).length+(2+((cM p.change).length+1))))):=by simp[dH];omega
 have lo:=(yM (l:=p.aO) (f:=λx=>[wT dM,nT x,wT bK]) (λx _=>by simp)).1;have lk:=(yM (l:=p.kinds) (f:=λx=>[wT ez,nT x,wT bK]) (λx _=>by simp)).1;have lr:=(yM (l:=p.rules) (f:=bP) (λx _=>by simp[bP])).1;have lo:p.aO.length<=(ia dM p.aO).length:=lo;have lk:p.kinds.length<=(ia ez p.kinds).length:=lk;exact⟨h1,h2,h3,h4,h5,by omega,by omega,by omega⟩
def Ps(m:Nat)(tk:Tok)(sz:Nat)(l:List Tk)(n:Int)(hz:∀i:Nat,i<l.length->sz=4)(hl:l.length<=100000000)(hm:l.length<m)(h:ae)(ho:cR h=ab):∃r h',W.call 30 [.list tk sz (cV l),.v (.int .i64 n)] h=aa (r,h')/\Df m l n h r h':=by
 have z28:=qX;have s28:=gV;have z3:=agr;have s3:=bQ;have z31:=ags;have s31:=Km;have a28:=iE;have a3:=dE;have a31:=Ln;have u39:=Tryz.underlying39;have u112:=Tryz.underlying112;have a1:=SZ;have s1:=mC;have a39:=sl;have f0:=WN (h.boxes.length+1+1+1);have f1:=WO (h.boxes.length+1+1+1);have f2:=WQ (h.boxes.length+1+1+1);have fl:=WR (h.boxes.length+1+1+1);have bl:=Ud (h.boxes.length+1+1+1);have calm:=Pr h.boxes.length;have XC:=RH h;have XD:=RI h;have XE:=RJ h;have XF:=RM h;have P0:Pa (h.boxes.length+1+1+1) tk sz l n zP zT ((H3 h).push (par tk sz l n zP zT)):=⟨by have:=bX (H3 h) (par tk sz l n zP zT);rw[XF] at this;exact this,hz,hl⟩;have R0:Rd h ((H3 h).push (par tk sz l n zP zT)):=⟨(bp.B0 (RL h) (aK _)).push _,bW XC,bW XD,bW XE⟩;obtain⟨r1,h1,c1,q1⟩:=Yc h.tn P0 rfl;have uk:=abS m l;unfold Df;rw[agd,uk];simp only[H3] at c1;cases w1:rq l with
 |bad l1=>
  rw[w1] at q1;obtain⟨rfl,m1⟩:=q1;have R1:=R0.call m1;have sv:=E5 h.boxes.length h1 (j9 n l1) R1.b0 R1.b1 R1.b2;have aN:=ag.mk ((((R1.ext.trans (.push h1 [.v (.int .i64 (j9 n l1))])).dm (b:=h.boxes.length) aj (au zP zT)).dm (b:=h.boxes.length+1) aj [.v (.int .i64 (j9 n l1))]).dm (b:=h.boxes.length+1+1) aj [.v (.int .i64 190)]);unfold tN at sv calm;have nl:=(aF.1 R1.b2).1;clear R0 R1 P0 m1;refine bO rfl Dg rfl ?_
  repeat' (first|simp(maxSteps:=9999999) (disch:=first|exact dZ|fail) only[gW,reduceIte,ao,al,lQ,lD,lO,bl,aA,aV,ck,aJ,bR,bT,dI,lL,lM,lK,lN,gE,lT,lU,lW,lV,f0,f1,f2,fl,bH,cT, *]|refine dX ?_ ?_<;>(intro _;try omega))
  refine oQ ?_
  repeat' (first|simp(maxSteps:=9999999) (disch:=first|exact dZ|fail) only[gW,reduceIte,ao,al,lQ,lD,lO,bl,aA,aV,ck,aJ,bR,bT,dI,lL,lM,lK,lN,gE,lT,lU,lW,lV,f0,f1,f2,fl,bH,cT, *]|refine dX ?_ ?_<;>(intro _;try omega))
  exact⟨_,_,rfl,rfl,aN.out⟩
 |ok hd l1=>
  rw[w1] at q1;obtain⟨tok1,mC,rfl,m1,P1⟩:=q1;have R1:=R0.call m1;have lG:l1.length<=l.length:=by have:=Jk.len l;rw[w1] at this;exact this
  obtain⟨r2,h2,c2,q2⟩:=aaZ (m:=m) h.tn P1 (R1.mu.ok ho) R1.mu.tn aj;rw[bE];cases w2:zt m l1 with
  |bad l2=>
   rw[w2] at q2;obtain⟨rfl,m2⟩:=q2;have R2:=R1.call m2;have sv:=E5 h.boxes.length h2 (j9 n l2) R2.b0 R2.b1 R2.b2;have aN:=ag.mk ((((R2.ext.trans (.push h2 [.v (.int .i64 (j9 n l2))])).dm (b:=h.boxes.length) aj (au zP zT)).dm (b:=h.boxes.length+1) aj [.v (.int .i64 (j9 n l2))]).dm (b:=h.boxes.length+1+1) aj [.v (.int .i64 190)]);unfold tN at sv calm;have nl:=(aF.1 R2.b2).1;clear R0 R1 R2 P0 P1 m1 m2;refine bO rfl Dg rfl ?_
   repeat' (first|simp(maxSteps:=9999999) (disch:=first|exact dZ|fail) only[gW,reduceIte,ao,al,lQ,lD,lO,bl,aA,aV,ck,aJ,bR,bT,dI,lL,lM,lK,lN,gE,lT,lU,lW,lV,f0,f1,f2,fl,bH,cT, *]|refine dX ?_ ?_<;>(intro _;try omega))
   refine oQ ?_
   repeat' (first|simp(maxSteps:=9999999) (disch:=first|exact dZ|fail) only[gW,reduceIte,ao,al,lQ,lD,lO,bl,aA,aV,ck,aJ,bR,bT,dI,lL,lM,lK,lN,gE,lT,lU,lW,lV,f0,f1,f2,fl,bH,cT, *]|refine dX ?_ ?_<;>(intro _;try omega))
   refine oQ ?_
   repeat' (first|simp(maxSteps:=9999999) (disch:=first|exact dZ|fail) only[gW,reduceIte,ao,al,lQ,lD,lO,bl,aA,aV,ck,aJ,bR,bT,dI,lL,lM,lK,lN,gE,lT,lU,lW,lV,f0,f1,f2,fl,bH,cT, *]|refine dX ?_ ?_<;>(intro _;try omega))
   exact⟨_,_,rfl,rfl,aN.out⟩
  |ok ns l2=>
   rw[w2] at q2;obtain⟨tok2,sz2,to2,so2,tk2,sk2,rfl,m2,P2,zo,zk⟩:=q2;have R2:=R1.call m2;have eQ:l2.length<=l1.length:=(by have:=(dW (qI dM (uz dM) m) λo=>dW (qI ez (uz ez) m) λk=>nJ (o,k)).len l1;have e:(zt m l1).left.length<=l1.length:=this;rw[w2] at e;exact e);obtain⟨r3,h3,c3,q3⟩:=adJ (m:=m) h.tn P2 (R2.mu.ok ho) R2.mu.tn aj;rw[bE];cases w3:Cu m l2 with
   |bad l3=>
    rw[w3] at q3;obtain⟨rfl,m3⟩:=q3;have R3:=R2.call m3;have sv:=E5 h.boxes.length h3 (j9 n l3) R3.b0 R3.b1 R3.b2;have aN:=ag.mk ((((R3.ext.trans (.push h3 [.v (.int .i64 (j9 n l3))])).dm (b:=h.boxes.length) aj (au zP zT)).dm (b:=h.boxes.length+1) aj [.v (.int .i64 (j9 n l3))]).dm (b:=h.boxes.length+1+1) aj [.v (.int .i64 190)]);unfold tN at sv calm;have nl:=(aF.1 R3.b2).1;clear R0 R1 R2 R3 P0 P1 P2 m1 m2 m3 zo zk;refine bO rfl Dg rfl ?_
    repeat' (first|simp(maxSteps:=9999999) (disch:=first|exact dZ|fail) only[gW,reduceIte,ao,al,lQ,lD,lO,bl,aA,aV,ck,aJ,bR,bT,dI,lL,lM,lK,lN,gE,lT,lU,lW,lV,f0,f1,f2,fl,bH,cT, *]|refine dX ?_ ?_<;>(intro _;try omega))
    refine oQ ?_
    repeat' (first|simp(maxSteps:=9999999) (disch:=first|exact dZ|fail) only[gW,reduceIte,ao,al,lQ,lD,lO,bl,aA,aV,ck,aJ,bR,bT,dI,lL,lM,lK,lN,gE,lT,lU,lW,lV,f0,f1,f2,fl,bH,cT, *]|refine dX ?_ ?_<;>(intro _;try omega))
    refine oQ ?_
    repeat' (first|simp(maxSteps:=9999999) (disch:=first|exact dZ|fail) only[gW,reduceIte,ao,al,lQ,lD,lO,bl,aA,aV,ck,aJ,bR,bT,dI,lL,lM,lK,lN,gE,lT,lU,lW,lV,f0,f1,f2,fl,bH,cT, *]|refine dX ?_ ?_<;>(intro _;try omega))
    refine oQ ?_
    repeat' (first|simp(maxSteps:=9999999) (disch:=first|exact dZ|fail) only[gW,reduceIte,ao,al,lQ,lD,lO,bl,aA,aV,ck,aJ,bR,bT,dI,lL,lM,lK,lN,gE,lT,lU,lW,lV,f0,f1,f2,fl,bH,cT, *]|refine dX ?_ ?_<;>(intro _;try omega))
    exact⟨_,_,rfl,rfl,aN.out⟩
   |ok wx l3=>
    rw[w3] at q3;obtain⟨tok3,bQ,tr3,sr3,rr3,tke3,sze3,rowse3,rfl,m3,P3,da,zr,xF⟩:=q3;have R3:=R2.call m3;have Ih:mQ m l=.ok ⟨hd.1,ns.2,ns.1,wx.1,wx.2,hd.2⟩ l3:=(by rw[uk,w1,bE,w2,bE,w3,bE]);have b3:=P3.box;have nb3:=P3.lt;rw[bE,bE];cases l3 with
    |nil=>
     have aU:=abU (t:=⟨tk2,sk2,to2,so2,tr3,sr3,rr3,tke3,sze3,rowse3⟩) Ih hl da xF zk zo zr;have b0:=R3.b0;have b1:=R3.b1;have b2:=R3.b2;have aN:=ag.mk (((R3.ext.dm (b:=h.boxes.length) aj (au ⟨hd.1,ns.2,ns.1,wx.1,wx.2,hd.2⟩ ⟨tk2,sk2,to2,so2,tr3,sr3,rr3,tke3,sze3,rowse3⟩)).dm (b:=h.boxes.length+1) aj [.v (.int .i64 0)]).dm (b:=h.boxes.length+1+1) aj [.v (.int .i64 0)]);have kok:=ag.mk aU;have nl:=(aF.1 R3.b2).1;have MZ:=Pr h.boxes.length (((h3.put h.boxes.length (au ⟨hd.1,ns.2,ns.1,wx.1,wx.2,hd.2⟩ ⟨tk2,sk2,to2,so2,tr3,sr3,rr3,tke3,sze3,rowse3⟩)).put (h.boxes.length+1) [.v (.int .i64 0)]).put (h.boxes.length+1+1) [.v (.int .i64 0)]);unfold tN at calm MZ;have ipn:¬((0:Int)<(([]:List Tk).length:Int)):=(by simp);have ipd:decide ((0:Int)<(([]:List Tk).length:Int))=ak:=mH ipn;rw[aB rfl];clear R0 R1 R2 R3 P0 P1 P2 P3 m1 m2 m3 zo zk zr da xF aU Ih uk;refine bO rfl Dg rfl ?_
     repeat' (first|simp(maxSteps:=9999999) (disch:=first|exact dZ|fail) only[gW,reduceIte,ao,al,lQ,lD,lO,bl,aA,aV,ck,aJ,bR,bT,dI,lL,lM,lK,lN,gE,lT,lU,lW,lV,f0,f1,f2,fl,bH,cT,dq,eB,eu,lS,sW,lp,oT,oU,oS,gL,gD, *]|refine dX ?_ ?_<;>(intro _;try omega))
     refine oQ ?_
     repeat' (first|simp(maxSteps:=9999999) (disch:=first|exact dZ|fail) only[gW,reduceIte,ao,al,lQ,lD,lO,bl,aA,aV,ck,aJ,bR,bT,dI,lL,lM,lK,lN,gE,lT,lU,lW,lV,f0,f1,f2,fl,bH,cT,dq,eB,eu,lS,sW,lp,oT,oU,oS,gL,gD, *]|refine dX ?_ ?_<;>(intro _;try omega))
     refine oQ ?_
     repeat' (first|simp(maxSteps:=9999999) (disch:=first|exact dZ|fail) only[gW,reduceIte,ao,al,lQ,lD,lO,bl,aA,aV,ck,aJ,bR,bT,dI,lL,lM,lK,lN,gE,lT,lU,lW,lV,f0,f1,f2,fl,bH,cT,dq,eB,eu,lS,sW,lp,oT,oU,oS,gL,gD, *]|refine dX ?_ ?_<;>(intro _;try omega))
     refine oQ ?_
     repeat' (first|simp(maxSteps:=9999999) (disch:=first|exact dZ|fail) only[gW,reduceIte,ao,al,lQ,lD,lO,bl,aA,aV,ck,aJ,bR,bT,dI,lL,lM,lK,lN,gE,lT,lU,lW,lV,f0,f1,f2,fl,bH,cT,dq,eB,eu,lS,sW,lp,oT,oU,oS,gL,gD, *]|refine dX ?_ ?_<;>(intro _;try omega))
     refine oQ ?_
     repeat' (first|simp(maxSteps:=9999999) (disch:=first|exact dZ|fail) only[gW,reduceIte,ao,al,lQ,lD,lO,bl,aA,aV,ck,aJ,bR,bT,dI,lL,lM,lK,lN,gE,lT,lU,lW,lV,f0,f1,f2,fl,bH,cT,dq,eB,eu,lS,sW,lp,oT,oU,oS,gL,gD, *]|refine dX ?_ ?_<;>(intro _;try omega))
     exact⟨_,_,rfl,_,rfl,kok.out,aN.out⟩
    |cons x r3=>
     have cf:=vk P3;have ip:(0:Int)<((x::r3).length:Int):=(by rw[dD];omega);have sv:=E5 h.boxes.length h3 (j9 n (x::r3)) R3.b0 R3.b1 R3.b2;have aN:=ag.mk ((((R3.ext.trans (.push h3 [.v (.int .i64 (j9 n (x::r3)))])).dm (b:=h.boxes.length) aj (au zP zT)).dm (b:=h.boxes.length+1) aj [.v (.int .i64 (j9 n (x::r3)))]).dm (b:=h.boxes.length+1+1) aj [.v (.int .i64 190)]);unfold tN at sv calm;have nl:=(aF.1 R3.b2).1;rw[ax bh];clear R0 R1 R2 R3 P0 P1 P2 P3 m1 m2 m3 zo zk zr da xF Ih uk;refine bO rfl Dg rfl ?_
     repeat' (first|simp(maxSteps:=9999999) (disch:=first|exact dZ|fail) only[gW,reduceIte,ao,al,lQ,lD,lO,bl,aA,aV,ck,aJ,bR,bT,dI,lL,lM,lK,lN,gE,lT,lU,lW,lV,f0,f1,f2,fl,bH,cT,dq,eB,eu,lS,sW,lp,oT,oU,oS,gL,gD, *]|refine dX ?_ ?_<;>(intro _;try omega))
     refine oQ ?_
     repeat' (first|simp(maxSteps:=9999999) (disch:=first|exact dZ|fail) only[gW,reduceIte,ao,al,lQ,lD,lO,bl,aA,aV,ck,aJ,bR,bT,dI,lL,lM,lK,lN,gE,lT,lU,lW,lV,f0,f1,f2,fl,bH,cT,dq,eB,eu,lS,sW,lp,oT,oU,oS,gL,gD, *]|refine dX ?_ ?_<;>(intro _;try omega))
     refine oQ ?_
     repeat' (first|simp(maxSteps:=9999999) (disch:=first|exact dZ|fail) only[gW,reduceIte,ao,al,lQ,lD,lO,bl,aA,aV,ck,aJ,bR,bT,dI,lL,lM,lK,lN,gE,lT,lU,lW,lV,f0,f1,f2,fl,bH,cT,dq,eB,eu,lS,sW,lp,oT,oU,oS,gL,gD, *]|refine dX ?_ ?_<;>(intro _;try omega))
     refine oQ ?_
     repeat' (first|simp(maxSteps:=9999999) (disch:=first|exact dZ|fail) only[gW,reduceIte,ao,al,lQ,lD,lO,bl,aA,aV,ck,aJ,bR,bT,dI,lL,lM,lK,lN,gE,lT,lU,lW,lV,f0,f1,f2,fl,bH,cT,dq,eB,eu,lS,sW,lp,oT,oU,oS,gL,gD, *]|refine dX ?_ ?_<;>(intro _;try omega))
     refine oQ ?_
     repeat' (first|simp(maxSteps:=9999999) (disch:=first|exact dZ|fail) only[gW,reduceIte,ao,al,lQ,lD,lO,bl,aA,aV,ck,aJ,bR,bT,dI,lL,lM,lK,lN,gE,lT,lU,lW,lV,f0,f1,f2,fl,bH,cT,dq,eB,eu,lS,sW,lp,oT,oU,oS,gL,gD, *]|refine dX ?_ ?_<;>(intro _;try omega))
     exact⟨_,_,rfl,rfl,aN.out⟩
end Go.Proofs.YtmdakolcndpjeaaGreatDoor
end
section
namespace Go.Proofs.YtmdakolcndpjeaaGreatDoor
open Go.AE Go.Lex
def afJ(r:Option (bw × ae)):Tok:=match r with|some (.ret (.tuple (.list k _ _::_)),_)=>k|_=>.nil
def afy(r:Option (bw × ae)):Nat:=match r with|some (.ret (.tuple (.list _ sz _::_)),_)=>sz|_=>0
noncomputable def vK(src:List UInt8)(h:ae):Tok:=afJ (W.call 16 [.v (.string (bs src))] h)
noncomputable def vJ(src:List UInt8)(h:ae):Nat:=afy (W.call 16 [.v (.string (bs src))] h)
noncomputable def uw(src:List UInt8)(h:ae):ae:=Bf W 16 [.v (.string (bs src))] h
section
variable {src:List UInt8} {h:ae}
def IT(hs:src.length<=9223372036854775807)(ho:cR h=ab):W.call 16 [.v (.string (bs src))] h=aa (.ret (.tuple [.list (vK src h) (vJ src h) (cV (fj src).1),.v (.int .i64 (fj src).2.1),.v (.int .i64 (fj src).2.2)]),uw src h)/\
 Ext h (uw src h)/\dx h.tn (uw src h) (vK src h)/\(vJ src h=4∨((fj src).1=[]/\vK src h=.nil)):=by
 obtain⟨r,h',hc,tok,sz,rfl,hx,hk,hz⟩:=aaa src hs h ho;have e1:vK src h=tok:=by unfold vK;rw[hc];rfl
 have e2:vJ src h=sz:=by unfold vJ;rw[hc];rfl
 have e3:uw src h=h':=HI hc;rw[e1,e2,e3];exact⟨hc,hx,hk,hz⟩
def Z8(hs:src.length<=9223372036854775807)(ho:cR h=ab):W.call 16 [.v (.string (bs src))] h=aa (.ret (.tuple [.list (vK src h) (vJ src h) (cV (fj src).1),.v (.int .i64 (fj src).2.1),.v (.int .i64 (fj src).2.2)]),uw src h):=(IT hs ho).1
def Ou(hs:src.length<=9223372036854775807)(ho:cR h=ab):Ext h (uw src h):=(IT hs ho).2.1
def Z9(hs:src.length<=9223372036854775807)(ho:cR h=ab):cR (uw src h)=ab:=(Ou hs ho).ok ho
def aad(hs:src.length<=9223372036854775807)(ho:cR h=ab):∀i:Nat,i<(fj src).1.length->vJ src h=4:=by
 intro i hi;rcases (IT hs ho).2.2.2 with q|⟨q,-⟩
 ·exact q
 ·rw[q] at hi;cases hi
def Z6(src:List UInt8):(fj src).1.length<=65536:=by
 have hv:∀(m:Nat) (s:List UInt8) (k:Nat) (l:List Tk),s.length<=m->fx s k=.ok l->l.length<=s.length:=by
  intro m
  induction m with
  |zero=>intro s k l hs h;obtain rfl:=List.length_eq_zero_iff.1 (Nat.le_zero.1 hs);rw[BM] at h;injection h with h;subst h;simp
  |succ m ih=>
   intro s k l hs h;cases s with
   |nil=>rw[BM] at h;injection h with h;subst h;simp
   |cons c r=>
    cases bC:gJ c r with
    |none=>rw[Ot bC] at h;cases h
    |some q=>
     obtain⟨n,o⟩:=q;rw[zh bC] at h;cases hr:fx (r.drop (n - 1)) (k+n) with
     |nR i=>rw[hr] at h;cases h
     |ok l'=>
      rw[hr] at h;injection h with h;have:=ih (r.drop (n - 1)) (k+n) l' (by simp at hs ⊢;omega) hr;subst h;simp only[List.length_drop] at this;cases o with|none=>simp[GG];omega|some q=>obtain⟨a,t,v⟩:=q;simp[GG];omega
 unfold fj;split
 ·simp
 ·split
  ·rename_i h1 l h2;have:=hv src.length src 0 l (aK _) h2;show l.length<=65536;omega
  ·simp
end
end Go.Proofs.YtmdakolcndpjeaaGreatDoor
end
section
namespace Go.Proofs.YtmdakolcndpjeaaGreatDoor
open Go.AE Go.Lex Go.Pol Go.Syn
def JO:Tryz.f14.results.toList=[.cell 2 28,.tmp 3,.tmp 4]:=ai
def rM(src:List UInt8):Po × Int × Int:=
 if (fj src).2.2=0 then
  match mX ((fj src).1.length+1) (fj src).1 with
  | .ok p _=>(p,0,0)
  | .bad r=>(zP,j9 (src.length:Int) r,190)
 else (zP,(fj src).2.1,(fj src).2.2)
def RG(R:Rec)(g:FuncId)(args:List AV)(h:ae)(q:Po)(a e:Int):Prop:=∃t h',R.call g args h=aa (.ret (.tuple [.agg (au q t),.v (.int .i64 a),.v (.int .i64 e)]),h')/\Ext h h'/\ek q t
def abD(src:List UInt8)(hs:src.length<=9223372036854775807)(h:ae)(ho:cR h=ab):RG W 14 [.v (.string (bs src))] h (rM src).1 (rM src).2.1 (rM src).2.2:=by
 have z28:=qX;have s28:=gV;have a28:=iE;have u9:=fH
 suffices hh:∃r h',W.call 14 [.v (.string (bs src))] h=aa (r,h')/\∃t,r=.ret (.tuple [.agg (au (rM src).1 t),.v (.int .i64 (rM src).2.1),.v (.int .i64 (rM src).2.2)])/\Ext h h'/\ek (rM src).1 t by obtain⟨r,h',a,t,rfl,b,c⟩:=hh;exact⟨t,h',a,b,c⟩
 have c1:=Z8 (src:=src) (h:=h.push (au zP zT)) hs ho;have x1:=Ou (src:=src) (h:=h.push (au zP zT)) hs ho;have o1:=Z9 (src:=src) (h:=h.push (au zP zT)) hs ho;have z1:=aad (src:=src) (h:=h.push (au zP zT)) hs ho;have ln:=Z6 src;have b1:=x1.box _ _ (bX h (au zP zT));obtain⟨r2,h2,c2,q2⟩:=Ps ((fj src).1.length+1) (vK src (h.push (au zP zT))) (vJ src (h.push (au zP zT))) (fj src).1 (src.length:Int) z1 aj aj (uw src (h.push (au zP zT))) o1;have e0:rM src=if (fj src).2.2=0 then (match mX ((fj src).1.length+1) (fj src).1 with| .ok p _=>(p,0,0)| .bad r=>(zP,j9 (src.length:Int) r,190)) else (zP,(fj src).2.1,(fj src).2.2):=rfl
 unfold Df at q2;generalize vK src (h.push (au zP zT))=tk at *
 generalize vJ src (h.push (au zP zT))=sz at *
 generalize uw src (h.push (au zP zT))=h1 at *
 have nb1:=(aF.1 b1).1;rw[e0];cases he:decide ((fj src).2.2=0) with
 |false=>
  have vu:=of_decide_eq_false he;rw[ax vu];have aN:=ag.mk (((Ext.push h _).trans x1).dm (b:=h.boxes.length) (aK _) (au zP zT));clear x1 q2 c2 e0;generalize (fj src).2.2=er at *
  generalize (fj src).2.1=at_ at *
  generalize (fj src).1=l at *
  refine bO rfl Lg rfl ?_
  repeat' (first|simp(maxSteps:=9999999) (disch:=first|exact dZ|fail) only[gW,reduceIte,ao,al,JO,wZ,lp,cT, *]|refine dX ?_ ?_<;>(intro _;try omega))
  exact⟨_,_,rfl,_,rfl,aN.out,wI⟩
 |true=>
  have vu:=of_decide_eq_true he;rw[aB vu];rw[vu] at c1;generalize hl:(fj src).1=l at *
  cases w:mX (l.length+1) l with
  |ok p r=>
   rw[w] at q2;obtain⟨t,rfl,aU,x2⟩:=q2;have b2:=x2.box _ _ b1;have nb2:=(aF.1 b2).1;have aN:=ag.mk ((((Ext.push h _).trans x1).trans x2).dm (b:=h.boxes.length) (aK _) (au p t));have kok:=ag.mk aU;clear x1 x2 aU e0 he vu;refine bO rfl Lg rfl ?_
   repeat' (first|simp(maxSteps:=9999999) (disch:=first|exact dZ|fail) only[gW,reduceIte,ao,al,JO,wZ,lp,cT, *]|(refine dX ?_ ?_<;>(intro _;try omega))|refine bM ai ?_)
   exact⟨_,_,rfl,_,rfl,aN.out,kok.out⟩
  |bad r=>
   rw[w] at q2;obtain⟨rfl,x2⟩:=q2;have b2:=x2.box _ _ b1;have nb2:=(aF.1 b2).1;have aN:=ag.mk ((((Ext.push h _).trans x1).trans x2).dm (b:=h.boxes.length) (aK _) (au zP zT));clear x1 x2 e0 he vu;refine bO rfl Lg rfl ?_
   repeat' (first|simp(maxSteps:=9999999) (disch:=first|exact dZ|fail) only[gW,reduceIte,ao,al,JO,wZ,lp,cT, *]|(refine dX ?_ ?_<;>(intro _;try omega))|refine bM ai ?_)
   exact⟨_,_,rfl,_,rfl,aN.out,wI⟩
def zQ:Tryz.f12.results.toList=[.tmp 2,.tmp 3]:=ai
def Dx:gb aq 65 []=aa (.agg [.list .nil 0 (cV [])]):=ai
def Dy(x:AV)(hx:x=.list .nil 0 (cV [])):(AV.agg [x]).cF=aa [x]:=by subst hx;rfl
def vU(p:Po):List UInt8 × Int:=if j0 p=ab then (kD (dH p),0) else ([],190)
def OH{p:Po}(h:j0 p=ab):1<=p.mode/\p.mode<=4:=by unfold j0 at h;simp only[Bool.and_eq_true,decide_eq_true_eq] at h;exact h.1
def zH{p:Po}(h:¬j0 p=ab):vU p=([],190):=by unfold vU;rw[ax h]
def Pg{p:Po}(h:j0 p=ab):vU p=(kD (dH p),0):=by unfold vU;rw[aB h]
def K8(p:Po)(h:ae)(r:bw)(h':ae):Prop:=r=.ret (.tuple [.v (.string (bs (vU p).1)),.v (.int .i64 (vU p).2)])/\Ext h h'
def ab3(p:Po)(t:PT)(hp:ek p t)(aP:(dH p).length<=1048576)(h:ae)(ho:cR h=ab):gY W 12 [.agg (au p t)] h (.ret (.tuple [.v (.string (bs (vU p).1)),.v (.int .i64 (vU p).2)])):=by
 have a28:=iE;have s28:=gV;have z28:=qX;have a3:=dE;have a39:=sl;have s39:=yi;have a9:=dR;have a31:=Ln
 suffices hh:∃r h',W.call 12 [.agg (au p t)] h=aa (r,h')/\K8 p h r h' by obtain⟨r,h',a,rfl,b⟩:=hh;exact⟨h',a,b⟩
 unfold K8;have x1:=Ext.push h (au p t);by_cases jN:p.mode<1
 ·have hw:¬j0 p=ab:=λhw=>by have:=(OH hw).1;omega
  rw[zH hw];have kx1:=ag.mk x1;clear x1 hw;refine bO rfl Ay rfl ?_
  repeat' (first|simp(maxSteps:=9999999) (disch:=first|exact dZ|fail) only[gW,reduceIte,ao,al,zQ,bN,cK,aA, *]|refine dX ?_ ?_<;>(intro _;try omega))
  exact⟨_,_,rfl,rfl,kx1.out⟩
 by_cases H7:4<p.mode
 ·have hw:¬j0 p=ab:=λhw=>by have:=(OH hw).2;omega
  rw[zH hw];have kx1:=ag.mk x1;clear x1 hw;refine bO rfl Ay rfl ?_
  repeat' (first|simp(maxSteps:=9999999) (disch:=first|exact dZ|fail) only[gW,reduceIte,ao,al,zQ,bN,cK,aA, *]|refine dX ?_ ?_<;>(intro _;try omega))
  exact⟨_,_,rfl,rfl,kx1.out⟩
 have x2:=x1.trans (Ext.push (h.push (au p t)) [.list .nil 0 (cV [])]);have W0:Wr (h.boxes.length+1) h.tn [] ((h.push (au p t)).push [.list .nil 0 (cV [])]):=⟨⟨.nil,0,by have:=bX (h.push (au p t)) [.list .nil 0 (cV [])];rw[aA] at this;exact this,.inr ⟨rfl,rfl⟩,.inl rfl⟩,x2.ok ho,x2.tn,cz _⟩;have pb0:((h.push (au p t)).push [.list .nil 0 (cV [])]).boxes[h.boxes.length]?=aa (au p t):=bW (bX _ _);obtain⟨h2,c2,m2,W2⟩:=abX (h.boxes.length+1) h.tn p t hp aj aj [] _ W0 (by rw[bT];omega);rw[bT] at W2;have x3:=x2.mut m2 aj;have pb2:=m2.box _ _ aj pb0;obtain⟨tok,sz,wb,wsz,-⟩:=W2.box;have bL:dH p≠[]:=by simp[dH]
 have hz:∀i:Nat,i<(dH p).length->sz=4:=λ_ _=>wsz.resolve_right λq=>bL q.1;obtain⟨h3,c3,x4⟩:=afD tok sz (dH p) hz aP h2;rw[afC] at c3;have nb0:=(aF.1 pb2).1;have wb3:=x4.box _ _ wb;have pb3:=x4.box _ _ pb2;have x5:=x3.trans x4;have lp0:=cT pb0;by_cases hv:Valid (dH p);rotate_left 1
 ·have hw:¬j0 p=ab:=λhw=>hv (Pe hw);rw[zH hw];have e1:Aj (dH p)=30:=by unfold Aj;rw[ax];intro q;exact hv λt ht=>dn.1 q t ht
  rw[e1] at c3;have kx:=ag.mk x5;clear x1 x2 x3 x4 x5 W0 W2 m2 hw hv hz wsz;refine bO rfl Ay rfl ?_
  repeat' (first|simp(maxSteps:=9999999) (disch:=first|exact dZ|fail) only[gW,reduceIte,ao,al,zQ,bN,cK,aA,Dx,Dy,vj,aJ, *]|refine dX ?_ ?_<;>(intro _;try omega))
  exact⟨_,_,rfl,rfl,kx.out⟩
 have e1:Aj (dH p)=0:=by unfold Aj;rw[aB];exact dn.2 λt ht=>hv t ht
 have e2:FV (dH p)=kD (dH p):=by unfold FV;rw[aB];exact dn.2 λt ht=>hv t ht
 rw[e1,e2] at c3;obtain⟨r4,h4,c4,q4⟩:=Ps ((dH p).length+1) tok sz (dH p) 0 hz aj aj h3 (x5.ok ho);unfold Df at q4;cases w:mX ((dH p).length+1) (dH p) with
 |bad q=>
  rw[w] at q4;obtain⟨rfl,x6⟩:=q4;have hw:¬j0 p=ab:=λhw=>by have:=JD hw (m:=(dH p).length+1) aj;rw[w] at this;cases this
  rw[zH hw];have x7:=x5.trans x6;have kx:=ag.mk (x7.trans (Ext.push h4 (au zP zT)));clear x1 x2 x3 x4 x5 x6 x7 W0 W2 m2 hw hv hz wsz;refine bO rfl Ay rfl ?_
  repeat' (first|simp(maxSteps:=9999999) (disch:=first|exact dZ|fail) only[gW,reduceIte,ao,al,zQ,bN,cK,aA,Dx,Dy,vj,aJ,lp,bH, *]|refine dX ?_ ?_<;>(intro _;try omega))
  exact⟨_,_,rfl,rfl,kx.out⟩
 |ok x q=>
  rw[w] at q4;obtain⟨u,rfl,hu,x6⟩:=q4;have x7:=x5.trans x6;have pb4:=bW (cs:=au x u) (x6.box _ _ pb3);have px4:=bX h4 (au x u);obtain⟨h5,c5,x8⟩:=ad9 x p u t hu hp (h4.push (au x u));have lx4:=cT px4;have lp4:=cT pb4;have kx:=ag.mk ((x7.trans (Ext.push h4 (au x u))).trans x8);cases hs:nO x p with
  |true=>
   have NY:=rT.1 hs;have hw:j0 p=ab:=(by rw[NY] at w;exact aga hv w);rw[Pg hw];rw[hs] at c5;clear x1 x2 x3 x4 x5 x6 x7 x8 W0 W2 m2 hw hv hz wsz NY hs hu;refine bO rfl Ay rfl ?_
   repeat' (first|simp(maxSteps:=9999999) (disch:=first|exact dZ|fail) only[gW,reduceIte,ao,al,zQ,bN,cK,aA,Dx,Dy,vj,aJ,lp,bH, *]|refine dX ?_ ?_<;>(intro _;try omega))
   exact⟨_,_,rfl,rfl,kx.out⟩
  |false=>
   have hw:¬j0 p=ab:=λhw=>(by have:=JD hw (m:=(dH p).length+1) aj;rw[w] at this;injection this with e _;rw[rT.2 e] at hs;cases hs);rw[zH hw];rw[hs] at c5;clear x1 x2 x3 x4 x5 x6 x7 x8 W0 W2 m2 hw hv hz wsz hs hu;refine bO rfl Ay rfl ?_
   repeat' (first|simp(maxSteps:=9999999) (disch:=first|exact dZ|fail) only[gW,reduceIte,ao,al,zQ,bN,cK,aA,Dx,Dy,vj,aJ,lp,bH, *]|refine dX ?_ ?_<;>(intro _;try omega))
   exact⟨_,_,rfl,rfl,kx.out⟩
def abF{s:List UInt8}{m:List Tk}(h:fx s 0=.ok m)(hs:s.length<=65536):rM s=match mX (m.length+1) m with| .ok p _=>(p,0,0)| .bad r=>(zP,j9 (s.length:Int) r,190):=by
 have hF:fj s=(m,0,0):=by unfold fj;rw[ax aj,h]
 unfold rM;rw[hF];rfl
def abG{p:Po}(hw:j0 p=ab)(hl:(kD (dH p)).length<=65536):rM (kD (dH p))=(p,0,0):=by obtain⟨m,h1,h2⟩:=Z7 (Pe hw);have hb:=af7 hw (f:=m.length+1) (by have:=Qh h2;omega) h2;rw[abF h1 hl,hb]
def zG:∀(x:Ex) (lim:Int),0<=lim->parts x lim=if (cZ x:Int)<=lim then (cZ x:Int) else lim+1:=by
 intro x
 induction x using Ex.ind with
 |h k n no name l ih=>
  intro lim h0;have key:∀(r:List Ex),(∀y∈r,y∈l)->∀m:Int,1<=m->m<=lim+1->oh r m lim=if m+(fI r:Int)<=lim then m+(fI r:Int) else lim+1:=by
   intro r
   induction r with
   |nil=>intro _ m h1 h2;rw[oh,fI];split<;>omega
   |cons y r ihr=>
    intro cQ m h1 h2;rw[oh,fI];by_cases hm:m<=lim
    ·rw[aB hm,ih y (cQ y dQ) (lim - m) aj];by_cases hc:(cZ y:Int)<=lim - m
     ·rw[aB hc,ihr (λz hz=>cQ z (dG _ hz)) _ aj aj];split<;>split<;>omega
     ·rw[ax hc,ihr (λz hz=>cQ z (dG _ hz)) _ aj aj];split<;>split<;>omega
    ·rw[ax hm];split<;>omega
  rw[parts,cZ,key l (λ_ h=>h) 1 aj aj];split<;>split<;>omega
def afL:∀(l:List Ex) (b:Bool),(∀x∈l,(cM x).length+3<=7 * cZ x)->(gK b l).length<=7 * fI l:=by
 intro l
 induction l with
 |nil=>intro b _;rw[gK];simp|cons x r ih=>
  intro b h;have h1:=h x dQ;have h2:=ih ak λy hy=>h y (dG _ hy);rw[gK,fI];cases b
  ·simp only[dP,if_false,dD,iJ,cO];omega
  ·simp only[if_true,dD,iJ,cO];omega
def afG:∀(l:List Ex) (b:Bool),(∀x∈l,(cM x).length+3<=7 * cZ x)->(eD b l).length<=7 * fI l:=by
 intro l
 induction l with
 |nil=>intro b _;rw[eD];simp|cons x r ih=>
  intro b h;have h1:=h x dQ;have h2:=ih ak λy hy=>h y (dG _ hy);rw[eD,fI];cases b
  ·simp only[dP,if_false,dD,iJ,cO];omega
  ·simp only[if_true,dD,iJ,cO];omega
def QM:∀x:Ex,(cM x).length+3<=7 * cZ x:=by
 intro x
 induction x using Ex.ind with
 |h k n no s l ih=>
  rw[cM,cZ];have h1:=afL l ab ih;have h2:=afG l ab ih;split
  ·simp only[dD,iJ];omega
  ·split
   ·simp only[dD,iJ];omega
   ·split
    ·simp only[dD,iJ];omega
    ·simp only[IS];omega
def Hq{α:Type}{f:α->List Tk}{n:Nat}:∀{l:List α},(∀x∈l,(f x).length<=n)->(l.flatMap f).length<=l.length * n:=by
 intro l
 induction l with
 |nil=>intro _;simp|cons x r ih=>intro h;have h1:=h x dQ;have h2:=ih λy hy=>h y (dG _ hy);rw[List.flatMap_cons,cO,dD,Nat.succ_mul];omega
structure agx(p:Po):Prop where
 aO:p.aO.length<=60
 kinds:p.kinds.length<=60
 rules:p.rules.length<=20
 change:cZ p.change<=60
 exprs:∀x∈p.rules,cZ x.expr<=60
end Go.Proofs.YtmdakolcndpjeaaGreatDoor
end
section
end
section
namespace Go.Proofs.YtmdakolcndpjeaaGreatDoor
open Go.AE Go.Lex
end Go.Proofs.YtmdakolcndpjeaaGreatDoor
end
section
namespace Go.Proofs.YtmdakolcndpjeaaGreatDoor
open Go.AE Go.Lex Go.Pol
section
variable {k n no:Int} {s:List UInt8} {tok:Tok} {sz:Nat} {rows:List (List AV)}
end
def Fe:Tryz.f113.results.toList=[.tmp 4]:=ai
def abK:∀(x:Ex) (row:List AV),Row x row->∀(lim:Int),0<=lim->lim<=1000->∀h,gY W 113 [.agg row,.v (.int .i64 lim)] h (.ret (.v (.int .i64 (parts x lim)))):=by
 intro x
 induction x using Ex.ind with
 |h kk nn no name l ih=>
  intro row et lim vA lG h;obtain⟨tok,sz,rows,rfl,cu,bG,-⟩:=Row.iQ et;clear et;have ux:=j6;have a3:=dE;have a24:=jm;have a26:=eG;have s26:=ec;have aP:=cu.1;simp only[Ex.kind,Ex.n,Ex.no,Ex.name,Ex.l] at cu bG aP ⊢;have kr:=ag.mk cu;have kz:=ag.mk bG;have kih:=ag.mk ih;clear cu bG ih;refine eI rfl Tryz.func113 rfl ?_
  repeat' (first|simp(maxSteps:=9999999) (disch:=first|exact dZ|fail) only[gW,reduceIte,ao,al,Fe,lP, *]|(refine dX ?_ ?_<;>(intro _;try omega))|refine bM ai ?_)
  refine eX (λm e h'=>∃(i:Nat) (n:Int),i<=l.length/\m=l.length - i/\e.get 1=.v (.int .i64 lim)/\e.get 2=.ptr (.box h.boxes.length) 0/\e.get 5=.v (.int .i64 n)/\e.get 6=.v (.int .i64 i)/\e.defers=[]/\Ext h h'/\
   h'.boxes[h.boxes.length]?=aa (ar kk nn no name tok sz rows)/\(i:Int)+1<=n/\n<=lim+1/\oh (l.drop i) n lim=parts (.mk kk nn no name l) lim) ?_ l.length _ _ ?_
  ·rintro m e h' ⟨i,n,hi,rfl,g1,g2,g5,g6,hd,hx,hb,uf,Bk,hp⟩;have kx:=ag.mk hx;have kp:=ag.mk hp;clear hx hp;by_cases ay:i<l.length
   ·obtain⟨y,r,hy,hr,cX⟩:=kr.out.get ay;have h5:=kz.out i ay;subst h5;have dU:(i:Int)<(rows.length:Int):=(by rw[aP];omega);have gh:=cX.len;have NM:=Kn gh;by_cases rA:n<=lim
    ·obtain⟨h2,hc,dk⟩:=kih.out y (ie hy) r cX (lim - n) aj aj h';have YZ:=abJ y (lim - n) aj;obtain⟨p1,p2⟩:=YZ;have kx2:=ag.mk dk;have kb:=ag.mk hb;clear dk;have qC:5<=(r.drop 0).length:=by rw[fc];omega
     repeat' (first|simp(maxSteps:=9999999) (disch:=first|exact dZ|fail) only[gW,reduceIte,ao,al,Fe,gy,bZ,aV,dr, *]|(refine dX ?_ ?_<;>(intro _;try omega))|refine bM ai ?_)
     refine⟨l.length - (i+1),by omega,i+1,n+parts y (lim - n),by omega,rfl,(by first|trivial|(simp;done)|(simp;omega)),(by first|trivial|(simp;done)|(simp;omega)),(by first|trivial|(simp;done)|(simp;omega)),(by first|trivial|(simp;done)|(simp;omega)),(by first|trivial|(simp;done)|(simp;omega)),kx.out.trans kx2.out,kx2.out.box _ _ kb.out,by omega,by omega,?_⟩;rw[<-kp.out,Ml hy,oh,aB rA]
    ·repeat' (first|simp(maxSteps:=9999999) (disch:=first|exact dZ|fail) only[gW,reduceIte,ao,al,Fe,gy,bZ,aV,dr, *]|(refine dX ?_ ?_<;>(intro _;try omega))|refine bM ai ?_)
     refine Lw ?_ kx.out;rw[<-kp.out,abI _ _ _ aj]
   ·have cJ:i=l.length:=(by omega);subst cJ;have dU:¬((l.length:Int)<(rows.length:Int)):=by rw[aP];omega
    repeat' (first|simp(maxSteps:=9999999) (disch:=first|exact dZ|fail) only[gW,reduceIte,ao,al,Fe,gy,bZ, *]|(refine dX ?_ ?_<;>(intro _;try omega))|refine bM ai ?_)
    all_goals
     refine Lw ?_ kx.out;rw[<-kp.out,List.drop_length,oh]
  ·refine⟨0,1,cz _,rfl,?_,?_,?_,?_,?_,.push _ _,bX _ _,by omega,by omega,by rw[fc,parts]⟩<;>exact gR
end Go.Proofs.YtmdakolcndpjeaaGreatDoor
end
