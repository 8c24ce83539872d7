/-
  Part of the proof: XE.
-/
import Derived.Test.YtnfciiiohoafaaaGreatDoorXD
open True renaming intro->aY
open Option renaming some->aa,none->av
open List renaming getElem?_eq_some_iff->aW,mem_of_getElem?->dy,length_set->mJ,getElem?_set_self->NZ,getElem?_eq_getElem->aU,mem_or_eq_of_mem_set->xB,range->bO,getElem_map->qx,getElem_range->B8,length_append->dM,length_take->fm,length_drop->iC,getElem?_map->ey,length_map->bF,map_set->ad6,set_eq_take_append_cons_drop->Cd,getElem?_set->mW,set_set->Ev,contains_eq_mem->Et,set_set_perm->aee,length_cons->jd,length_nil->lP,map_append->mY,getElem_of_mem->adZ,mem_append->xA,mem_of_mem_take->pY,mem_map->kC,getElem?_of_mem->vd,range_succ->nD,foldl_append->oI,getD_eq_getElem?_getD->eE,mem_cons_self->gq,mem_singleton->nC,take_succ_cons->iV,take_zero->gF,mem_cons_of_mem->fM,replicate->br,replicate_succ->Cc,append_nil->jC,getElem?_append_left->sY,getElem?_concat_length->GS,take_of_length_le->gK,take_length->fN,any_append->NU,any_eq_true->GQ,nil_append->mh,any_eq_false->adM,length_replicate->mX,getElem?_zipIdx->adY,mem_cons->iU,all_eq_true->eK,getElem?_drop->pX,foldl_nil->GR,map_replicate->y9,map_eq_nil_iff->GW,mem_range->gf,getElem_mem->iK,filter_append->y7,filter_cons->B1,map_cons->eL,length_filter_le->GV,drop_eq_getElem_cons->y6,drop_of_length_le->rh,map_inj_right->N4,mem_filter->we,all_eq_false->Es
open Go.Proofs.Tryz renaming prog->aq,underlying23->dY,underlying203->Hl,underlying22->jf,func218->aeO,func154->aeH
open And renaming intro->az
open Nat renaming reduceEqDiff->aS,le_refl->aL,le_trans->fG,mul_le_mul->ri,zero_add->qA,zero_le->cD,not_lt_zero->ud,lt_or_ge->ez,lt_irrefl->Hg,sub_self->ve
open Bool renaming true->ah,and_eq_true->bI,not_eq_true'->At,false->aB,false_or->adr,false_and->yT,and_eq_false_iff->adq
open Int renaming zero_sub->Uo,le_refl->NO,toNat_natCast->dW,lt_trans->adC
open Go renaming FuncId->bq
open Decidable renaming not_not->J6
set_option maxHeartbeats 64000000
set_option maxRecDepth 100000
set_option linter.unusedSimpArgs false
set_option linter.unusedVariables false
set_option linter.constructorNameAsVariable false
set_option linter.defProp false
section
namespace Go.Proofs.YtnfciiiohoafaaaGreatDoor
open Go.AE Go.NT
def SS:Tryz.f203.results.toList=[]:=aw
structure lF(H:ar)(tb:Nat)(B:List Nat)(t:List (List Int))(w:Nat):Prop where
 ir:H.boxes[tb]?=aa (B.map λb=>AV.arr b 0 w w)
 len:B.length=t.length
 nd:B.Nodup
 row:∀(i b:Nat) (r:List Int),B[i]?=aa b->t[i]?=aa r->H.boxes[b]?=aa (r.map im)
 wid:∀r∈t,r.length=w
 out:tb∉B
def aat{l:List Nat}(h:l.Nodup){i j x:Nat}(hi:l[i]?=aa x)(hj:l[j]?=aa x):i=j:=by obtain⟨h1,e1⟩:=aW.1 hi;obtain⟨h2,e2⟩:=aW.1 hj;exact(List.getElem_inj h).1 (e1.trans e2.symm)
def lF.set{H}{tb w i b}{B}{t}(T:lF H tb B t w)(hi:B[i]?=aa b){r}(hr:r.length=w):lF (H.put b (r.map im)) tb B (t.set i r) w:=by
 have cY:=(aW.1 hi).1;have zG:=dy hi;refine⟨?_,by rw[mJ];exact T.len,T.nd,λj b' r' hj gI=>?_,λr' gI=>?_,T.out⟩
 ·rw[dh (λe=>T.out (by rw[e];exact zG))];exact T.ir
 ·by_cases Qp:j=i
  ·subst Qp;rw[hi] at hj;injection hj with hj;subst hj;rw[NZ (by rw[<-T.len];exact cY)] at gI;injection gI with gI;subst gI;have kU:j<t.length:=(by rw[<-T.len];exact cY);exact eO (aW.1 (T.row j b _ hi (aU kU))).1
  ·have bG:b'≠b:=λe=>Qp (aat T.nd (by rw[<-e];exact hj) hi);rw[dh bG];rw[List.getElem?_set_ne (λe=>Qp e.symm)] at gI;exact T.row j b' r' hj gI
 ·rcases xB gI with q|q
  ·exact T.wid r' q
  ·rw[q];exact hr
def lF.mono{H H'}{tb w}{B}{t}(T:lF H tb B t w)(m:∀(c:Nat) cs,H.boxes[c]?=aa cs->H'.boxes[c]?=aa cs):lF H' tb B t w:=
 ⟨m _ _ T.ir,T.len,T.nd,λi b r hi hr=>m _ _ (T.row i b r hi hr),T.wid,T.out⟩
def nJ(n:Int)(a own:List Int)(c k:Nat):List Int:=(bO a.length).map λj=>if c<=j/\j<k then lI n (al a j) (al own j) else al a j
def vj{n}{a own}{c k}:(nJ n a own c k).length=a.length:=by unfold nJ;simp
def HC{n}{a own}{c k j}(hj:j<a.length):al (nJ n a own c k) j=if c<=j/\j<k then lI n (al a j) (al own j) else al a j:=by rw[fB (by rw[vj];exact hj)];unfold nJ;rw[qx,B8]
def aiT{n}{a own}{c}:nJ n a own c c=a:=by refine yD vj λj hj=>?_;rw[vj] at hj;rw[HC hj,aJ ai]
def aiS{n}{a own}{c k}(hc:c<=k)(hk:k<a.length):(nJ n a own c k).set k (lI n (al a k) (al own k))=nJ n a own c (k+1):=by
 refine yD (by rw[mJ,vj,vj]) λj hj=>?_;rw[mJ,vj] at hj;rw[Ku (by rw[vj];exact hk),HC hj,HC hj];by_cases Bn:j=k
 ·subst Bn;rw[aH rfl,aH ai]
 ·rw[aJ Bn];by_cases q:c<=j/\j<k
  ·rw[aH q,aH ai]
  ·rw[aJ q,aJ ai]
def aiR{n}{a own}{c}(hl:a.length=own.length)(hc:c<=a.length):nJ n a own c a.length=a.take c++js n (a.drop c) (own.drop c):=by
 have hd:(a.drop c).length=(own.drop c).length:=by simp[hl]
 refine yD (by rw[vj,dM,wV hd,fm,iC];omega) λj hj=>?_;rw[vj] at hj;rw[HC hj,EJ hc];by_cases q:j<c
 ·rw[aJ ai,aH q]
 ·rw[aH ai,aJ q,xO hd (by rw[iC];omega),Kt,Kt,(ai:c+(j - c)=j)]
def yz{r}{k}(hk:k<r.length):(r.map im)[k]?=aa (im (al r k)):=by rw[ey,aU hk,fB hk];rfl
def Ak{H}{b k}{r:List Int}{x}(hb:H.boxes[b]?=aa (r.map im))(hk:k<r.length):cE aq H 3 (.ptr (.box b) k) (.v (.int .i64 x))=aa (H.put b ((r.set k x).map im)):=by rw[fK (xs:=[im x]) rfl fR hb rfl (by rw[bF];exact hk)];congr 2;unfold fe;rw[ad6,Cd,aH (by rw[bF];exact hk)];simp
def Ac{x}(h:okF x):0<=x/\x<=9223372036854775807:=by obtain⟨h1,h2⟩:=h;have:Qi=1073741789:=rfl;omega
def ah0(h:ar)(tb:Nat)(B:List Nat)(t:List (List Int))(w i y c:Nat)(a own:List Int)(T:lF h tb B t w)(hi:t[i]?=aa a)(hy:t[y]?=aa own)(bG:i≠y)(hc:c<w)(hw:w<=1000000)(bB:∀r∈t,∀x∈r,okF x):
 ∃h',W2.call 203 [.arr tb 0 B.length B.length,im (i:Nat),im (y:Nat),im (c:Nat)] h=aa (.ret (.tuple []),h')/\lF h' tb B (t.set i (wx c a own)) w/\∀n0,gP B n0 h h':=by
 have cY:=(aW.1 hi).1;have zR:=(aW.1 hy).1;obtain⟨bi,vu⟩:∃b,B[i]?=aa b:=⟨_,aU (by rw[T.len];exact cY)⟩;obtain⟨bY,La⟩:∃b,B[y]?=aa b:=⟨_,aU (by rw[T.len];exact zR)⟩;have ra:=T.row i bi a vu hi;have ro:=T.row y bY own La hy;have wa:=T.wid a (dy hi);have wo:=T.wid own (dy hy);have vt:bi≠bY:=λe=>bG (aat T.nd (by rw[e] at vu;exact vu) La);have yh:=(aW.1 T.ir).1;have axl:=(aW.1 ra).1;have axo:=(aW.1 ro).1;have ama:tb≠bi:=λe=>T.out (by rw[e];exact dy vu);have Yt:(B.map λb=>AV.arr b 0 w w)[i]?=aa (.arr bi 0 w w):=by rw[ey,vu];rfl
 have hdy:(B.map λb=>AV.arr b 0 w w)[y]?=aa (.arr bY 0 w w):=by rw[ey,La];rfl
 have oka:=bB a (dy hi);have oko:=bB own (dy hy);have Qj:i<B.length:=by rw[T.len];exact cY
 have hyB:y<B.length:=by rw[T.len];exact zR
 have z3:=Nu;have bx1:∀b n m:Nat,(AV.arr b 0 n m).cd=aa [.arr b 0 n m]:=λ_ _ _=>rfl;have bx2:∀n:Int,(AV.v (.int .i64 n)).cd=aa [.v (.int .i64 n)]:=λ_=>rfl;have ixi:=FM (b:=tb) (len:=B.length) (aF:=B.length) (k:=.i64) Qj;have ixy:=FM (b:=tb) (len:=B.length) (aF:=B.length) (k:=.i64) hyB;have ixc:=rH (b:=bi) (len:=w) (aF:=w) (k:=.i64) hc;have n0:=Ac (rm oka c);have unf:wx c a own=if al a c=0 then a else nJ (al a c) a own c w:=by unfold wx;rw[<-wa,aiR ai ai]
 rw[unf];clear unf;generalize hn:al a c=n at *
 have Bf:∀(z:AV) (cs ds:List AV),((h.push cs).push ds).boxes[tb]?=aa (B.map λb=>AV.arr b 0 w w)/\((h.push cs).push ds).boxes[bi]?=aa (a.map im):=λz cs ds=>⟨bh (bh T.ir),bh (bh ra)⟩;generalize kQ:(h.push [.arr tb 0 B.length B.length]).push [im (i:Nat)]=H2;have l1:∀cs,aI aq Gt (H2.push cs) 203 (.ptr (.box h.boxes.length) 0)=aa (.arr tb 0 B.length B.length):=λcs=>yx (by rw[<-kQ];exact bh (bh (bg _ _)));have l1':aI aq Gt H2 203 (.ptr (.box h.boxes.length) 0)=aa (.arr tb 0 B.length B.length):=yx (by rw[<-kQ];exact bh (bg _ _));have l2:aI aq Gt H2 3 (.ptr (.box (h.boxes.length+1)) 0)=aa (.v (.int .i64 (i:Nat))):=me (by rw[<-kQ];exact nM (by rw[cR]));have l3:aI aq Gt H2 23 (.ptr (.box tb) i)=aa (.arr bi 0 w w):=tN (by rw[<-kQ];exact bh (bh T.ir)) Yt;have l4:aI aq Gt H2 3 (.ptr (.box bi) c)=aa (.v (.int .i64 n)):=by have:=Aa (k:=c) (x:=im (al a c)) (show H2.boxes[bi]?=aa (a.map im) by rw[<-kQ];exact bh (bh ra)) (yz ai);rw[hn] at this;exact this
 have l5:aI aq Gt (H2.push [.v (.int .i64 n)]) 3 (.ptr (.box H2.boxes.length) 0)=aa (.v (.int .i64 n)):=me (bg _ _);have s5:cE aq (H2.push [im 0]) 3 (.ptr (.box H2.boxes.length) 0) (.v (.int .i64 n))=aa (H2.push [.v (.int .i64 n)]):=lq rfl fR rfl rfl;have l6:∀cs,aI aq Gt (H2.push cs) 23 (.ptr (.box tb) y)=aa (.arr bY 0 w w):=λcs=>tN (by rw[<-kQ];exact bh (bh (bh T.ir))) hdy;have kH2l:ao (H2.boxes.length=h.boxes.length+2):=⟨by rw[<-kQ,cR,cR]⟩;have kM2:ao (∀n0,gP B n0 h H2):=⟨λn0=>by rw[<-kQ];exact(gP.refl.push _).push _⟩;have kT2:ao (lF H2 tb B t w):=⟨T.mono λcc cs q=>by rw[<-kQ];exact bh (bh q)⟩;have e0:(h.push [AV.arr tb 0 B.length B.length]).push [.v (.int .i64 (i:Nat))]=H2:=kQ;have kL2:ao (H2.loops=h.loops):=⟨by rw[<-kQ];rfl⟩;have kb0:ao (H2.boxes[h.boxes.length]?=aa [.arr tb 0 B.length B.length]):=⟨by rw[<-kQ];exact bh (bg _ _)⟩;have kb1:ao (H2.boxes[h.boxes.length+1]?=aa [im (i:Nat)]):=⟨by rw[<-kQ];exact nM (by rw[cR])⟩;have e1:(h.push [AV.arr tb 0 B.length B.length]).boxes.length=h.boxes.length+1:=cR _ _;have kT:=ao.mk T;have ko:=ao.mk (az oka oko);clear Bf yh T ra ro bB oka oko kQ;unfold im at *
 refine iD rfl Tryz.func203 rfl ?_;by_cases hz:n=0
 ·subst hz;rw[aH rfl];refine bQ @SS @bu ?_;exact⟨_,rfl,by
   have e:t.set i a=t:=by
    apply List.ext_getElem?;intro j;rw[mW];split
    ·rename_i q;subst q;exact hi.symm
    ·rfl
   rw[e];exact kT2.out.mono λcc cs q=>bh q,λn0=>(kM2.out n0).push _⟩
 ·rw[aJ hz];have af:=Vd bY w c (H2.push [.v (.int .i64 n)]);unfold im at af;refine bQ @SS @bu ?_;refine bM.gen λe he hd hp l9=>?_;have g4:e.get 4=.ptr (.box h.boxes.length) 0:=by rw[he];exact gS
  have g5:e.get 5=.ptr (.box (h.boxes.length+1)) 0:=by rw[he];exact gS
  have g8:e.get 8=.ptr (.box H2.boxes.length) 0:=by rw[he];exact gS
  have g25:e.get 25=.func (.func 219) [] [.ptr (.box (H2.boxes.length+1+1)) 0,.ptr (.box (H2.boxes.length+1)) 0]:=by rw[he];simp only[gW,reduceIte,aS,aO];simp only[cR]
  have hdf:e.defers=[]:=by rw[hd];exact gS
  clear he hd hp l9;refine DU (by rw[A7];exact g25) λrec w1 w2 w3 w4 w5 w6=>?_;have hkk:=kH2l.out;have X7:=kT2.out;have bB:=ko.out;have XV:∀n0,gP B n0 h (((H2.push [.v (.int .i64 n)]).push [.arr bY 0 w w]).push [.v (.int .i64 c)]):=λn0=>(((kM2.out n0).push _).push _).push _;have HS:lF (((H2.push [.v (.int .i64 n)]).push [.arr bY 0 w w]).push [.v (.int .i64 c)]) tb B t w:=X7.mono λcc cs q=>bh (bh (bh q));have p0:(((H2.push [.v (.int .i64 n)]).push [.arr bY 0 w w]).push [.v (.int .i64 c)]).boxes[H2.boxes.length]?=aa [.v (.int .i64 n)]:=bh (bh (bg _ _));have p1:(((H2.push [.v (.int .i64 n)]).push [.arr bY 0 w w]).push [.v (.int .i64 c)]).boxes[H2.boxes.length+1]?=aa [.arr bY 0 w w]:=bh (nM (by rw[cR]));have p2:(((H2.push [.v (.int .i64 n)]).push [.arr bY 0 w w]).push [.v (.int .i64 c)]).boxes[H2.boxes.length+1+1]?=aa [.v (.int .i64 c)]:=nM (by rw[cR,cR]);have p3:(((H2.push [.v (.int .i64 n)]).push [.arr bY 0 w w]).push [.v (.int .i64 c)]).boxes[h.boxes.length]?=aa [.arr tb 0 B.length B.length]:=bh (bh (bh kb0.out));have p4:(((H2.push [.v (.int .i64 n)]).push [.arr bY 0 w w]).push [.v (.int .i64 c)]).boxes[h.boxes.length+1]?=aa [.v (.int .i64 i)]:=bh (bh (bh kb1.out));have pL:(((H2.push [.v (.int .i64 n)]).push [.arr bY 0 w w]).push [.v (.int .i64 c)]).loops=h.loops:=kL2.out;generalize ((H2.push [.v (.int .i64 n)]).push [.arr bY 0 w w]).push [.v (.int .i64 c)]=H3 at *
  have XU:H3.loops.length=h.loops.length:=congrArg List.length pL;rw[XU];clear pL;clear l1 l1' l2 l3 l4 l5 s5 l6 e0 e1 af X7 kb0 kb1;have dV:=HS.row i bi a vu hi;have Q2:=HS.row y bY own La hy;have jE:=(aW.1 dV).1;have wT:=(aW.1 (kT.out.ir)).1;have axn:=(aW.1 (kT.out.row i bi a vu hi)).1;have iu:(H3.loop rec).loops[h.loops.length]?=aa rec:=by rw[<-XU];exact @DG H3 rec
  have I1:∀(k:Nat) (H:ar),H=(H3.loop rec).put bi ((nJ n a own c k).map im)->H.boxes[H2.boxes.length+1+1]?=aa [im (c:Nat)]/\H.boxes[H2.boxes.length+1]?=aa [.arr bY 0 w w]/\(k<w->∃cs,H.boxes[bY]?=aa cs/\cs[k]?=aa (im (al own k))):=by
   rintro k H rfl;refine⟨?_,?_,λhk=>⟨_,?_,yz ai⟩⟩
   ·rw[dh ai];exact p2
   ·rw[dh ai];exact p1
   ·rw[dh (Ne.symm vt)];exact Q2
  have I2:∀(k:Nat) (H:ar),c<=k->k<w->H=(H3.loop rec).put bi ((nJ n a own c k).map im)->∃H',W2.round h.loops.length [im (k:Nat),im (al own k)] H=aa (.ret (.v (.bool ah)),H')/\H'=(H3.loop rec).put bi ((nJ n a own c (k+1)).map im):=by
   rintro k H Bo Bp rfl;refine Ji (Post:=λH=>H=(H3.loop rec).put bi ((nJ n a own c (k+1)).map im)) iu (by rw[w2];rfl) w5 w6 ?_;have kq:=aiS (n:=n) (own:=own) Bo (ai:k<a.length);have cat:al (nJ n a own c k) k=al a k:=(by rw[HC ai,aJ ai]);have r1:∀t,(nV h.loops.length rec [im (k:Nat),im (al own k)]).get t=if 27=t then im (al own k) else if 26=t then im (k:Nat) else e.get t:=λt=>Jg w2 w1
   have d1:(nV h.loops.length rec [im (k:Nat),im (al own k)]).defers=[]:=rfl;obtain⟨K,hK⟩:∃K,((H3.loop rec).put bi ((nJ n a own c k).map im)).busy h.loops.length rec=K:=⟨_,rfl⟩;rw[hK];have b1:K.boxes[bi]?=aa ((nJ n a own c k).map im):=(by rw[<-hK];exact eO jE);have b2:K.boxes[h.boxes.length]?=aa [.arr tb 0 B.length B.length]:=(by rw[<-hK];exact(dh ai).trans p3);have b3:K.boxes[h.boxes.length+1]?=aa [im (i:Nat)]:=(by rw[<-hK];exact(dh ai).trans p4);have b4:K.boxes[H2.boxes.length]?=aa [im n]:=(by rw[<-hK];exact(dh ai).trans p0);have b5:K.boxes[tb]?=aa (B.map λb=>AV.arr b 0 w w):=(by rw[<-hK];exact(dh ama).trans HS.ir);have m1:=Aa b1 (yz (r:=nJ n a own c k) (k:=k) (by rw[vj];omega));rw[cat] at m1;have m2:=yx b2;have m3:=me b3;have m4:=me b4;have m5:=tN b5 Yt;have FO:=rH (b:=bi) (len:=w) (aF:=w) (k:=.i64) Bp;have sk:=Ak (r:=nJ n a own c k) (k:=k) (x:=lI n (al a k) (al own k)) b1 (by rw[vj];omega);rw[kq] at sk;have wY:=Ac (rm bB.1 k);have ok2:=Ac (rm bB.2 k);have f1:=λh=>RN n (al own k) h;have f2:=λh=>Vb (al a k) (0 - df n (al own k)) h;have f3:=Ac (HH n (al own k));have fl:lI n (al a k) (al own k)=dj (al a k) (0 - df n (al own k)):=(by rw[Uo];rfl);rw[fl] at sk;generalize df n (al own k)=z at *
   generalize al a k=z1 at *
   generalize al own k=z2 at *
   clear hkk g25 dV Q2 p0 p1 p2 p3 p4 kH2l kM2 kT2 kT ko cat XV HS b1 b2 b3 b4 b5 kq fl bB;unfold im at *
   rw[w3,w4];refine zy ?_;refine⟨aY,aY,?_⟩;refine bM.gen λe2 jN iF oQ FA=>?_;have q4:e2.get 4=.ptr (.box h.boxes.length) 0:=(by rw[jN];simp only[gW,reduceIte,aS,aO,r1];exact g4);have q5:e2.get 5=.ptr (.box (h.boxes.length+1)) 0:=(by rw[jN];simp only[gW,reduceIte,aS,aO,r1];exact g5);have q8:e2.get 8=.ptr (.box H2.boxes.length) 0:=(by rw[jN];simp only[gW,reduceIte,aS,aO,r1];exact g8);have q9:e2.get 9=.v (.int .i64 k):=(by rw[jN];simp only[gW,reduceIte,aS,aO,r1]);have q10:e2.get 10=.v (.int .i64 z2):=(by rw[jN];simp only[gW,reduceIte,aS,aO,r1]);clear jN iF oQ FA r1 d1
   repeat' (first|simp(maxSteps:=999999)(disch:=first|exact dZ|fail)only[gW,reduceIte,aS,aO, *]|(refine dX ?_ ?_<;>(intro _;try omega))|refine eJ AU aw ?_)
   rw[<-hK];simp only[ar.put,ar.busy,ar.loop,Ev];exact⟨aY,aY,aY⟩
  obtain⟨h',c1,c2⟩:=Ve h.loops.length (H2.boxes.length+1+1) (H2.boxes.length+1) bY w c own (λk H=>H=(H3.loop rec).put bi ((nJ n a own c k).map im)) I1 I2 ai hw ((H3.loop rec).put bi ((nJ n a own c c).map im)) rfl;have e3:H3.loop rec=(H3.loop rec).put bi ((nJ n a own c c).map im):=by rw[aiT];exact(oB (h:=H3.loop rec) dV).symm
  rw[<-e3] at c1;subst c2;clear e3;refine⟨_,_,c1,rec,iu,by rw[w5];decide,.inl ⟨w6,?_⟩⟩;clear c1 w1 w2 w3 w4 w5 w6 iu dV Q2 p0 p1 p2 p3 p4 kH2l kM2 kT2 kT ko;refine bC @SS ?_;refine⟨_,rfl,?_,λn0=>(((XV n0).BC _).trans (.put (dy vu) _)).fc (aL _) _⟩;have T5:=lF.set (H:=H3.loop rec) (HS.mono λ_ _ q=>q) vu (r:=nJ n a own c w) (by rw[vj];exact wa);exact T5.mono λ_ _ q=>q
structure GM(S:List Nat)(n0:Nat)(h h':ar)(t:Tok):Prop where
 mu:gP S n0 h h'
 can:du n0 h' t
 ok:cK h'=ah
section
variable {S S':List Nat} {n0:Nat} {h h' h2:ar} {t k:Tok}
def aho(m:∀n,gP S n h h')(c:du n0 h t):du n0 h' t:=by
 rcases c with q|q|⟨i,q,q1,q2⟩
 ·exact .inl q
 ·exact .inr (.inl q)
 ·refine .inr (.inr ⟨i,q,q1,?_⟩);have aC:=vi q2;unfold alive at *
  simp only[bI,At,Et,decide_eq_false_iff_not,decide_eq_true_eq] at *
  exact⟨Nat.lt_of_lt_of_le aC (m 0).tn,λhd=>q2.2 ((m (i+1)).dead i (Nat.lt_succ_self _) hd)⟩
def GM.then(g:GM S n0 h h' t)(m:∀n,gP S n h' h2):GM S n0 h h2 t:=⟨g.mu.trans (m n0),aho m g.can,(m 0).ok g.ok⟩
def GM.app(g:GM S n0 h h' t)(hn:n0<=h.tn):GM S n0 h (h'.app t) (.free h'.tn):=by have G:=Grown.one (n0:=n0) g.can g.ok (fG hn g.mu.tn);exact⟨g.mu.trans G.RR,G.can,G.ok⟩
def GM.refl(hk:du n0 h t)(ho:cK h=ah):GM S n0 h h t:=⟨.refl,hk,ho⟩
end
def vO:Tryz.f180.results.toList=[.tmp 4]:=aw
def lF.swap{H}{tb w i j bi bj}{B}{t}{a b}(T:lF H tb B t w)(hi:B[i]?=aa bi)(hj:B[j]?=aa bj)(ha:t[i]?=aa a)(hb:t[j]?=aa b):
 lF (H.put tb (((B.set i bj).set j bi).map λb=>AV.arr b 0 w w)) tb ((B.set i bj).set j bi) ((t.set i b).set j a) w:=by
 have cY:=(aW.1 hi).1;have ov:=(aW.1 hj).1;have aC:=(aW.1 T.ir).1;have Zb:((B.set i bj).set j bi).Perm B:=by
  have q:=aee cY ov
  rwa [show B[j]=bj from(aW.1 hj).2,show B[i]=bi from(aW.1 hi).2] at q
 have qN:∀x,x∈(B.set i bj).set j bi->x∈B:=λx hx=>Zb.mem_iff.1 hx;refine⟨eO aC,by simp[T.len],(Zb.nodup_iff).2 T.nd,λk b' r hk hr=>?_,λr hr=>?_,λhx=>T.out (qN _ hx)⟩
 ·have bG:b'≠tb:=λe=>T.out (qN _ (by rw[<-e];exact dy hk));rw[dh bG];rw[mW] at hk hr;rw[mJ] at hk hr;by_cases e1:j=k
  ·subst e1;rw[aH rfl,aH ov] at hk;rw[aH rfl,aH (by rw[<-T.len];exact ov)] at hr;injection hk with hk;injection hr with hr;subst hk;subst hr;exact T.row i _ _ hi ha
  ·rw[aJ e1] at hk hr;rw[mW] at hk hr;by_cases e2:i=k
   ·subst e2;rw[aH rfl,aH cY] at hk;rw[aH rfl,aH (by rw[<-T.len];exact cY)] at hr;injection hk with hk;injection hr with hr;subst hk;subst hr;exact T.row j _ _ hj hb
   ·rw[aJ e2] at hk hr;exact T.row k _ _ hk hr
 ·rcases xB hr with q|q
  ·rcases xB q with q|q
   ·exact T.wid r q
   ·rw[q];exact T.wid _ (dy hb)
  ·rw[q];exact T.wid _ (dy ha)
def pq(x):gG aq 23 1 [(0,.v (.int .i64 x))]=aa (.list .tight 1 [[.v (.int .i64 x)]]):=aw
def tf{H}{k}{n0 sz}{es}{x}(hl:es.length<1099511627776)(hs:sz=1∨(es=[]/\k=.nil))(hk:du n0 H k):
 hU aq H #[23,23] (.list k sz (ints es)) (.list .tight 1 [[.v (.int .i64 x)]])=aa (.list (.free H.tn) 1 (ints (es++[x])),H.app k):=by
 obtain⟨i,q1,q2,q3,q4⟩:=FJ;have hb:=ri (ai:es.length+1<=1099511627776) q3;have:=Hs (t0:=23) (t1:=23) (n0:=n0) (i:=i) (sz:=sz) (es:=ints es) (new:=ints [x]) (x:=.list .tight 1 (ints [x])) dY (.inl ⟨_,dY⟩) q1 ai (by rw[q2];exact q4) (by rw[q2];rfl) (by simp[ints])
  (by simp only[ints,bF,jd,lP,qA];omega) (by simp only[ints,bF,jd,lP];omega) (hs.imp (λq=>q.trans q2.symm) λq=>⟨by rw[q.1];rfl,q.2⟩) hk
 rw[q2] at this;unfold ints at *
 rw[mY];exact this
def acq{H}{b k x w}{B:List Nat}(hb:H.boxes[b]?=aa (B.map λb=>AV.arr b 0 w w))(hk:k<B.length):cE aq H 23 (.ptr (.box b) k) (.arr x 0 w w)=aa (H.put b ((B.set k x).map λb=>AV.arr b 0 w w)):=by rw[fK (xs:=[AV.arr x 0 w w]) rfl iA hb rfl (by rw[bF];exact hk)];congr 2;unfold fe;rw[ad6,Cd,aH (by rw[bF];exact hk)];simp
def anf{n}{a b}:∀x∈js n a b,okF x:=by intro x hx;unfold js at hx;obtain⟨i,hi,rfl⟩:=adZ hx;rw[List.getElem_zipWith];exact E6 _
def ahZ{c}{a own}(h:∀x∈a,okF x):∀x∈wx c a own,okF x:=by
 intro x hx;unfold wx at hx;split at hx
 ·exact h x hx
 ·rcases xA.1 hx with q|q
  ·exact h x (pY q)
  ·exact anf x q
def atV{c}{a}{n}(h:∀x∈a,okF x):∀x∈iR c a n,okF x:=by
 intro x hx;unfold iR at hx;rcases xA.1 hx with q|q
 ·exact h x (pY q)
 ·obtain⟨y,-,rfl⟩:=kC.1 q;exact HH _ _
def ah2{c r j}{own}{t}(h:∀a∈t,∀x∈a,okF x):∀a∈rn c own r j t,∀x∈a,okF x:=by
 intro a ha;obtain⟨i,hi⟩:=vd ha;rw[xV] at hi;cases q:t[i]? with
 |none=>rw[q] at hi;cases hi
 |some y=>
  rw[q,Option.map_some] at hi;injection hi with hi;have hy:=h y (dy q);rw[<-hi];split
  ·exact ahZ hy
  ·exact hy
def ab6{c}{a}{n}(hc:c<=a.length):(iR c a n).length=a.length:=by unfold iR;rw[dM,bF,fm,iC];omega
def bW(pv:List Nat):List Int:=pv.map λ(p:Nat)=>(p:Int)
def sK(t:List (List Int))(c:Nat):List (List Int) × List Nat:=(bO c).foldl yO (t,[])
def abl(t)(c):sK t (c+1)=yO (sK t c) c:=by unfold sK;rw[nD,oI];rfl
def abk{t}{w}(hl:∀a∈t,a.length=w)(ho:∀a∈t,∀x∈a,okF x):∀c,c<=w->xF w c (sK t c)/\(sK t c).1.length=t.length/\(sK t c).2.length<=t.length:=by
 intro c
 induction c with
 |zero=>exactλ_=>⟨⟨hl,ho,λ_ _ _ _ j hj=>by omega⟩,rfl,cD _⟩|succ c ih=>
  intro hc;obtain⟨i1,i2,i3⟩:=ih ai;rw[abl];refine⟨by rw[acD i1 ai];exact M8 i1 ai,?_⟩;unfold yO;cases hf:pC (sK t c).1 (sK t c).2.length c with|none=>exact⟨i2,i3⟩|some k=>obtain⟨k1,k2,k3⟩:=CG hf;refine⟨by simp[i2],?_⟩;simp only[dM,jd,lP];omega
def Rm(pv):(ints (bW pv)).length=pv.length:=by unfold ints bW;simp
def abj(t)(many):F9 t many=sK t many:=rfl
def aqm(h:ar)(tb:Nat)(B:List Nat)(t:List (List Int))(w many:Nat)(T:lF h tb B t w)(hm:many<=w)(hw:w<=1000000)(hn:t.length<=1000000)(bB:∀r∈t,∀x∈r,okF x)(ho:cK h=ah):
 ∃r h',W2.call 180 [.arr tb 0 t.length t.length,im (many:Nat)] h=aa (r,h')/\∃(k:Tok) (s:Nat) (B':List Nat),r=.ret (.list k s (ints (bW (F9 t many).2)))/\(s=1∨(bW (F9 t many).2=[]/\k=.nil))/\lF h' tb B' (F9 t many).1 w/\B'.Perm B/\GM (tb::B) h.tn h h' k:=by
 have kT:=ao.mk T;have kok:=ao.mk bB;have kBl:ao (∀b∈B,b<h.boxes.length):=⟨λb hb=>by obtain⟨i,hi⟩:=vd hb;have cY:=(aW.1 hi).1;exact(aW.1 (T.row i b _ hi (aU (by rw[<-T.len];exact cY)))).1⟩;have z3:=Nu;have bx1:∀b n m:Nat,(AV.arr b 0 n m).cd=aa [.arr b 0 n m]:=λ_ _ _=>rfl;have bx2:∀n:Int,(AV.v (.int .i64 n)).cd=aa [.v (.int .i64 n)]:=λ_=>rfl;have g0:GM (tb::B) h.tn h (h.push [.arr tb 0 t.length t.length]) .nil:=⟨gP.refl.push _,.inl rfl,ho⟩;have T0:lF (h.push [.arr tb 0 t.length t.length]) tb B t w:=T.mono λ_ _ q=>bh q;have p0:(h.push [.arr tb 0 t.length t.length]).boxes[h.boxes.length]?=aa [.arr tb 0 t.length t.length]:=bg _ _;have r0:xF w 0 (sK t 0):=⟨T.wid,bB,λ_ _ _ _ _ q=>absurd q (ud _)⟩;have kk:=ao.mk (az g0 (az T0 (az p0 r0)));clear g0 T0 p0 r0 T bB ho;unfold im at *
 refine di rfl Tryz.func180 rfl ?_;refine bQ @vO @bu ?_;refine bM.gen λe0 aG bE cZ cV=>?_;have q2:e0.get 2=.ptr (.box h.boxes.length) 0:=by rw[aG];exact gS
 have q4:e0.get 4=.list .nil 0 (ints (bW [])):=by rw[aG];exact gR
 have q13:e0.get 13=.v (.int .i64 (many:Nat)):=by rw[aG];exact gS
 have q14:e0.get 14=.v (.int .i64 (0:Nat)):=by rw[aG];exact gR
 have qd:e0.defers=[]:=by rw[bE];exact gS
 clear aG bE cZ cV;refine cH (λm e H=>∃(c:Nat) (B':List Nat) (k:Tok) (s:Nat),c<=many/\m=many - c/\lF H tb B' (sK t c).1 w/\B'.Perm B/\H.boxes[h.boxes.length]?=aa [.arr tb 0 t.length t.length]/\e.get 2=.ptr (.box h.boxes.length) 0/\e.get 4=.list k s (ints (bW (sK t c).2))/\(s=1∨(bW (sK t c).2=[]/\k=.nil))/\e.get 13=.v (.int .i64 (many:Nat))/\e.get 14=.v (.int .i64 (c:Nat))/\e.defers=[]/\GM (tb::B) h.tn h H k) ?_ many _ _ ?_;rotate_left 1
 ·exact⟨0,B,.nil,0,cD _,rfl,kk.out.2.1,.refl _,kk.out.2.2.1,q2,q4,.inr ⟨rfl,rfl⟩,q13,q14,qd,kk.out.1⟩
 clear kk q2 q4 q13 q14 qd;rintro m e H ⟨c,B',tk,s,hc,rfl,T',hP,gi,g2,g4,hs,g13,g14,hd,hG⟩;have kT':=ao.mk T';have kP:=ao.mk hP;have ks:=ao.mk hs;have kG:=ao.mk hG;obtain⟨R,i2,i3⟩:=abk kT.out.wid kok.out c ai;have kR:=ao.mk R;clear T' hP hG R;by_cases aC:c<many;rotate_left 1
 ·have:c=many:=by omega
  subst this;clear gi i2 i3 hs;refine bC @vO ?_;refine⟨_,_,rfl,tk,s,B',?_⟩;rw[abj];exact⟨rfl,ks.out,kT'.out,kP.out,kG.out⟩
 have rS:=abl t c;generalize bT:sK t c=st at *
 obtain⟨t',pv⟩:=st;dsimp only at *
 have cU:=Rm pv;have u23:=dY;have u203:=Hl;have s0:∀n,cE aq (H.push [.v (.int .i64 0)]) 3 (.ptr (.box H.boxes.length) 0) (.v (.int .i64 n))=aa (H.push [.v (.int .i64 n)]):=λn=>lq rfl fR rfl rfl;have l0:∀n,aI aq Gt (H.push [.v (.int .i64 n)]) 3 (.ptr (.box H.boxes.length) 0)=aa (.v (.int .i64 n)):=λn=>me (bg _ _);refine bQ @vO @bu ?_;refine bM.gen λe0 aG bE cZ cV=>?_;have f2:e0.get 2=.ptr (.box h.boxes.length) 0:=by rw[aG];simp only[gW,reduceIte,aS,aO,g2]
 have f4:e0.get 4=.list tk s (ints (bW pv)):=by rw[aG];simp only[gW,reduceIte,aS,aO,g4]
 have f5:e0.get 5=.v (.int .i64 (c:Nat)):=by rw[aG];simp only[gW,reduceIte,aS,aO,g14]
 have f6:e0.get 6=.ptr (.box H.boxes.length) 0:=by rw[aG];exact gS
 have f7:e0.get 7=.v (.int .i64 (pv.length:Nat)):=by rw[aG];exact gS
 have f13:e0.get 13=.v (.int .i64 (many:Nat)):=by rw[aG];simp only[gW,reduceIte,aS,aO,g13]
 have f14:e0.get 14=.v (.int .i64 (c:Nat)):=by rw[aG];simp only[gW,reduceIte,aS,aO,g14]
 have fd:e0.defers=[]:=by rw[bE];simp only[gW,reduceIte,aS,aO];exact hd
 clear aG bE cZ cV g2 g4 g13 g14 hd;have T2:lF (H.push [.v (.int .i64 (pv.length:Nat))]) tb B' t' w:=kT'.out.mono λ_ _ q=>bh q;have G2:GM (tb::B) h.tn h (H.push [.v (.int .i64 (pv.length:Nat))]) tk:=kG.out.then λ_=>gP.refl.push _;have b2:(H.push [.v (.int .i64 (pv.length:Nat))]).boxes[h.boxes.length]?=aa [.arr tb 0 t.length t.length]:=bh gi;have b3:(H.push [.v (.int .i64 (pv.length:Nat))]).boxes[H.boxes.length]?=aa [.v (.int .i64 (pv.length:Nat))]:=bg _ _;have wI:(H.push [.v (.int .i64 (pv.length:Nat))]).boxes.length=H.boxes.length+1:=cR _ _;have hhl:h.boxes.length<H.boxes.length:=(aW.1 gi).1;generalize H.push [.v (.int .i64 (pv.length:Nat))]=H2 at *
 clear kT' kG s0 l0 gi;have kT2:=ao.mk T2;have kG2:=ao.mk G2;have kl:=ao.mk wI;have l2:=yx b2;have l3:=me b3;have kb2:=ao.mk b2;have kb3:=ao.mk b3;clear T2 G2 wI b2 b3;generalize hHn:H.boxes.length=hl at *
 clear hHn;refine cH (λm e H3=>∃j:Nat,pv.length<=j/\j<=t.length/\m=t.length - j/\ao (∀k,pv.length<=k->k<j->al (t'.getD k []) c=0)/\e.get 2=.ptr (.box h.boxes.length) 0/\e.get 4=.list tk s (ints (bW pv))/\e.get 5=.v (.int .i64 (c:Nat))/\e.get 6=.ptr (.box hl) 0/\e.get 7=.v (.int .i64 (j:Nat))/\e.get 13=.v (.int .i64 (many:Nat))/\e.get 14=.v (.int .i64 (c:Nat))/\e.defers=[]/\H3=H2) ?_ (t.length - pv.length) _ _ ?_;rotate_left 1
 ·exact⟨pv.length,aL _,i3,rfl,⟨λk h1 h2=>absurd h1 ai⟩,f2,f4,f5,f6,f7,f13,f14,fd,rfl⟩
 clear f2 f4 f5 f6 f7 f13 f14 fd;rintro m e3 H2 ⟨j,YH,YI,rfl,kz,g2,g4,g5,g6,g7,g13,g14,hd,rfl⟩;by_cases ov:j<t.length;rotate_left 1
 ·have ou:j=t.length:=by omega
  subst ou;have C5:=KS (t:=t') (c:=c) YH ai kz.out (λq=>absurd q ai);rw[aH ai] at C5;have bT:sK t (c+1)=(t',pv):=by rw[rS];unfold yO;simp only[C5]
  have khst:=ao.mk bT;clear C5 bT rS;refine bC @vO ?_;refine⟨many - (c+1),by omega,c+1,B',tk,s,by omega,rfl,?_⟩;rw[khst.out];exact⟨kT2.out,kP.out,kb2.out,aY,rfl,ks.out,aY,by simp,aY,kG2.out⟩
 obtain⟨b,hb⟩:∃b,t'[j]?=aa b:=⟨_,aU ai⟩;obtain⟨bj,wK⟩:∃b,B'[j]?=aa b:=⟨_,aU (by rw[kT2.out.len];omega)⟩;have wb:=kT2.out.wid b (dy hb);have dV:=kT2.out.row j bj b wK hb;have ixj:=FM (b:=tb) (len:=t.length) (aF:=t.length) (k:=.i64) ov;have ixc:=rH (b:=bj) (len:=w) (aF:=w) (k:=.i64) (ai:c<w);have yg:(B'.map λb=>AV.arr b 0 w w)[j]?=aa (.arr bj 0 w w):=by rw[ey,wK];rfl
 have m1:=tN kT2.out.ir yg;have m2:=Aa dV (yz (k:=c) ai);have gDj:t'.getD j []=b:=by rw[eE,hb];rfl
 have khr:=ao.mk dV;clear dV;by_cases hzero:al b c=0
 ·have gV:∀k,pv.length<=k->k<j+1->al (t'.getD k []) c=0:=by
   intro k h1 h2;rcases ez k j with q|q
   ·exact kz.out k h1 q
   ·rw[(ai:k=j),gDj];exact hzero
  have kz2:=ao.mk gV;rw[hzero] at m2;clear gV kz gDj hzero yg rS;unfold im at *
  refine bC @vO ?_;exact⟨t.length - (j+1),by omega,j+1,by omega,by omega,rfl,kz2,aY,aY,aY,aY,by simp,aY,aY,aY,aY⟩
 have C5:=KS (t:=t') (c:=c) YH ai kz.out (λ_=>by rw[gDj];exact hzero);rw[aJ ai] at C5;obtain⟨o,ho⟩:∃b,t'[pv.length]?=aa b:=⟨_,aU ai⟩;obtain⟨bo,yf⟩:∃b,B'[pv.length]?=aa b:=⟨_,aU (by rw[kT2.out.len];omega)⟩;have oO:=au4 C5 hb ho;rw[<-rS] at oO;have kgo:=ao.mk oO;have kne:=ao.mk hzero;have okb:=kR.out.ok b (dy hb);have nz:=Ac (rm okb c);have ixr:=FM (b:=tb) (len:=t.length) (aF:=t.length) (k:=.i64) (ai:pv.length<t.length);have Yv:(B'.map λb=>AV.arr b 0 w w)[pv.length]?=aa (.arr bo 0 w w):=by rw[ey,yf];rfl
 have m3:=tN kT2.out.ir Yv;have T3:=lF.swap kT2.out yf wK ho hb;have nb1:bj<h.boxes.length:=kBl.out bj (kP.out.mem_iff.1 (dy wK));have nb2:tb≠bj:=λe=>kT2.out.out (by rw[e];exact dy wK);have axL:=(aW.1 kT.out.ir).1;have YR:h.boxes.length≠tb:=by omega
 have alW:hl≠tb:=by omega
 have s1:=acq (w:=w) (x:=bj) (k:=pv.length) kT2.out.ir (by rw[kT2.out.len];omega);have iF:(H2.put tb ((B'.set pv.length bj).map λb=>AV.arr b 0 w w)).boxes[tb]?=aa ((B'.set pv.length bj).map λb=>AV.arr b 0 w w):=eO (aW.1 kT2.out.ir).1;have s2:=acq (w:=w) (x:=bo) (k:=j) iF (by rw[mJ,kT2.out.len];omega);rw[Mk] at s2;have l2b:aI aq Gt (H2.put tb ((B'.set pv.length bj).map λb=>AV.arr b 0 w w)) 203 (.ptr (.box h.boxes.length) 0)=aa (.arr tb 0 t.length t.length):=yx ((dh YR).trans kb2.out);have G3:GM (tb::B) h.tn h (H2.put tb (((B'.set pv.length bj).set j bo).map λb=>AV.arr b 0 w w)) tk:=kG2.out.then λ_=>.put (gq) _;have b2:(H2.put tb (((B'.set pv.length bj).set j bo).map λb=>AV.arr b 0 w w)).boxes[h.boxes.length]?=aa [.arr tb 0 t.length t.length]:=(dh YR).trans kb2.out;have b3:(H2.put tb (((B'.set pv.length bj).set j bo).map λb=>AV.arr b 0 w w)).boxes[hl]?=aa [.v (.int .i64 (pv.length:Nat))]:=(dh alW).trans kb3.out;have PJ:(H2.put tb (((B'.set pv.length bj).set j bo).map λb=>AV.arr b 0 w w)).boxes.length=H2.boxes.length:=mE _ _ _;have K8:((B'.set pv.length bj).set j bo).Perm B:=by have q:=aee (aW.1 yf).1 (aW.1 wK).1;rw[show B'[j]'(aW.1 wK).1=bj from(aW.1 wK).2,show B'[pv.length]'(aW.1 yf).1=bo from(aW.1 yf).2] at q;exact q.trans kP.out
 have yc:((B'.set pv.length bj).set j bo)[pv.length]?=aa bj:=by
  rw[mW];by_cases q:j=pv.length
  ·rw[aH q,aH (by rw[mJ,kT2.out.len];omega)];rw[q,yf] at wK;exact wK
  ·rw[aJ q,NZ (aW.1 yf).1]
 have zQ:((t'.set pv.length b).set j o)[pv.length]?=aa b:=by
  rw[mW];by_cases q:j=pv.length
  ·rw[aH q,aH (by rw[mJ];omega)];rw[q,ho] at hb;exact hb
  ·rw[aJ q,NZ ai]
 have Zn:((t'.set pv.length b).set j o).length=t.length:=by rw[mJ,mJ];exact i2
 have YU:∀a∈(t'.set pv.length b).set j o,∀x∈a,okF x:=by
  intro a ha;rcases xB ha with q|q
  ·rcases xB q with q|q
   ·exact kR.out.ok a q
   ·rw[q];exact okb
  ·rw[q];exact kR.out.ok o (dy ho)
 have kok3:=ao.mk (az YU (az okb Zn));clear YU Zn;generalize (t'.set pv.length b).set j o=t3 at *
 generalize (B'.set pv.length bj).set j bo=B3 at *
 obtain⟨H3,qL⟩:∃H3,H2.put tb (B3.map λb=>AV.arr b 0 w w)=H3:=⟨_,rfl⟩;rw[qL] at s2 T3 G3 b2 b3 PJ;have kP3:=ao.mk K8;clear qL iF K8 oO C5 kz gDj hb ho rS bT;have l23:=yx b2;have l33:=me b3;have uA:(B3.map λb=>AV.arr b 0 w w)[pv.length]?=aa (.arr bj 0 w w):=by rw[ey,yc];rfl
 have m13:=tN T3.ir uA;have Q3:=T3.row pv.length bj b yc zQ;have m23:=Aa Q3 (yz (k:=c) ai);have yl:fmod (al b c)=al b c:=CK (rm okb c);have ci:=λh=>amy (al b c) h;rw[yl] at ci;simp only[aJ hzero] at ci;have kokz:ao (0<=eU (al b c)/\eU (al b c)<=9223372036854775807):=⟨Ac (Ph _)⟩;have axi:tb<H3.boxes.length:=(aW.1 T3.ir).1;have axm:bj<H3.boxes.length:=(aW.1 Q3).1;have hh3:h.boxes.length<H3.boxes.length:=(aW.1 b2).1;have axr:hl<H3.boxes.length:=(aW.1 b3).1;generalize hz:al b c=z at *
 have kfz:ao (okF (eU z)):=⟨Ph _⟩;generalize hf:eU z=fz at *
 have s5:cE aq (H3.push [.v (.int .i64 0)]) 3 (.ptr (.box H3.boxes.length) 0) (.v (.int .i64 fz))=aa (H3.push [.v (.int .i64 fz)]):=lq rfl fR rfl rfl;have T4:lF (H3.push [.v (.int .i64 fz)]) tb B3 t3 w:=T3.mono λ_ _ q=>bh q;have G4:GM (tb::B) h.tn h (H3.push [.v (.int .i64 fz)]) tk:=G3.then λ_=>gP.refl.push _;have b24:(H3.push [.v (.int .i64 fz)]).boxes[h.boxes.length]?=aa [.arr tb 0 t.length t.length]:=bh b2;have b34:(H3.push [.v (.int .i64 fz)]).boxes[hl]?=aa [.v (.int .i64 (pv.length:Nat))]:=bh b3;have b44:(H3.push [.v (.int .i64 fz)]).boxes[H3.boxes.length]?=aa [.v (.int .i64 fz)]:=bg _ _;have HN:(H3.push [.v (.int .i64 fz)]).boxes.length=H3.boxes.length+1:=cR _ _;have kH3:=ao.mk PJ;obtain⟨H4,wH⟩:∃H4,H3.push [.v (.int .i64 fz)]=H4:=⟨_,rfl⟩;rw[wH] at s5 T4 G4 b24 b34 b44 HN;have l24:=yx b24;have l34:=me b34;have m14:=tN T4.ir uA;have af:=Vd bj w c H4;have kT4:=ao.mk T4;have kG4:=ao.mk G4;have kb4:=ao.mk (az b24 (az b34 (az b44 (az HN (az yc zQ)))));unfold im at af m2 m23 ci;clear wH T4 G4 b24 b34 b44 HN T3 G3 b2 b3 PJ Q3 uA yc zQ yl yg Yv yf wK;refine bC @vO ?_;refine nW [(2,13)] AU aw (λp hp=>?_) ?_
 ·simp only[nC] at hp;subst hp;refine Al (x:=.ptr (.box h.boxes.length) 0) (v:=.arr tb 0 t.length t.length) aw rfl rfl rfl aw (by simp[fA,mU]) ?_ ?_<;>(simp only[iV,gF];exact jw @vO @and_self)
 refine bC @vO ?_;refine bM.gen λe4 gU qM vB tL=>?_;have f2:e4.get 2=.ptr (.box h.boxes.length) 0:=by rw[gU];simp only[gW,reduceIte,aS,aO];exact g2
 have f4:e4.get 4=.list tk s (ints (bW pv)):=by rw[gU];simp only[gW,reduceIte,aS,aO];exact g4
 have f5:e4.get 5=.v (.int .i64 (c:Nat)):=by rw[gU];simp only[gW,reduceIte,aS,aO];exact g5
 have f6:e4.get 6=.ptr (.box hl) 0:=by rw[gU];simp only[gW,reduceIte,aS,aO];exact g6
 have f8:e4.get 8=.ptr (.box H3.boxes.length) 0:=by rw[gU];exact gS
 have f13:e4.get 13=.v (.int .i64 (many:Nat)):=by rw[gU];simp only[gW,reduceIte,aS,aO];exact g13
 have f14:e4.get 14=.v (.int .i64 (c:Nat)):=by rw[gU];simp only[gW,reduceIte,aS,aO];exact g14
 have f70:e4.get 70=.func (.func 219) [] [.ptr (.box (H4.boxes.length+1)) 0,.ptr (.box H4.boxes.length) 0]:=by rw[gU];exact gS
 have fd:e4.defers=[]:=by rw[qM];simp only[gW,reduceIte,aS,aO];exact hd
 clear gU qM vB tL g2 g4 g5 g6 g7 g13 g14 hd;refine DU (by rw[A7];exact f70) λrec w1 w2 w3 w4 w5 w6=>?_;obtain⟨b24,b34,b44,HN,yc,zQ⟩:=kb4.out;have T5:lF ((H4.push [.arr bj 0 w w]).push [.v (.int .i64 (c:Nat))]) tb B3 t3 w:=kT4.out.mono λ_ _ q=>bh (bh q);have G5:GM (tb::B) h.tn h ((H4.push [.arr bj 0 w w]).push [.v (.int .i64 (c:Nat))]) tk:=kG4.out.then λ_=>(gP.refl.push _).push _;have b25:((H4.push [.arr bj 0 w w]).push [.v (.int .i64 (c:Nat))]).boxes[h.boxes.length]?=aa [.arr tb 0 t.length t.length]:=bh (bh b24);have b35:((H4.push [.arr bj 0 w w]).push [.v (.int .i64 (c:Nat))]).boxes[hl]?=aa [.v (.int .i64 (pv.length:Nat))]:=bh (bh b34);have b45:((H4.push [.arr bj 0 w w]).push [.v (.int .i64 (c:Nat))]).boxes[H3.boxes.length]?=aa [.v (.int .i64 fz)]:=bh (bh b44);have b55:((H4.push [.arr bj 0 w w]).push [.v (.int .i64 (c:Nat))]).boxes[H4.boxes.length]?=aa [.arr bj 0 w w]:=bh (bg _ _);have b65:((H4.push [.arr bj 0 w w]).push [.v (.int .i64 (c:Nat))]).boxes[H4.boxes.length+1]?=aa [.v (.int .i64 (c:Nat))]:=nM (by rw[cR]);have akQ:((H4.push [.arr bj 0 w w]).push [.v (.int .i64 (c:Nat))]).boxes.length=H4.boxes.length+2:=by rw[cR,cR]
 generalize (H4.push [.arr bj 0 w w]).push [.v (.int .i64 (c:Nat))]=H5 at *
 clear l2 l3 l23 l33 m1 m2 m3 m13 m23 ci s1 s2 l2b s5 l24 l34 m14 af kb4 kT4 kG4 kb2 kb3 kT2 kG2 khr;have dV:=T5.row pv.length bj b yc zQ;have jE:=(aW.1 dV).1;have iu:(H5.loop rec).loops[H5.loops.length]?=aa rec:=@DG H5 rec;have I1:∀(k:Nat) (H:ar),H=(H5.loop rec).put bj ((ml (λi=>df (al b i) fz) b c k).map im)->H.boxes[H4.boxes.length+1]?=aa [im (c:Nat)]/\H.boxes[H4.boxes.length]?=aa [.arr bj 0 w w]/\(k<w->∃cs,H.boxes[bj]?=aa cs/\cs[k]?=aa (im (al b k))):=by
  rintro k H rfl;refine⟨?_,?_,λhk=>⟨_,eO jE,?_⟩⟩
  ·rw[dh ai];exact b65
  ·rw[dh ai];exact b55
  ·have:=yz (r:=ml (λi=>df (al b i) fz) b c k) (k:=k) (by rw[tA];omega);rw[EO ai,aJ ai] at this;exact this
 have I2:∀(k:Nat) (H:ar),c<=k->k<w->H=(H5.loop rec).put bj ((ml (λi=>df (al b i) fz) b c k).map im)->∃H',W2.round H5.loops.length [im (k:Nat),im (al b k)] H=aa (.ret (.v (.bool ah)),H')/\H'=(H5.loop rec).put bj ((ml (λi=>df (al b i) fz) b c (k+1)).map im):=by
  rintro k H Bo Bp rfl;refine Ji (Post:=λH=>H=(H5.loop rec).put bj ((ml (λi=>df (al b i) fz) b c (k+1)).map im)) iu (by rw[w2];rfl) w5 w6 ?_;have kq:=Ws (f:=λi=>df (al b i) fz) Bo (ai:k<b.length);have r1:∀t,(nV H5.loops.length rec [im (k:Nat),im (al b k)]).get t=if 72=t then im (al b k) else if 71=t then im (k:Nat) else e4.get t:=λt=>Jg w2 w1
  have d1:(nV H5.loops.length rec [im (k:Nat),im (al b k)]).defers=[]:=rfl;obtain⟨K,hK⟩:∃K,((H5.loop rec).put bj ((ml (λi=>df (al b i) fz) b c k).map im)).busy H5.loops.length rec=K:=⟨_,rfl⟩;rw[hK];have c1:K.boxes[bj]?=aa ((ml (λi=>df (al b i) fz) b c k).map im):=by rw[<-hK];exact eO jE
  have c2:K.boxes[h.boxes.length]?=aa [.arr tb 0 t.length t.length]:=by rw[<-hK];exact(dh ai).trans b25
  have c3:K.boxes[hl]?=aa [.v (.int .i64 (pv.length:Nat))]:=by rw[<-hK];exact(dh ai).trans b35
  have c4:K.boxes[H3.boxes.length]?=aa [im fz]:=by rw[<-hK];exact(dh ai).trans b45
  have c5:K.boxes[tb]?=aa (B3.map λb=>AV.arr b 0 w w):=by rw[<-hK];exact(dh nb2).trans T5.ir
  have uA:(B3.map λb=>AV.arr b 0 w w)[pv.length]?=aa (.arr bj 0 w w):=by rw[ey,yc];rfl
  have m2:=yx c2;have m3:=me c3;have m4:=me c4;have m5:=tN c5 uA;have FO:=rH (b:=bj) (len:=w) (aF:=w) (k:=.i64) Bp;have sk:=Ak (r:=ml (λi=>df (al b i) fz) b c k) (k:=k) (x:=df (al b k) fz) c1 (by rw[tA];omega);rw[kq] at sk;have wY:=Ac (rm okb k);have f1:=λh=>RN (al b k) fz h;clear dV b25 b35 b45 b55 b65 T5 G5 c1 c2 c3 c4 c5 kq uA I1 okb f70 ixj ixc;generalize df (al b k) fz=z1 at *
  generalize al b k=z2 at *
  unfold im at *
  rw[w3,w4];refine zy ?_;refine⟨aY,aY,?_⟩;refine bM.gen λe2 jN iF oQ FA=>?_;have q2:e2.get 2=.ptr (.box h.boxes.length) 0:=by rw[jN];simp only[gW,reduceIte,aS,aO,r1];exact f2
  have q6:e2.get 6=.ptr (.box hl) 0:=by rw[jN];simp only[gW,reduceIte,aS,aO,r1];exact f6
  have q8:e2.get 8=.ptr (.box H3.boxes.length) 0:=by rw[jN];simp only[gW,reduceIte,aS,aO,r1];exact f8
  have q10:e2.get 10=.v (.int .i64 k):=by rw[jN];simp only[gW,reduceIte,aS,aO,r1]
  have q11:e2.get 11=.v (.int .i64 z2):=by rw[jN];simp only[gW,reduceIte,aS,aO,r1]
  clear jN iF oQ FA r1 d1
  repeat' (first|simp(maxSteps:=999999)(disch:=first|exact dZ|fail)only[gW,reduceIte,aS,aO, *]|(refine dX ?_ ?_<;>(intro _;try omega))|refine eJ AU aw ?_)
  rw[<-hK];simp only[ar.put,ar.busy,ar.loop,Ev];exact⟨aY,aY,aY⟩
 obtain⟨h',c1,c2⟩:=Ve H5.loops.length (H4.boxes.length+1) H4.boxes.length bj w c b (λk H=>H=(H5.loop rec).put bj ((ml (λi=>df (al b i) fz) b c k).map im)) I1 I2 ai hw ((H5.loop rec).put bj ((ml (λi=>df (al b i) fz) b c c).map im)) rfl;have e3:H5.loop rec=(H5.loop rec).put bj ((ml (λi=>df (al b i) fz) b c c).map im):=by rw[Wu];exact(oB (h:=H5.loop rec) dV).symm
 rw[<-e3] at c1;have e4':ml (λi=>df (al b i) fz) b c w=iR c b fz:=by rw[<-wb];exact aiQ ai
 rw[e4'] at c2;subst c2;clear e3 I1 I2 e4';refine⟨_,_,c1,rec,iu,by rw[w5];decide,.inl ⟨w6,?_⟩⟩;clear c1;have Fb:h.loops.length<=H5.loops.length:=by
  have:=G5.mu.loop;rcases ez H5.loops.length h.loops.length with q|q
  ·have:=(aW.1 (this _ _ (aU q))).1;omega
  ·exact q
 have okt:=kok3.out;have HU:bj∈B:=kP3.out.mem_iff.1 (dy yc);have T6:lF (((H5.loop rec).put bj ((iR c b fz).map im)).fc H5.loops.length {rec with state:=.exhausted}) tb B3 (t3.set pv.length (iR c b fz)) w:=by have q:=lF.set (H:=H5.loop rec) (T5.mono λ_ _ q=>q) yc (r:=iR c b fz) (by rw[ab6 ai];exact wb);exact q.mono λ_ _ q=>q
 have G6:GM (tb::B) h.tn h (((H5.loop rec).put bj ((iR c b fz).map im)).fc H5.loops.length {rec with state:=.exhausted}) tk:=⟨((G5.mu.BC rec).trans (.put (fM _ HU) _)).fc Fb _,G5.can,G5.ok⟩;have b26:(((H5.loop rec).put bj ((iR c b fz).map im)).fc H5.loops.length {rec with state:=.exhausted}).boxes[h.boxes.length]?=aa [.arr tb 0 t.length t.length]:=(dh ai).trans b25;have b36:(((H5.loop rec).put bj ((iR c b fz).map im)).fc H5.loops.length {rec with state:=.exhausted}).boxes[hl]?=aa [.v (.int .i64 (pv.length:Nat))]:=(dh ai).trans b35;have Zd:(t3.set pv.length (iR c b fz))[pv.length]?=aa (iR c b fz):=NZ (aW.1 zQ).1;have ok4:∀a∈t3.set pv.length (iR c b fz),∀x∈a,okF x:=by
  intro a ha;rcases xB ha with q|q
  ·exact okt.1 a q
  ·rw[q];exact atV okb
 have Ik:(t3.set pv.length (iR c b fz)).length=t.length:=by rw[mJ];exact okt.2.2
 have oO:=kgo.out;rw[i2] at oO;have T7:lF (((H5.loop rec).put bj ((iR c b fz).map im)).fc H5.loops.length {rec with state:=.exhausted}) tb B3 (rn c (iR c b fz) pv.length 0 (t3.set pv.length (iR c b fz))) w:=by rw[ah7];exact T6
 have hso:(iR c b fz).length=w:=by rw[ab6 ai];exact wb
 generalize (((H5.loop rec).put bj ((iR c b fz).map im)).fc H5.loops.length {rec with state:=.exhausted})=H6 at *
 clear T6 iu dV b25 b35 b45 b55 b65 T5 G5 akQ jE w1 w2 w3 w4 w5 w6 Fb yc zQ okt f70 f8 HN ixj ixr ixc;have l26:=yx b26;have l36:=me b36;generalize iR c b fz=own at *
 generalize t3.set pv.length own=t4 at *
 have k7:=ao.mk (az T7 (az G6 (az b26 b36)));have kok4:=ao.mk (az ok4 (az Zd (az Ik oO)));clear T7 G6 b26 b36 ok4 Zd oO okb kok3 Ik;refine bC @vO ?_;refine bM.gen λe5 zH Ys hp5 QX=>?_;have r2:e5.get 2=.ptr (.box h.boxes.length) 0:=by rw[zH];simp only[gW,reduceIte,aS,aO];exact f2
 have r4:e5.get 4=.list tk s (ints (bW pv)):=by rw[zH];simp only[gW,reduceIte,aS,aO];exact f4
 have r5:e5.get 5=.v (.int .i64 (c:Nat)):=by rw[zH];simp only[gW,reduceIte,aS,aO];exact f5
 have r6:e5.get 6=.ptr (.box hl) 0:=by rw[zH];simp only[gW,reduceIte,aS,aO];exact f6
 have r13:e5.get 13=.v (.int .i64 (many:Nat)):=by rw[zH];simp only[gW,reduceIte,aS,aO];exact f13
 have r14:e5.get 14=.v (.int .i64 (c:Nat)):=by rw[zH];simp only[gW,reduceIte,aS,aO];exact f14
 have r83:e5.get 83=.v (.int .i64 (t.length:Nat)):=by rw[zH];exact gS
 have r84:e5.get 84=.v (.int .i64 (0:Nat)):=by rw[zH];exact gR
 have rd:e5.defers=[]:=by rw[Ys];simp only[gW,reduceIte,aS,aO];exact fd
 clear zH Ys hp5 QX f2 f4 f5 f6 f13 f14 fd l26 l36;refine cH (λm e H=>∃i:Nat,i<=t.length/\m=t.length - i/\ao (lF H tb B3 (rn c own pv.length i t4) w)/\ao (GM (tb::B) h.tn h H tk)/\ao (H.boxes[h.boxes.length]?=aa [.arr tb 0 t.length t.length])/\ao (H.boxes[hl]?=aa [.v (.int .i64 (pv.length:Nat))])/\e.get 2=.ptr (.box h.boxes.length) 0/\e.get 4=.list tk s (ints (bW pv))/\e.get 5=.v (.int .i64 (c:Nat))/\e.get 6=.ptr (.box hl) 0/\e.get 13=.v (.int .i64 (many:Nat))/\e.get 14=.v (.int .i64 (c:Nat))/\e.get 83=.v (.int .i64 (t.length:Nat))/\e.get 84=.v (.int .i64 (i:Nat))/\e.defers=[]) ?_ t.length _ _ ?_;rotate_left 1
 ·exact⟨0,cD _,rfl,⟨k7.out.1⟩,⟨k7.out.2.1⟩,⟨k7.out.2.2.1⟩,⟨k7.out.2.2.2⟩,r2,r4,r5,r6,r13,r14,r83,r84,rd⟩
 clear r2 r4 r5 r6 r13 r14 r83 r84 rd k7;rintro m e6 K ⟨i,hi,rfl,kT7,kG7,kb7,kc7,g2,g4,g5,g6,g13,g14,g83,g84,hd⟩;have l27:=yx kb7.out;have l37:=me kc7.out;by_cases hit:i<t.length;rotate_left 1
 ·have gx:i=t.length:=by omega
  subst gx;have bl:=pq (c:Int);have ap:=tf (x:=(c:Int)) (show(bW pv).length<1099511627776 by unfold bW;rw[bF];omega) hs kG7.out.can;refine bC @vO ?_;refine⟨many - (c+1),by omega,c+1,B3,.free K.tn,1,by omega,rfl,?_⟩;rw[kok4.out.2.2.2];have Ik:=kok4.out.2.2.1;rw[<-Ik] at kT7;have ee:bW (pv++[c])=bW pv++[(c:Int)]:=by unfold bW;simp
  dsimp only;rw[ee];exact⟨by rw[<-Ik];exact kT7.out.mono λ_ _ q=>by rw[eC];exact q,kP3.out,by rw[eC];exact kb7.out,aY,rfl,.inl rfl,aY,by simp,aY,kG7.out.app (aL _)⟩
 have XD:B3.length=t.length:=by rw[kT7.out.len,Wh];exact kok4.out.2.2.1
 by_cases Qo:i=pv.length
 ·subst Qo;have T8:=kT7.out;rw[<-ah5] at T8;have kT8:=ao.mk T8;clear T8;refine bC @vO ?_;exact⟨t.length - (pv.length+1),by omega,pv.length+1,by omega,rfl,kT8,aY,aY,aY,aY,aY,aY,aY,aY,aY,aY,by simp,aY⟩
 ·obtain⟨a,ha⟩:∃a,t4[i]?=aa a:=⟨_,aU (by rw[kok4.out.2.2.1];exact hit)⟩;obtain⟨K2,c1,c2,c3⟩:=ah0 K tb B3 (rn c own pv.length i t4) w i pv.length c a own kT7.out (ah4.trans ha) (ah3.trans kok4.out.2.1) Qo ai hw (ah2 kok4.out.1);rw[ah6 ha Qo] at c2;rw[XD] at c1;have cM:∀n0,gP (tb::B) n0 K K2:=λn0=>(c3 n0).mono λb hb=>fM _ (kP3.out.mem_iff.1 hb);have HU:∀b∈B3,b<h.boxes.length:=λb hb=>kBl.out b (kP3.out.mem_iff.1 hb);have kb8:=ao.mk ((c3 0).box _ _ (λq=>absurd (HU _ q) ai) kb7.out);have kc8:=ao.mk ((c3 0).box _ _ (λq=>absurd (HU _ q) ai) kc7.out);have kG8:=ao.mk (kG7.out.then cM);have kT8:=ao.mk c2;have axs:¬((i:Int)=(pv.length:Int)):=by omega
  clear c2 c3 cM HU ha XD kT7 kG7 kb7 kc7;unfold im at c1;refine bC @vO ?_;exact⟨t.length - (i+1),by omega,i+1,by omega,rfl,kT8,aY,aY,aY,aY,aY,aY,aY,aY,aY,aY,by simp,aY⟩
def IL(x:AV)(l:List Int):Prop:=∃k s,x=.list k s (ints l)/\(l≠[]->s=1)
def RL(x:AV)(ae:List (List Int)):Prop:=∃(k:Tok) (s:Nat) (xs:List AV),x=.list k s (xs.map λa=>[a])/\(ae≠[]->s=1)/\xs.length=ae.length/\∀(i:Nat) (a:AV) (r:List Int),xs[i]?=aa a->ae[i]?=aa r->IL a r
def ami{l}{i}(h:i<l.length):(ints l)[i]?=aa [.v (.int .i64 (al l i))]:=by unfold ints yq;rw[ey,aU h,fB h];rfl
def ev{H}{l}{i s}(h:i<l.length):aI aq Gt H 3 (.elem s (ints l) i 0)=aa (.v (.int .i64 (al l i))):=by rw[sI fh (ami h)];rfl
def mf{H}{xs:List AV}{i s}{x}(h:xs[i]?=aa x):aI aq Gt H 23 (.elem s (xs.map λa=>[a]) i 0)=aa x:=by rw[sI mj (row:=[x]) (by rw[ey,h];rfl)];rfl
def Gc:Tryz.f179.results.toList=[.tmp 4]:=aw
def asS:Tryz.f199.results.toList=[]:=aw
def yi(w:Nat)(B:List Nat):List AV:=B.map λb=>AV.arr b 0 w w
def NM(H:ar)(B:List Nat)(tb base:Nat)(cur:AV)(l:List Int):Prop:=(l=[]/\cur=.list .nil 0 [])∨(l≠[]/\∃b,cur=.arr b 0 l.length l.length/\H.boxes[b]?=aa (l.map im)/\b∉B/\b≠tb/\base<=b)
def avU{h0 H}{B}{tb}{cur}{l}(hc:NM H B tb h0.boxes.length cur l)(hx:Ext h0 H)(hb:h0.boxes.length<=tb)(x)(hl:l.length<1000000)(hB:∀b∈B,b<H.boxes.length)(Zp:tb<H.boxes.length):
 ∃H2,sU aq H #[23,23] cur (.list .tight 1 [[.v (.int .i64 x)]])=aa (.arr H.boxes.length 0 (l.length+1) (l.length+1),H2)/\NM H2 B tb h0.boxes.length (.arr H.boxes.length 0 (l.length+1) (l.length+1)) (l++[x])/\Ext h0 H2/\H2.loops=H.loops/\H2.boxes.length=H.boxes.length+1/\∀c cs,(c∈B∨c=tb)->H.boxes[c]?=aa cs->H2.boxes[c]?=aa cs:=by
 obtain⟨i,q1,q2,q3,q4⟩:=FJ;have vt:=ri (ai:l.length+1<=1000000) q3;have bR:=hx.len;rcases hc with⟨rfl,rfl⟩|⟨bG,b,rfl,h1,h2,h3,h4⟩
 ·have:=Nk (h:=H) (k:=.nil) (sz:=0) (es:=[]) (new:=[[.v (.int .i64 x)]]) (x:=.list .tight 1 [[.v (.int .i64 x)]]) dY dY q1 ai (by rw[q2];exact q4) bJ (by simp;omega) bJ (.inr rfl) (.inl rfl) (by rw[q2];rfl);refine⟨_,this,.inr ⟨bJ,H.boxes.length,rfl,bg _ _,λq=>absurd (hB _ q) (Hg _),by omega,bR⟩,hx.trans (.push _ _),rfl,cR _ _,λc cs _ q=>bh q⟩
 ·have aC:=(aW.1 h1).1;have jV:0<l.length:=List.length_pos_iff.2 bG;have:=TL (h:=H) (b:=b) (len:=l.length) (cs:=l.map im) (new:=[[.v (.int .i64 x)]]) (x:=.list .tight 1 [[.v (.int .i64 x)]]) dY dY q1 ai (by rw[q2];exact q4) bJ (by simp;omega) (by simp;omega) h1 jV (by rw[q2,bF];omega) (by rw[q2];rfl);refine⟨_,this,.inr ⟨bJ,H.boxes.length,by simp,?_,λq=>absurd (hB _ q) (Hg _),by omega,bR⟩,(hx.fZ h4 _).trans (.push _ _),rfl,by rw[cR,mE],λc cs hc q=>bh ((dh ?_).trans q)⟩
  ·rw[mY];exact nM (by rw[mE])
  ·rcases hc with hc|hc
   ·rintro rfl;exact h2 hc
   ·rintro rfl;exact h3 hc
structure yV(H:ar)(tb base w m:Nat)(B:List Nat)(t:List (List Int))(cur:AV)(l:List Int):Prop where
 ir:H.boxes[tb]?=aa (yi w B++cur::br (m - B.length - 1) (.list .nil 0 []))
 lt:B.length<m
 len:B.length=t.length
 nd:B.Nodup
 row:∀(i b:Nat) (r:List Int),B[i]?=aa b->t[i]?=aa r->H.boxes[b]?=aa (r.map im)
 wid:∀r∈t,r.length=w
 out:tb∉B
 low:∀b∈B,base<=b
 cur:NM H B tb base cur l
def aaj{P}{h}{t elem}{i}{zero}{n}{k k'}(hu:P.underlying t=aa (.slice elem))(hi:P.info? elem=aa i)(hz:(iB P elem).bind AV.cd=aa zero)(h1:zero.length=i.size)(h2:0<i.size)(h3:i.bytes * n<=281474976710656)(h4:n<9223372036854775808):
 Ab P h t (.v (.int k (n:Nat))) (.v (.int k' (n:Nat)))=aa (.arr h.boxes.length 0 n n,h.push (br n zero).flatten):=by
 unfold Ab;have h5:(i.bytes:Int) * (n:Nat)<=281474976710656:=by rw[<-Int.natCast_mul];omega
 simp only[hu,hi,hz];rw[aH ⟨ai,NO _,by omega,h5,h2,h1⟩];simp[ar.push]
def LG:∃i,aq.info? 23=aa i/\i.size=1/\i.bytes<=24/\(i.zero.map λz=>z.cells.size)=aa 1:=by
 have h:(match aq.info? 23 with|some i=>Nat.beq i.size 1&&Nat.ble i.bytes 24&&decide ((i.zero.map λz=>z.cells.size)=aa 1)|none=>aB)=ah:=aw;cases hi:aq.info? 23 with
 |none=>rw[hi] at h;cases h
 |some i=>rw[hi] at h;simp only[bI,decide_eq_true_eq] at h;exact⟨i,rfl,Nat.eq_of_beq_eq_true h.1.1,Nat.le_of_ble_eq_true h.1.2,h.2⟩
def anO(h)(n)(hn:n<=1000000)(k k'):Ab aq h 203 (.v (.int k (n:Nat))) (.v (.int k' (n:Nat)))=aa (.arr h.boxes.length 0 n n,h.push (br n (.list .nil 0 []))):=by obtain⟨i,q1,q2,q3,q4⟩:=LG;have hb:=ri q3 hn;have:=aaj (h:=h) (n:=n) (k:=k) (k':=k') (zero:=[.list .nil 0 []]) Hl q1 aw (by rw[q2];rfl) ai ai ai;rw[this];simp
def BH(h)(n)(hn:n<=1000000)(k k'):Ab aq h 23 (.v (.int k (n:Nat))) (.v (.int k' (n:Nat)))=aa (.arr h.boxes.length 0 n n,h.push (br n (im 0))):=by obtain⟨i,q1,q2,q3,q4⟩:=FJ;have hb:=ri q3 hn;have:=aaj (h:=h) (n:=n) (k:=k) (k':=k') (zero:=[im 0]) dY q1 Nu (by rw[q2];rfl) ai ai ai;rw[this];simp
structure Ce(H:ar)(tb base w m:Nat)(B:List Nat)(t:List (List Int)):Prop where
 ir:H.boxes[tb]?=aa (yi w B++br (m - B.length) (.list .nil 0 []))
 len:B.length=t.length
 nd:B.Nodup
 row:∀(i b:Nat) (r:List Int),B[i]?=aa b->t[i]?=aa r->H.boxes[b]?=aa (r.map im)
 wid:∀r∈t,r.length=w
 out:tb∉B
 low:∀b∈B,base<=b
def Ce.half{H}{tb base w m}{B}{t}(M:Ce H tb base w m B t)(hm:B.length<m):yV H tb base w m B t (.list .nil 0 []) []:=by refine⟨?_,hm,M.len,M.nd,M.row,M.wid,M.out,M.low,.inl ⟨rfl,rfl⟩⟩;rw[M.ir,(ai:m - B.length=m - B.length - 1+1),Cc];rfl
def Ce.JN{H}{tb base w m}{B}{t}(M:Ce H tb base w m B t)(hm:B.length=m):lF H tb B t w:=by refine⟨?_,M.len,M.nd,M.row,M.wid,M.out⟩;rw[M.ir,hm,ve,List.replicate_zero,jC];rfl
def Ic(w)(B):(yi w B).length=B.length:=by unfold yi;simp
def alj(w)(B)(c)(r):(yi w B++c::r)[B.length]?=aa c:=by rw[List.getElem?_append_right (by rw[Ic];exact aL _),Ic,ve];rfl
def alk(w)(B)(c d)(r):(yi w B++c::r).set B.length d=yi w B++d::r:=by rw[List.set_append_right _ _ (by rw[Ic];exact aL _),Ic,ve];rfl
def au3{H}{b k x n}{cs}(hb:H.boxes[b]?=aa cs)(hk:k<cs.length):cE aq H 23 (.ptr (.box b) k) (.arr x 0 n n)=aa (H.put b (cs.set k (.arr x 0 n n))):=by rw[fK (xs:=[AV.arr x 0 n n]) rfl iA hb rfl hk];congr 2;unfold fe;rw[Cd,aH hk];simp
def yV.lts{H}{tb base w m}{B}{t}{cur}{l}(F:yV H tb base w m B t cur l):∀b∈B,b<H.boxes.length:=by intro b hb;obtain⟨i,hi⟩:=vd hb;have cY:=(aW.1 hi).1;exact(aW.1 (F.row i b _ hi (aU (by rw[<-F.len];exact cY)))).1
def yV.more{h0 H}{tb w m}{B}{t}{cur}{l}(F:yV H tb h0.boxes.length w m B t cur l)(hx:Ext h0 H)(hb:h0.boxes.length<=tb)(x)(hl:l.length<1000000):
 ∃H2 H3 cur',sU aq H #[23,23] cur (.list .tight 1 [[.v (.int .i64 x)]])=aa (cur',H2)/\cE aq H2 23 (.ptr (.box tb) B.length) cur'=aa H3/\yV H3 tb h0.boxes.length w m B t cur' (l++[x])/\Ext h0 H3/\H3.loops=H.loops:=by
 have Zp:=(aW.1 F.ir).1;obtain⟨H2,c1,c2,c3,c4,c5,c6⟩:=avU F.cur hx hb x hl F.lts Zp;have hd:=c6 tb _ (.inr rfl) F.ir;have s1:=au3 (x:=H.boxes.length) (n:=l.length+1) (k:=B.length) hd (by simp[Ic]);rw[alk] at s1;refine⟨H2,_,_,c1,s1,⟨eO (aW.1 hd).1,F.lt,F.len,F.nd,λi b r hi hr=>?_,F.wid,F.out,F.low,?_⟩,c3.fZ hb _,c4⟩
 ·have zG:=dy hi;rw[dh (λe=>F.out (by rw[<-e];exact zG))];exact c6 b _ (.inl zG) (F.row i b r hi hr)
 ·rcases c2 with⟨q,-⟩|⟨q,b,q1,q2,q3,q4,q5⟩
  ·simp at q
  ·exact .inr ⟨q,b,q1,by rw[dh q4];exact q2,q3,q4,q5⟩
def yV.mid{H}{tb base w m}{B}{t}{cur}{l}(F:yV H tb base w m B t cur l)(hl:l.length=w)(hw:0<w):∃b,Ce H tb base w m (B++[b]) (t++[l]):=by
 rcases F.cur with⟨rfl,-⟩|⟨q,b,q1,q2,q3,q4,q5⟩
 ·simp at hl;omega
 ·refine⟨b,?_,by simp[F.len],?_,λi c r hi hr=>?_,λr hr=>?_,?_,λc hc=>?_⟩
  ·rw[F.ir,q1,hl];unfold yi;rw[mY,dM,List.append_assoc];rfl
  ·rw[List.nodup_append];refine⟨F.nd,by simp,λx hx y hy=>?_⟩;rw[nC] at hy;subst hy;rintro rfl;exact q3 hx
  ·rcases ez i B.length with aC|eF
   ·rw[sY aC] at hi;rw[sY (by rw[<-F.len];exact aC)] at hr;exact F.row i c r hi hr
   ·have:=(aW.1 hi).1;rw[dM] at this;have Qj:i=B.length:=(by simp at this;omega);subst Qj;rw[GS] at hi;rw[F.len,GS] at hr;injection hi with hi;injection hr with hr;subst hi;subst hr;exact q2
  ·rcases xA.1 hr with z|z
   ·exact F.wid r z
   ·rw[nC] at z;rw[z];exact hl
  ·intro z;rcases xA.1 z with z|z
   ·exact F.out z
   ·rw[nC] at z;exact q4 z.symm
  ·rcases xA.1 hc with z|z
   ·exact F.low c z
   ·rw[nC] at z;rw[z];exact q5
def av6(h:ar)(x y:AV)(ae:List (List Int))(target:List Int)(hx:RL x ae)(hy:IL y target)(hr:ae.length<=1000)(ht:target.length<=1000)(hw:∀r∈ae,r.length=target.length):
 ∃r h',W2.call 179 [x,y] h=aa (r,h')/\∃tb B,r=.ret (.arr tb 0 target.length target.length)/\lF h' tb B (gm ae target) (ae.length+1)/\Ext h h'/\h.boxes.length<=tb/\∀b∈B,h.boxes.length<=b:=by
 obtain⟨kx0,sx,xs,rfl,vD,dR,eG⟩:=hx;obtain⟨ky,sy,rfl,lj⟩:=hy;have kx:=ao.mk (az vD (az eG (az lj hw)));clear vD eG lj hw;have mk:=anO h target.length ai .i64 .i64;have u23:=dY;have u22:=jf;have u203:=Hl;have z23:=iA;have z3:=fR;have cY:=dE target;have LC:(xs.map λa=>[a]).length=ae.length:=by rw[bF];exact dR
 refine di rfl Tryz.func179 rfl ?_;refine bC @Gc ?_;refine bM.gen λe0 aG bE cZ cV=>?_;have f0:e0.get 0=.list kx0 sx (xs.map λa=>[a]):=by rw[aG];exact gS
 have f5:e0.get 5=.arr h.boxes.length 0 target.length target.length:=by rw[aG];exact gS
 have f13:e0.get 13=.list ky sy (ints target):=by rw[aG];exact gS
 have f14:e0.get 14=.v (.int .i64 (target.length:Nat)):=by rw[aG];exact gS
 have f15:e0.get 15=.v (.int .i64 (0:Nat)):=by rw[aG];exact gR
 have fd:e0.defers=[]:=by rw[bE];exact gS
 clear aG bE cZ cV mk;have tl:=TM ae target;have M0:Ce (h.push (br target.length (.list .nil 0 []))) h.boxes.length h.boxes.length (ae.length+1) target.length [] ((gm ae target).take 0):=by refine⟨by rw[bg];simp[yi],rfl,.nil,λi b r hi=>by simp at hi,λr hr=>by simp at hr,by simp,λb hb=>by simp at hb⟩
 refine cH (λm e H=>∃(k:Nat) (B:List Nat),k<=target.length/\m=target.length - k/\B.length=k/\ao (Ce H h.boxes.length h.boxes.length (ae.length+1) target.length B ((gm ae target).take k))/\ao (Ext h H)/\e.get 0=.list kx0 sx (xs.map λa=>[a])/\e.get 5=.arr h.boxes.length 0 target.length target.length/\e.get 13=.list ky sy (ints target)/\e.get 14=.v (.int .i64 (target.length:Nat))/\e.get 15=.v (.int .i64 (k:Nat))/\e.defers=[]) ?_ target.length _ _ ?_;rotate_left 1
 ·exact⟨0,[],cD _,rfl,rfl,⟨M0⟩,⟨.push _ _⟩,f0,f5,f13,f14,f15,fd⟩
 clear M0 f0 f5 f13 f14 f15 fd;rintro m e H ⟨k,B,hk,rfl,wG,kM,kX,g0,g5,g13,g14,g15,hd⟩;by_cases Li:k<target.length;rotate_left 1
 ·have:k=target.length:=by omega
  subst this;have T:=kM.out.JN wG;rw[gK ai] at T;have kT:=ao.mk T;clear T;refine bC @Gc ?_;exact⟨_,_,rfl,_,B,rfl,kT.out,kX.out,aL _,kM.out.low⟩
 have bD:sy=1:=kx.out.2.2.1 (by intro q;rw[q] at Li;simp at Li);subst bD;have l0:=ev (H:=H) (s:=1) Li;have F0:=kM.out.half ai;have kF0:=ao.mk F0;have hkI:(k:Int)<(target.length:Int):=by omega
 clear F0;refine bQ @Gc @bp ?_;refine bM.gen λe0 aG bE cZ cV=>?_;have f0:e0.get 0=.list kx0 sx (xs.map λa=>[a]):=by rw[aG];simp only[gW,reduceIte,aS,aO];exact g0
 have f5:e0.get 5=.arr h.boxes.length 0 target.length target.length:=by rw[aG];simp only[gW,reduceIte,aS,aO];exact g5
 have f6:e0.get 6=.v (.int .i64 (k:Nat)):=by rw[aG];exact gS
 have f7:e0.get 7=.v (.int .i64 (al target k)):=by rw[aG];exact gS
 have f13:e0.get 13=.list ky 1 (ints target):=by rw[aG];simp only[gW,reduceIte,aS,aO];exact g13
 have f14:e0.get 14=.v (.int .i64 (target.length:Nat)):=by rw[aG];simp only[gW,reduceIte,aS,aO];exact g14
 have f15:e0.get 15=.v (.int .i64 (k:Nat)):=by rw[aG];simp only[gW,reduceIte,aS,aO];exact g15
 have f20:e0.get 20=.list kx0 sx (xs.map λa=>[a]):=by rw[aG];exact gS
 have f21:e0.get 21=.v (.int .i64 (ae.length:Nat)):=by rw[aG];exact gS
 have f22:e0.get 22=.v (.int .i64 (0:Nat)):=by rw[aG];exact gR
 have fd:e0.defers=[]:=by rw[bE];simp only[gW,reduceIte,aS,aO];exact hd
 clear aG bE cZ cV g0 g5 g13 g14 g15 hd l0;refine cH (λm e H=>∃(i:Nat) (cur:AV),i<=ae.length/\m=ae.length - i/\ao (yV H h.boxes.length h.boxes.length (ae.length+1) target.length B ((gm ae target).take k) cur ((ae.take i).map λr=>al r k))/\ao (Ext h H)/\e.get 0=.list kx0 sx (xs.map λa=>[a])/\e.get 5=.arr h.boxes.length 0 target.length target.length/\e.get 6=.v (.int .i64 (k:Nat))/\e.get 7=.v (.int .i64 (al target k))/\e.get 13=.list ky 1 (ints target)/\e.get 14=.v (.int .i64 (target.length:Nat))/\e.get 15=.v (.int .i64 (k:Nat))/\e.get 20=.list kx0 sx (xs.map λa=>[a])/\e.get 21=.v (.int .i64 (ae.length:Nat))/\e.get 22=.v (.int .i64 (i:Nat))/\e.defers=[]) ?_ ae.length _ _ ?_;rotate_left 1
 ·exact⟨0,_,cD _,rfl,kF0,kX,f0,f5,f6,f7,f13,f14,f15,f20,f21,f22,fd⟩
 clear f0 f5 f6 f7 f13 f14 f15 f20 f21 f22 fd kF0 kM kX;rintro m e2 H2 ⟨i,cur,hi,rfl,kF,kX,g0,g5,g6,g7,g13,g14,g15,g20,g21,g22,hd⟩;have lc:((ae.take i).map λr=>al r k).length=i:=by rw[bF,fm];omega
 have rz:(yi (ae.length+1) B++cur::br (target.length - B.length - 1) (.list .nil 0 []))[k]?=aa cur:=by rw[<-wG];exact alj _ _ _ _
 have m1:=tN kF.out.ir rz;have FO:=FM (b:=h.boxes.length) (len:=target.length) (aF:=target.length) (k:=.i64) Li;clear rz;by_cases iO:i<ae.length
 ·obtain⟨a,ha⟩:∃a,xs[i]?=aa a:=⟨_,aU ai⟩;obtain⟨r,hr⟩:∃r,ae[i]?=aa r:=⟨_,aU iO⟩;have vD:sx=1:=kx.out.1 (by intro q;rw[q] at iO;simp at iO);subst vD;obtain⟨ka,sa,rfl,jj⟩:=kx.out.2.1 i a r ha hr;have cU:=kx.out.2.2.2 r (dy hr);have Q6:sa=1:=jj (by intro q;rw[q] at cU;simp at cU;omega);subst Q6;have l1:=mf (H:=H2) (s:=1) ha;have l2:=ev (H:=H2) (l:=r) (i:=k) (s:=1) ai;have wP:(ints r).length=target.length:=by rw[dE];exact cU
  obtain⟨H3,H4,cur',c1,c2,c3,c4,-⟩:=kF.out.more kX.out (aL _) (al r k) (by rw[lc];omega);have jQ:((ae.take i).map λr=>al r k)++[al r k]=(ae.take (i+1)).map λr=>al r k:=by rw[fE hr,mY];rfl
  rw[jQ] at c3;rw[wG] at c2;have bl:=pq (al r k);have kF2:=ao.mk c3;have kX2:=ao.mk c4;have Lh:(i:Int)<(ae.length:Int):=by omega
  clear c3 c4 jQ ha hr jj lc wG tl cU;refine bQ @Gc @bp ?_
  repeat' (first|simp(maxSteps:=999999)(disch:=first|exact dZ|fail)only[gW,reduceIte,aS,aO,Gc,bp, *]|(refine dX ?_ ?_<;>(intro _;try omega))|refine eJ AU aw ?_)
  exact⟨ae.length - (i+1),by omega,i+1,cur',by omega,rfl,kF2,by simp⟩
 ·have gx:i=ae.length:=by omega
  subst gx;obtain⟨H3,H4,cur',c1,c2,c3,c4,-⟩:=kF.out.more kX.out (aL _) (al target k) (by rw[lc];omega);rw[fN] at c3;have dV:(ae.map λr=>al r k)++[al target k]=((gm ae target)[k]' ai):=by unfold gm;rw[qx,B8]
  rw[dV] at c3;obtain⟨b,M2⟩:=c3.mid (by rw[<-dV];simp) ai;rw[<-fE (aU (ai:k<(gm ae target).length))] at M2;have kM2:=ao.mk M2;have kX2:=ao.mk c4;have hBl:(B++[b]).length=k+1:=by rw[dM,wG];rfl
  rw[wG] at c2;have bl:=pq (al target k);clear c3 c4 M2 dV lc wG tl;refine bC @Gc ?_;exact⟨target.length - (k+1),by omega,k+1,B++[b],by omega,rfl,hBl,kM2,by simp⟩
def SM:Tryz.f126.results.toList=[.tmp 4]:=aw
def vN:Tryz.f167.results.toList=[.tmp 4]:=aw
def asD:Tryz.f152.results.toList=[.tmp 4]:=aw
def MG:Tryz.f185.results.toList=[.tmp 4]:=aw
def abQ:Tryz.f218.results.toList=[.tmp 2]:=aw
def Jt:Tryz.f200.results.toList=[]:=aw
def abM:Tryz.f178.results.toList=[]:=aw
def aml(g:bq)(p:Int->Bool)(h:ar)(x:AV)(l:List Int)(hx:IL x l)(hl:l.length<=1000000)(hp:∀n∈l,W2.call g [im n] h=aa (.ret (.v (.bool (p n))),h)):
 ∃r h',W2.call 167 [x,.func (.func g) [] []] h=some (r,h')/\h'=h/\∃i:Int,r=.ret (im i)/\decide (0<=i)=l.any p:=by
 obtain⟨k,s,rfl,hs⟩:=hx;have kp:=ao.mk hp;have ks:=ao.mk hs;clear hp hs;have u23:=dY;have z3:=fR;have cY:=dE l;refine di rfl Tryz.func167 rfl ?_;refine bC @vN ?_;refine cH (λm e H=>∃i:Nat,i<=l.length/\m=l.length - i/\(l.take i).any p=aB/\e.get 0=.list k s (ints l)/\e.get 1=.func (.func g) [] []/\e.get 7=.v (.int .i64 (l.length:Nat))/\e.get 8=.v (.int .i64 (i:Nat))/\e.defers=[]/\H=h) ?_ l.length _ _ ?_;rotate_left 1
 ·refine⟨0,cD _,rfl,by simp,?_,?_,?_,?_,?_,rfl⟩<;>exact gR
 rintro m e H ⟨i,hi,rfl,ha,g0,g1,g7,g8,hd,rfl⟩;have ka:=ao.mk ha;clear ha;by_cases aC:i<l.length
 ·have bD:s=1:=ks.out (by intro q;rw[q] at aC;simp at aC);subst bD;have ld:=ev (H:=H) (s:=1) aC;have hv:l[i]?=aa (al l i):=by rw[aU aC,fB aC]
  have hc:=kp.out (al l i) (dy hv);have fw:(i:Int)<(l.length:Int):=by omega
  have mn:(l.take (i+1)).any p=p (al l i):=by rw[fE hv,NU,ka.out];simp
  have kt:=ao.mk mn;have kh:=ao.mk hv;clear hv mn;unfold im at hc;cases eV:p (al l i) with
  |true=>rw[eV] at hc;have lX:l.any p=ah:=GQ.2 ⟨_,dy kh.out,eV⟩;have kan:=ao.mk lX;clear lX eV;refine bK @vN @bp @mh.{0} @jC.{0} ?_;exact⟨_,_,rfl,rfl,(i:Int),rfl,by rw[kan.out];simp⟩
  |false=>rw[eV] at hc;have kt2:(l.take (i+1)).any p=aB:=kt.out.trans eV;clear eV;refine bK @vN @bp @mh.{0} @jC.{0} ?_;exact⟨l.length - (i+1),by omega,i+1,by omega,rfl,kt2,by simp⟩
 ·have:i=l.length:=by omega
  subst this;have:=ka.out;rw[fN] at this;have kan:=ao.mk this;clear this;refine bC @vN ?_;exact⟨_,_,rfl,rfl,-1,rfl,by rw[kan.out];rfl⟩
def Wr(g)(p)(h)(x)(l)(hx:IL x l)(hl:l.length<=1000000)(hp:∀n∈l,W2.call g [im n] h=aa (.ret (.v (.bool (p n))),h)):
 W2.call 126 [x,.func (.func g) [] []] h=aa (.ret (.v (.bool (l.any p))),h):=by
 obtain⟨r,h',c,rfl,i,rfl,hi⟩:=aml g p h x l hx hl hp;have qh:(0<=i)=(l.any p=ah):=by rw[<-hi];simp
 have CW:decide (0<=i)=l.any p:=hi;unfold im at c;refine cN rfl Tryz.func126 rfl ?_;clear hi qh;exact lV @SM
def amm(g:bq)(p:List Int->Bool)(h:ar)(x:AV)(l:List (List Int))(hx:RL x l)(hl:l.length<=1000000)(hp:∀a r,r∈l->IL a r->W2.call g [a] h=aa (.ret (.v (.bool (p r))),h)):
 ∃r h',W2.call 185 [x,.func (.func g) [] []] h=some (r,h')/\h'=h/\∃i:Int,r=.ret (im i)/\decide (0<=i)=l.any p:=by
 obtain⟨k,s,xs,rfl,hs,dR,eG⟩:=hx;have kxr:=ao.mk eG;clear eG;have kp:=ao.mk hp;have ks:=ao.mk hs;clear hp hs;have u22:=jf;have z23:=iA;have cY:(xs.map λa=>[a]).length=l.length:=by rw[bF];exact dR
 refine di rfl Tryz.func185 rfl ?_;refine bC @MG ?_;refine cH (λm e H=>∃i:Nat,i<=l.length/\m=l.length - i/\(l.take i).any p=aB/\e.get 0=.list k s (xs.map λa=>[a])/\e.get 1=.func (.func g) [] []/\e.get 7=.v (.int .i64 (l.length:Nat))/\e.get 8=.v (.int .i64 (i:Nat))/\e.defers=[]/\H=h) ?_ l.length _ _ ?_;rotate_left 1
 ·refine⟨0,cD _,rfl,by simp,?_,?_,?_,?_,?_,rfl⟩<;>exact gR
 rintro m e H ⟨i,hi,rfl,ha,g0,g1,g7,g8,hd,rfl⟩;have ka:=ao.mk ha;clear ha;by_cases aC:i<l.length
 ·have bD:s=1:=ks.out (by intro q;rw[q] at aC;simp at aC);subst bD;obtain⟨a,fS⟩:∃a,xs[i]?=aa a:=⟨_,aU ai⟩;obtain⟨r,hv⟩:∃r,l[i]?=aa r:=⟨_,aU aC⟩;have ld:=mf (H:=H) (s:=1) fS;have hc:=kp.out a r (dy hv) (kxr.out i a r fS hv);clear fS;have fw:(i:Int)<(l.length:Int):=by omega
  have mn:(l.take (i+1)).any p=p r:=by rw[fE hv,NU,ka.out];simp
  have kt:=ao.mk mn;have kh:=ao.mk hv;clear hv mn;cases eV:p r with
  |true=>rw[eV] at hc;have lX:l.any p=ah:=GQ.2 ⟨_,dy kh.out,eV⟩;have kan:=ao.mk lX;clear lX eV;refine bK @MG @bp @mh.{0} @jC.{0} ?_;exact⟨_,_,rfl,rfl,(i:Int),rfl,by rw[kan.out];simp⟩
  |false=>rw[eV] at hc;have kt2:(l.take (i+1)).any p=aB:=kt.out.trans eV;clear eV;refine bK @MG @bp @mh.{0} @jC.{0} ?_;exact⟨l.length - (i+1),by omega,i+1,by omega,rfl,kt2,by simp⟩
 ·have:i=l.length:=by omega
  subst this;have:=ka.out;rw[fN] at this;have kan:=ao.mk this;clear this;refine bC @MG ?_;exact⟨_,_,rfl,rfl,-1,rfl,by rw[kan.out];rfl⟩
def ait(g)(p)(h)(x)(l)(hx:RL x l)(hl:l.length<=1000000)(hp:∀a r,r∈l->IL a r->W2.call g [a] h=aa (.ret (.v (.bool (p r))),h)):
 W2.call 152 [x,.func (.func g) [] []] h=aa (.ret (.v (.bool (l.any p))),h):=by
 obtain⟨r,h',c,rfl,i,rfl,hi⟩:=amm g p h x l hx hl hp;have qh:(0<=i)=(l.any p=ah):=by rw[<-hi];simp
 have CW:decide (0<=i)=l.any p:=hi;unfold im at c;refine cN rfl Tryz.func152 rfl ?_;clear hi qh;exact lV @asD
def nS(n:Int):Bool:=decide (n<0)||decide (1073741789<=n)
def aog(n:Int)(h:ar):W2.call 218 [im n] h=aa (.ret (.v (.bool (nS n))),h):=by
 unfold im nS;by_cases h0:n<0
 ·refine cN rfl aeO rfl ?_;have:decide (n<0)=ah:=by simp[h0]
  exact jw @abQ @Bool.true_or
 ·refine cN rfl aeO rfl ?_;have:decide (n<0)=aB:=by simp[h0]
  exact jw @abQ @adr
def LX(e:Int)(h:ar):W2.call 199 [.v (.bool ah),im e] h=aa (.ret (.tuple []),h):=by unfold im;refine cN rfl Tryz.func199 rfl ?_;exact lV @asS
def aoi{l:List Int}(h:∀x∈l,okF x):l.any nS=aB:=by rw[adM];intro x hx;obtain⟨h1,h2⟩:=h x hx;have:Qi=1073741789:=rfl;unfold nS;simp;omega
def Wa(h:ar)(x:AV)(ae:List (List Int))(w:Nat)(hx:RL x ae)(hr:ae.length<=1000)(hw:∀r∈ae,r.length=w)(oV:w<=64)(bB:∀r∈ae,∀x∈r,okF x):∃h',W2.call 200 [x] h=aa (.ret (.tuple []),h')/\h'=h:=by
 obtain⟨k,s,xs,rfl,hs,dR,eG⟩:=hx;have kk:=ao.mk (az hs (az eG (az hw bB)));clear hs eG hw bB;have u23:=dY;have u22:=jf;have z23:=iA;have cY:(xs.map λa=>[a]).length=ae.length:=by rw[bF];exact dR
 have n2:=LX 2;have n130:=LX 130;unfold im at n2 n130;refine iD rfl Tryz.func200 rfl ?_;refine bC @Jt ?_;refine cH (λm e H=>∃i:Nat,i<=ae.length/\m=ae.length - i/\e.get 0=.list k s (xs.map λa=>[a])/\e.get 7=.list k s (xs.map λa=>[a])/\e.get 8=.v (.int .i64 (ae.length:Nat))/\e.get 9=.v (.int .i64 (i:Nat))/\e.defers=[]/\H=h) ?_ ae.length _ _ ?_;rotate_left 1
 ·refine⟨0,cD _,rfl,?_,?_,?_,?_,?_,rfl⟩<;>exact gR
 rintro m e H ⟨i,hi,rfl,g0,g7,g8,g9,hd,rfl⟩;by_cases aC:i<ae.length
 ·have bD:s=1:=kk.out.1 (by intro q;rw[q] at aC;simp at aC);subst bD;obtain⟨a,fS⟩:∃a,xs[i]?=aa a:=⟨_,aU ai⟩;obtain⟨r,hv⟩:∃r,ae[i]?=aa r:=⟨_,aU aC⟩;have ld:=mf (H:=H) (s:=1) fS;obtain⟨ka,sa,rfl,jj⟩:=kk.out.2.1 i a r fS hv;have cU:=kk.out.2.2.1 r (dy hv);have wP:(ints r).length=w:=by rw[dE];exact cU
  have fw:(i:Int)<(ae.length:Int):=by omega
  have hwd:decide ((w:Int)<=64)=ah:=by simp;omega
  clear fS hv jj cU;refine bQ @Jt @bp ?_;exact⟨ae.length - (i+1),by omega,i+1,by omega,rfl,by simp⟩
 ·refine bC @Jt ?_;refine bM.gen λe0 aG bE cZ cV=>?_;have f0:e0.get 0=.list k s (xs.map λa=>[a]):=by rw[aG];simp only[gW,reduceIte,aS,aO];exact g0
  have f4:e0.get 4=.func (.func 218) [] []:=by rw[aG];exact gS
  have f18:e0.get 18=.list k s (xs.map λa=>[a]):=by rw[aG];exact gS
  have f19:e0.get 19=.v (.int .i64 (ae.length:Nat)):=by rw[aG];exact gS
  have f20:e0.get 20=.v (.int .i64 (0:Nat)):=by rw[aG];exact gR
  have fd:e0.defers=[]:=by rw[bE];simp only[gW,reduceIte,aS,aO];exact hd
  clear aG bE cZ cV g0 g7 g8 g9 hd hi aC;refine cH (λm e H2=>∃i:Nat,i<=ae.length/\m=ae.length - i/\e.get 0=.list k s (xs.map λa=>[a])/\e.get 4=.func (.func 218) [] []/\e.get 18=.list k s (xs.map λa=>[a])/\e.get 19=.v (.int .i64 (ae.length:Nat))/\e.get 20=.v (.int .i64 (i:Nat))/\e.defers=[]/\H2=H) ?_ ae.length _ _ ?_;rotate_left 1
  ·exact⟨0,cD _,rfl,f0,f4,f18,f19,f20,fd,rfl⟩
  clear f0 f4 f18 f19 f20 fd;rintro m e H ⟨i,hi,rfl,g0,g4,g18,g19,g20,hd,rfl⟩;by_cases aC:i<ae.length
  ·have bD:s=1:=kk.out.1 (by intro q;rw[q] at aC;simp at aC);subst bD;obtain⟨a,fS⟩:∃a,xs[i]?=aa a:=⟨_,aU ai⟩;obtain⟨r,hv⟩:∃r,ae[i]?=aa r:=⟨_,aU aC⟩;obtain⟨a0,gM⟩:∃a,xs[0]?=aa a:=⟨_,aU ai⟩;obtain⟨r0,gN⟩:∃r,ae[0]?=aa r:=⟨_,aU ai⟩;have ld:=mf (H:=H) (s:=1) fS;have ld0:=mf (H:=H) (s:=1) gM;obtain⟨ka,sa,rfl,jj⟩:=kk.out.2.1 i a r fS hv;obtain⟨ka0,sa0,rfl,qQ⟩:=kk.out.2.1 0 a0 r0 gM gN;have cU:=kk.out.2.2.1 r (dy hv);have uH:=kk.out.2.2.1 r0 (dy gN);have cc:=Wr 218 nS H (.list ka sa (ints r)) r ⟨_,_,rfl,jj⟩ ai (λn _=>aog n H);rw[aoi (kk.out.2.2.2 r (dy hv))] at cc;have wP:(ints r).length=w:=(by rw[dE];exact cU);have Fz:(ints r0).length=w:=(by rw[dE];exact uH);have fw:(i:Int)<(ae.length:Int):=(by omega);have zA:(0:Int)<(ae.length:Int):=(by omega);have z0:(0:Int).toNat=0:=rfl;clear fS hv jj cU gM gN qQ uH;refine bQ @Jt @bp ?_;exact⟨ae.length - (i+1),by omega,i+1,by omega,rfl,by simp⟩
  ·refine bC @Jt ?_;exact⟨_,rfl,rfl⟩
def Ga:Tryz.f144.results.toList=[.tmp 4,.tmp 5,.cell 6 32]:=aw
def asN:Tryz.f177.results.toList=[]:=aw
def Kx(x)(hx:x.eH=ah):gG aq 22 1 [(0,x)]=aa (.list .tight 1 [[x]]):=by cases x<;>first|(cases hx;done)|kernel_rfl
def IL.cell{x}{l}(h:IL x l):x.eH=ah:=by obtain⟨k,s,rfl,-⟩:=h;rfl
def V2(b:Nat)(h:ar):W2.lH 177 [.ptr (.box b) 0] av h=aa (.ret (.tuple []),av,h):=by have u20:=Tryz.underlying20;refine aiW Tryz.func177 rfl ?_;exact si @asN @agj @and_self
def ajB(h:ar)(x y:AV)(ae:List (List Int))(target:List Int)(hx:RL x ae)(hy:IL y target)(hr:ae.length<=64)(hw:∀r∈ae,r.length=target.length)(oV:target.length<=64)(bB:∀r∈ae,∀x∈r,okF x)(pI:∀x∈target,okF x):
 W2.call 178 [x,y] h=aa (.ret (.tuple []),h):=by
 obtain⟨h1,c1,e1⟩:=Wa h x ae target.length hx ai hw oV bB;rw[e1] at c1;clear e1 h1;have vn:RL (.list .tight 1 [[y]]) [target]:=⟨.tight,1,[y],rfl,λ_=>rfl,rfl,λi a r ha hr=>by
  cases i with
  |zero=>simp only[List.getElem?_cons_zero] at ha hr;injection ha with ha;injection hr with hr;subst ha;subst hr;exact hy
  |succ i=>simp at ha⟩
 obtain⟨h2,c2,e2⟩:=Wa h (.list .tight 1 [[y]]) [target] target.length vn bJ bJ oV (by simpa using pI);rw[e2] at c2;clear e2 h2;have bl:=Kx y hy.cell;have n2:=LX 2;have n130:=LX 130;obtain⟨k,s,xs,rfl,hs,dR,eG⟩:=hx;obtain⟨ky,sy,rfl,lj⟩:=hy;have u23:=dY;have u22:=jf;have z23:=iA;have cY:(xs.map λa=>[a]).length=ae.length:=by rw[bF];exact dR
 have vw:=dE target;have QY:decide ((ae.length:Int)<=64)=ah:=by simp;omega
 unfold im at n2 n130;clear vn bB pI;refine cN rfl Tryz.func178 rfl ?_;by_cases h0:ae.length=0
 ·have hq:decide ((ae.length:Int)=0)=ah:=by simp[h0]
  clear hw eG h0;exact lV @abM
 ·have hq:decide ((ae.length:Int)=0)=aB:=by simp[h0]
  obtain⟨a0,gM⟩:∃a,xs[0]?=aa a:=⟨_,aU ai⟩;obtain⟨r0,gN⟩:∃r,ae[0]?=aa r:=⟨_,aU ai⟩;have bD:s=1:=hs (by intro q;rw[q] at h0;simp at h0);subst bD;have ld0:=mf (H:=h) (s:=1) gM;obtain⟨ka0,sa0,rfl,qQ⟩:=eG 0 a0 r0 gM gN;have uH:=hw r0 (dy gN);have Fz:(ints r0).length=target.length:=by rw[dE];exact uH
  have zA:(0:Int)<(ae.length:Int):=by omega
  have z0:(0:Int).toNat=0:=rfl;clear hw eG gM gN uH hs;exact jw @abM @bp
def zo:gY aq 32=aa aB:=aw
def JM:dJ aq 32=aa 1:=aw
def ac9:(iB aq 32).bind AV.cd=aa [im 0]:=aw
def Z1{H}{b}{x}(hb:H.boxes[b]?=aa [x]):aI aq Gt H 32 (.ptr (.box b) 0)=aa x:=by rw[mT zo hb];rfl
def acy{H}{b}{x}{n}(hb:H.boxes[b]?=aa [x]):cE aq H 32 (.ptr (.box b) 0) (.v (.int .i64 n))=aa (H.put b [.v (.int .i64 n)]):=fK (off:=0) (cs:=[x]) (xs:=[im n]) rfl JM hb rfl (aL 1)
def aur{b n k}(hk:k<=n):∃off,jc aq 203 (.arr b 0 n n) (aa (.v (.int .i64 (k:Nat)))) av av=aa (.arr b off (n - k) (n - k))/\(k<n->off=k):=by
 refine⟨if n=k then 0 else 0+k * 1,?_,λh=>by rw[aJ ai];omega⟩;have e1:hJ n av n=aa n:=rfl;have e3:hJ n (aa (.v (.int .i64 (k:Nat)))) 0=aa k:=by show(if 0<=(k:Int)/\(k:Int)<=(n:Int) then aa (k:Int).toNat else av)=_;rw[aH ⟨ai,by omega⟩];rfl
 unfold jc;simp only[Hl,iA,e1,e3,Option.isSome_none,yT,Bool.false_eq_true,false_and,if_false];rfl
def amG{b off len aF n}{k}(hn:n<len):dS aq 203 (.arr b off len aF) (.v (.int k (n:Nat)))=aa (.ptr (.box b) (off+n)):=by rw[FK Hl iA ai ai,dW,Nat.mul_one]
def mF(t:List (List Int))(pv:List Nat)(n j:Nat):List Int:=(pv.zipIdx.take j).foldl (λy p=>y.set p.1 (al (t.getD p.2 []) n)) (br n 0)
def Mm(t)(pv)(n j):(mF t pv n j).length=n:=by unfold mF;rw[HI (λp=>al (t.getD p.2 []) n),mX]
def abg{t}{pv}{n j p}(h:pv[j]?=aa p):(mF t pv n j).set p (al (t.getD j []) n)=mF t pv n (j+1):=by
 have hz:pv.zipIdx[j]?=aa (p,j):=by rw[adY,h];simp
 unfold mF;rw[fE hz,oI];rfl
def abf(t)(pv)(n):mF t pv n pv.length=qt (t,pv) n:=by unfold mF qt;rw[gK bJ]
def adw(ae:List (List Int))(target:List Int)(h:ar)(r:fg)(h':ar):Prop:=
 Ext h h'/\((qJ ae target=av/\r=.ret (.tuple [.list .nil 0 [],.v (.bool aB),im 0]))∨∃l b,qJ ae target=aa l/\l.length=ae.length/\r=.ret (.tuple [.arr b 0 ae.length ae.length,.v (.bool ah),im 0])/\h'.boxes[b]?=aa (l.map im))
def ail(h:ar)(x y:AV)(ae:List (List Int))(target:List Int)(hx:RL x ae)(hy:IL y target)(hr:ae.length<=64)(hw:∀r∈ae,r.length=target.length)(oV:target.length<=64)(bB:∀r∈ae,∀x∈r,okF x)(pI:∀x∈target,okF x)(ho:cK h=ah):
 ∃r h',W2.call 144 [x,y] h=aa (r,h')/\adw ae target h r h':=by
 have c1:=ajB (h.push [im 0]) x y ae target hx hy hr hw oV bB pI;obtain⟨_,H2,c2,tb,B,rfl,T2,X2,lY,gi⟩:=av6 (h.push [im 0]) x y ae target hx hy ai ai hw;obtain⟨t1,t2⟩:=TN bB pI;have tl:=TM ae target;obtain⟨_,H3,c3,tk,s3,B3,rfl,rF,T3,K8,G3⟩:=aqm H2 tb B (gm ae target) (ae.length+1) ae.length T2 ai ai ai t2 (X2.ok ho);have jy:=aqn (many:=ae.length) t1 t2 ai;obtain⟨R,V⟩:=Jc t1 t2 (ai:ae.length<=ae.length+1);rw[jy] at rF T3 c3;rw[tl] at c3;have e1:qJ ae target=if ((ju (gm ae target) ae.length).1.drop (ju (gm ae target) ae.length).2.length).all (λa=>decide (al a ae.length=0)) then aa (qt (ju (gm ae target) ae.length) ae.length) else av:=rfl
 have Ij:(ju (gm ae target) ae.length).1.length=target.length:=by have:=(abk t1 t2 ae.length ai).2.1;rw[<-abj,jy] at this;omega
 have X3:Ext (h.push [im 0]) H3:=X2.RR (G3.mu.uW X2.tn) (λb hb=>by
  rcases iU.1 hb with q|q
  ·rw[q];exact lY
  ·exact gi b q)
 have b0:H3.boxes[h.boxes.length]?=aa [im 0]:=X3.box _ _ (bg _ _);have X0:Ext h H3:=(Ext.push h [im 0]).trans X3;obtain⟨k,s,xs,rfl,hs,dR,eG⟩:=hx;obtain⟨ky,sy,rfl,lj⟩:=hy;have cY:(xs.map λa=>[a]).length=ae.length:=by rw[bF];exact dR
 have axF:=V.len;generalize bT:ju (gm ae target) ae.length=st at *
 obtain⟨t',pv⟩:=st;dsimp only at *
 have yn:=Rm pv;have kk:=ao.mk (az T3 (az V (az e1 (az X0 (az b0 rF)))));clear T2 X2 lY gi t1 t2 tl jy R V e1 K8 G3 X3 b0 X0 T3 hs dR eG lj bT rF bB pI hw ho;have u23:=dY;have u22:=jf;have u203:=Hl;have z23:=iA;have z32:=ac9;obtain⟨off,nR,Bt⟩:=aur (b:=tb) (ai:pv.length<=target.length);have khoff:=ao.mk Bt;clear Bt;unfold im at *
 refine di rfl Tryz.func144 rfl ?_;refine bC @Ga ?_;refine bM.gen λe0 aG bE cZ cV=>?_;have f6:e0.get 6=.ptr (.box h.boxes.length) 0:=by rw[aG];exact gS
 have f7:e0.get 7=.v (.int .i64 (ae.length:Nat)):=by rw[aG];exact gS
 have f8:e0.get 8=.arr tb 0 target.length target.length:=by rw[aG];exact gS
 have f9:e0.get 9=.list tk s3 (ints (bW pv)):=by rw[aG];exact gS
 have f28:e0.get 28=.arr tb off (target.length - pv.length) (target.length - pv.length):=by rw[aG];exact gS
 have f29:e0.get 29=.v (.int .i64 ((target.length - pv.length:Nat):Int)):=by rw[aG];exact gS
 have f30:e0.get 30=.v (.int .i64 (0:Nat)):=by rw[aG];exact gR
 have fd:e0.defers=[(177,[.ptr (.box h.boxes.length) 0])]:=by rw[bE];exact gS
 have fp:e0.dg=av:=by rw[cZ];exact gS
 clear aG bE cZ cV c1 c2 c3 nR;refine cH (λm e H=>∃j:Nat,j<=target.length - pv.length/\m=target.length - pv.length - j/\ao (∀i,i<j->∀a,t'[pv.length+i]?=aa a->al a ae.length=0)/\e.get 6=.ptr (.box h.boxes.length) 0/\e.get 7=.v (.int .i64 (ae.length:Nat))/\e.get 8=.arr tb 0 target.length target.length/\e.get 9=.list tk s3 (ints (bW pv))/\e.get 28=.arr tb off (target.length - pv.length) (target.length - pv.length)/\e.get 29=.v (.int .i64 ((target.length - pv.length:Nat):Int))/\e.get 30=.v (.int .i64 (j:Nat))/\e.defers=[(177,[.ptr (.box h.boxes.length) 0])]/\e.dg=av/\H=H3) ?_ (target.length - pv.length) _ _ ?_;rotate_left 1
 ·exact⟨0,cD _,rfl,⟨λi hi=>absurd hi (ud _)⟩,f6,f7,f8,f9,f28,f29,f30,fd,fp,rfl⟩
 clear f6 f7 f8 f9 f28 f29 f30 fd fp;rintro m e H3 ⟨j,hj,rfl,kz,g6,g7,g8,g9,g28,g29,g30,hd,hp,rfl⟩;obtain⟨T3,V,e1,X0,b0,rF⟩:=kk.out;have s6:=λn=>acy (n:=n) b0;by_cases aC:j<target.length - pv.length
 ·obtain⟨a,ha⟩:∃a,t'[pv.length+j]?=aa a:=⟨_,aU ai⟩;obtain⟨b,hb⟩:∃b,B3[pv.length+j]?=aa b:=⟨_,aU (by rw[T3.len];omega)⟩;have wa:=T3.wid a (dy ha);have yg:(B3.map λb=>AV.arr b 0 (ae.length+1) (ae.length+1))[off+j]?=aa (.arr b 0 (ae.length+1) (ae.length+1)):=by rw[khoff.out ai,ey,hb];rfl
  have m1:=tN T3.ir yg;have m2:=Aa (T3.row _ _ _ hb ha) (yz (k:=ae.length) ai);have ix1:=amG (b:=tb) (off:=off) (aF:=target.length - pv.length) (k:=.i64) aC;have ix2:=rH (b:=b) (len:=ae.length+1) (aF:=ae.length+1) (k:=.i64) (ai:ae.length<ae.length+1);have fw:(j:Int)<((target.length - pv.length:Nat):Int):=by omega
  by_cases hz:al a ae.length=0
  ·have kz2:ao (∀i,i<j+1->∀a,t'[pv.length+i]?=aa a->al a ae.length=0):=⟨λi hi a' nN=>by
    rcases ez i j with q|q
    ·exact kz.out i q a' nN
    ·rw[(ai:i=j),ha] at nN;injection nN with nN;rw[<-nN];exact hz⟩
   rw[hz] at m2;unfold im at *
   clear T3 V e1 X0 b0 rF s6 ha hb wa yg hz kz;refine bC @Ga ?_;exact⟨target.length - pv.length - (j+1),by omega,j+1,by omega,rfl,kz2,by simp⟩
  ·have e2:qJ ae target=av:=(by rw[e1,aJ];intro q;rw[eK] at q;have:=q a (dy (i:=j) (by rw[pX];exact ha));exact hz (of_decide_eq_true this));have ke:=ao.mk e2;have kX:=ao.mk X0;have kb:=ao.mk b0;have l6:∀n,aI aq Gt (H3.put h.boxes.length [.v (.int .i64 n)]) 32 (.ptr (.box h.boxes.length) 0)=aa (.v (.int .i64 n)):=λn=>Z1 (eO (aW.1 b0).1);unfold im at *
   clear T3 V e1 X0 b0 rF ha hb wa yg kz e2
   repeat' (first|simp(maxSteps:=999999)(disch:=first|exact dZ|fail)only[gW,reduceIte,aS,aO,Ga,TQ (V2 _ _), *]|refine dX ?_ ?_<;>(intro _;try omega))
   exact⟨_,_,rfl,kX.out.fZ (aL _) _,.inl ⟨ke.out,rfl⟩⟩
 ·have ou:j=target.length - pv.length:=by omega
  subst ou;have e2:qJ ae target=aa (qt (t',pv) ae.length):=by rw[e1,aH];rw[eK];intro a ha;obtain⟨i,hi⟩:=vd ha;rw[pX] at hi;have cY:=(aW.1 hi).1;exact b8 (kz.out i ai a hi)
  rw[<-abf] at e2;have ke:=ao.mk e2;have mk:=BH H3 ae.length ai .i64 .i64;have oS:br ae.length (im 0)=(mF t' pv ae.length 0).map im:=by unfold mF;rw[gF,GR,y9]
  rw[oS] at mk;clear e1 e2 oS kz b0 s6 X0 T3 V rF;unfold im at mk;refine bC @Ga ?_;refine bM.gen λe0 aG bE cZ cV=>?_;have f4:e0.get 4=.arr H3.boxes.length 0 ae.length ae.length:=by rw[aG];exact gS
  have f6:e0.get 6=.ptr (.box h.boxes.length) 0:=by rw[aG];simp only[gW,reduceIte,aS,aO];exact g6
  have f7:e0.get 7=.v (.int .i64 (ae.length:Nat)):=by rw[aG];simp only[gW,reduceIte,aS,aO];exact g7
  have f8:e0.get 8=.arr tb 0 target.length target.length:=by rw[aG];simp only[gW,reduceIte,aS,aO];exact g8
  have f42:e0.get 42=.list tk s3 (ints (bW pv)):=by rw[aG];exact gS
  have f43:e0.get 43=.v (.int .i64 (pv.length:Nat)):=by rw[aG];exact gS
  have f44:e0.get 44=.v (.int .i64 (0:Nat)):=by rw[aG];exact gR
  have fd:e0.defers=[(177,[.ptr (.box h.boxes.length) 0])]:=by rw[bE];simp only[gW,reduceIte,aS,aO];exact hd
  have fp:e0.dg=av:=by rw[cZ];simp only[gW,reduceIte,aS,aO];exact hp
  clear aG bE cZ cV g6 g7 g8 g9 g28 g29 g30 hd hp mk;refine cH (λm e H=>∃j:Nat,j<=pv.length/\m=pv.length - j/\e.get 4=.arr H3.boxes.length 0 ae.length ae.length/\e.get 6=.ptr (.box h.boxes.length) 0/\e.get 7=.v (.int .i64 (ae.length:Nat))/\e.get 8=.arr tb 0 target.length target.length/\e.get 42=.list tk s3 (ints (bW pv))/\e.get 43=.v (.int .i64 (pv.length:Nat))/\e.get 44=.v (.int .i64 (j:Nat))/\e.defers=[(177,[.ptr (.box h.boxes.length) 0])]/\e.dg=av/\H=H3.push ((mF t' pv ae.length j).map im)) ?_ pv.length _ _ ?_;rotate_left 1
  ·exact⟨0,cD _,rfl,f4,f6,f7,f8,f42,f43,f44,fd,fp,rfl⟩
  clear f4 f6 f7 f8 f42 f43 f44 fd fp;rintro m e H ⟨j,hj,rfl,g4,g6,g7,g8,g42,g43,g44,hd,hp,rfl⟩;obtain⟨T3,V,-,X0,b0,rF⟩:=kk.out;by_cases aC:j<pv.length
  ·obtain⟨p,eV⟩:∃p,pv[j]?=aa p:=⟨_,aU aC⟩;have zL:=V.lt j p eV;have bD:s3=1:=by
    rcases rF with q|⟨q,-⟩
    ·exact q
    ·exfalso;unfold bW at q;rw[GW] at q;rw[q] at aC;exact ud _ aC
   subst bD;obtain⟨a,ha⟩:∃a,t'[j]?=aa a:=⟨_,aU ai⟩;obtain⟨b,hb⟩:∃b,B3[j]?=aa b:=⟨_,aU (by rw[T3.len];omega)⟩;have wa:=T3.wid a (dy ha);have yg:(B3.map λb=>AV.arr b 0 (ae.length+1) (ae.length+1))[j]?=aa (.arr b 0 (ae.length+1) (ae.length+1)):=(by rw[ey,hb];rfl);have QN:al (bW pv) j=(p:Int):=(by have:(bW pv)[j]?=aa (p:Int):=(by unfold bW;rw[ey,eV];rfl);unfold al;rw[eE,this];rfl);have l0:=ev (H:=H3.push ((mF t' pv ae.length j).map im)) (l:=bW pv) (i:=j) (s:=1) (by unfold bW;rw[bF];exact aC);rw[QN] at l0;have m1:=tN (H:=H3.push ((mF t' pv ae.length j).map im)) (bh T3.ir) yg;have m2:=Aa (H:=H3.push ((mF t' pv ae.length j).map im)) (bh (T3.row _ _ _ hb ha)) (yz (k:=ae.length) ai);have ix1:=FM (b:=tb) (len:=target.length) (aF:=target.length) (k:=.i64) (ai:j<target.length);have ix2:=rH (b:=b) (len:=ae.length+1) (aF:=ae.length+1) (k:=.i64) (ai:ae.length<ae.length+1);have ix3:=rH (b:=H3.boxes.length) (len:=ae.length) (aF:=ae.length) (k:=.i64) zL;have sk:=Ak (H:=H3.push ((mF t' pv ae.length j).map im)) (b:=H3.boxes.length) (r:=mF t' pv ae.length j) (k:=p) (x:=al a ae.length) (bg _ _) (by rw[Mm];exact zL);have gD:t'.getD j []=a:=(by rw[eE,ha];rfl);rw[qs,<-gD,abg eV,gD] at sk;have fw:(j:Int)<(pv.length:Int):=(by omega);have z3:=fR;unfold im at *
   clear T3 V X0 b0 rF ha hb wa yg gD QN eV kk ke;refine bQ @Ga @bp ?_;exact⟨pv.length - (j+1),by omega,j+1,by omega,rfl,by simp⟩
  ·have ou:j=pv.length:=(by omega);subst ou;have b1:(H3.push ((mF t' pv ae.length pv.length).map im)).boxes[h.boxes.length]?=aa [im 0]:=bh b0;have s6:=λn=>acy (n:=n) b1;have QA:=(aW.1 b1).1;have l6:∀n,aI aq Gt ((H3.push ((mF t' pv ae.length pv.length).map im)).put h.boxes.length [.v (.int .i64 n)]) 32 (.ptr (.box h.boxes.length) 0)=aa (.v (.int .i64 n)):=λn=>Z1 (eO QA);have bG:H3.boxes.length≠h.boxes.length:=(by have:=(aW.1 b0).1;omega);have kX:=ao.mk X0;clear T3 V X0 b0 b1 rF QA
   repeat' (first|simp(maxSteps:=999999)(disch:=first|exact dZ|fail)only[gW,reduceIte,aS,aO,Ga,TQ (V2 _ _), *]|refine dX ?_ ?_<;>(intro _;try omega))
   exact⟨_,_,rfl,(kX.out.trans (.push _ _)).fZ (aL _) _,.inr ⟨_,_,ke.out,Mm _ _ _ _,rfl,(dh bG).trans (bg _ _)⟩⟩
def abH:Tryz.f154.results.toList=[.tmp 6]:=aw
def asF:Tryz.f155.results.toList=[.tmp 2]:=aw
def asC:Tryz.f151.results.toList=[.tmp 2]:=aw
def asE:Tryz.f153.results.toList=[.tmp 2]:=aw
def yI:Tryz.f97.results.toList=[.tmp 2]:=aw
def ac4(n a b)(h):W2.call 154 [im n,im a,im b] h=aa (.ret (.v (.bool (decide (a<=n)&&decide (n<=b)))),h):=by
 unfold im;by_cases h0:a<=n
 ·have:decide (a<=n)=ah:=by simp[h0]
  refine cN rfl aeH rfl ?_;exact jw @abH @Bool.true_and
 ·have:decide (a<=n)=aB:=by simp[h0]
  refine cN rfl aeH rfl ?_;exact jw @abH @yT
def xc(n:Int):Bool:=decide (0<=n)&&decide (n<=63)
def aaU(n)(h):W2.call 155 [im n] h=aa (.ret (.v (.bool (xc n))),h):=by
 have w:=ac4 n 0 63 h;unfold xc;unfold im at *
 refine cN rfl Tryz.func155 rfl ?_;exact lV @asF
def ans(a)(r)(ha:IL a r)(h):W2.call 151 [a] h=aa (.ret (.v (.bool (decide (64<r.length)))),h):=by
 obtain⟨k,s,rfl,-⟩:=ha;have u23:=dY;have hl:=dE r;have hd:decide (64<r.length)=decide ((64:Int)<(r.length:Int)):=by rw[decide_eq_decide];omega
 rw[hd];refine cN rfl Tryz.func151 rfl ?_;exact lV @asC
def aoe(n)(h):W2.call 153 [im n] h=aa (.ret (.v (.bool (!cA n))),h):=by
 have w:=ac4 n 0 1073741788 h;have e:cA n=(decide (0<=n)&&decide (n<=1073741788)):=by unfold cA Qi;congr 1;rw[decide_eq_decide];omega
 rw[e];unfold im at *
 refine cN rfl Tryz.func153 rfl ?_;exact lV @asE
def Oz:gY aq 22=aa aB:=aw
def xL:gY aq 25=aa ah:=aw
def dK{b}:gH aq 25 (.ptr (.box b) 0) 0=aa (.ptr (.box b) 0):=aw
def eQ{b}:gH aq 25 (.ptr (.box b) 0) 1=aa (.ptr (.box b) 1):=aw
def qS{H}{b}{x y}(hb:H.boxes[b]?=aa [x,y]):aI aq Gt H 22 (.ptr (.box b) 0)=aa x:=by rw[mT Oz hb];rfl
def DC{H}{b}{x y}(hb:H.boxes[b]?=aa [x,y]):aI aq Gt H 23 (.ptr (.box b) 1)=aa y:=by rw[mT mj hb];rfl
def uk(ae:List (List Int))(ag:List Int)(i:Nat):Bool:= !(ae.getD i []).isEmpty&&decide ((ae.getD i []).length=(ae.getD 0 []).length)&&(decide (0<=al ag i)&&decide (al ag i<=63))&&(ae.getD i []).all cA
def Wf(h:ar)(x y:AV)(ae:List (List Int))(ag:List Int)(hx:RL x ae)(hy:IL y ag):
 ∃h',W2.call 97 [.agg [x,y]] h=aa (.ret (.v (.int .i64 (de ae ag))),h')/\h'=h.push [x,y]:=by
 have c1:=λ(hl:ae.length<=64)=>ait 151 (λr=>decide (64<r.length)) (h.push [x,y]) x ae hx ai (λa r _ ha=>ans a r ha _);obtain⟨k,s,xs,rfl,hs,dR,eG⟩:=hx;obtain⟨ky,sy,rfl,lj⟩:=hy;have kk:=ao.mk (az hs (az eG lj));clear hs eG lj;have u23:=dY;have u22:=jf;have z23:=iA;have z3:=fR;have cY:(xs.map λa=>[a]).length=ae.length:=by rw[bF];exact dR
 have oP:=dE ag;have b0:(h.push [.list k s (xs.map λa=>[a]),.list ky sy (ints ag)]).boxes[h.boxes.length]?=aa [.list k s (xs.map λa=>[a]),.list ky sy (ints ag)]:=bg _ _;have l0:=qS b0;have l1:=DC b0;have bx:(AV.agg [.list k s (xs.map λa=>[a]),.list ky sy (ints ag)]).cd=aa [.list k s (xs.map λa=>[a]),.list ky sy (ints ag)]:=rfl;clear b0;unfold de;refine iD rfl Tryz.func97 rfl ?_;by_cases h1:64<ae.length
 ·have hq:decide ((64:Int)<(ae.length:Int))=ah:=by simp;omega
  rw[aH (by simp[h1])];clear c1;generalize hH:h.push [.list k s (xs.map λa=>[a]),.list ky sy (ints ag)]=H at *
  refine bK @yI @dK @eQ (az @bu @hH) ?_;exact⟨_,rfl,rfl⟩
 have hq:decide ((64:Int)<(ae.length:Int))=aB:=by simp;omega
 have c2:=c1 ai;have eM:decide (64<ae.length)=aB:=by simp[h1]
 rw[eM,adr];clear c1 eM;cases h2:ae.any λr=>decide (64<r.length) with
 |true=>rw[h2] at c2;rw[aH rfl];clear h2;refine bK @yI @dK @eQ @bu ?_;exact⟨_,rfl,rfl⟩|false=>
  rw[h2] at c2;rw[aJ bJ];by_cases h3:ae.length=ag.length;rotate_left 1
  ·rw[aH h3];clear h2;have hn:¬((ae.length:Int)=(ag.length:Int)):=(by omega);refine bK @yI @dK @eQ @bu ?_;exact⟨_,rfl,rfl⟩
  rw[aJ (by simpa using h3)];have yb:=ao.mk h2;have hn:(ae.length:Int)=(ag.length:Int):=by omega
  have kn:=ao.mk h3;clear h2 h3;obtain⟨H,hH⟩:∃H,h.push [.list k s (xs.map λa=>[a]),.list ky sy (ints ag)]=H:=⟨_,rfl⟩;rw[hH] at l0 l1 c2;rw[hH];generalize iH:(if ((bO ae.length).all λi=> !(ae.getD i []).isEmpty&&decide ((ae.getD i []).length=(ae.getD 0 []).length)&&(decide (0<=al ag i)&&decide (al ag i<=63))&&(ae.getD i []).all cA)=ah then (0:Int) else 230)=res;have kres:ao (res=if ((bO ae.length).all (uk ae ag))=ah then (0:Int) else 230):=⟨iH.symm⟩;have kH:=ao.mk hH;clear iH hn;have eX:ae.length<=64:=by omega
  have Fs:(ag.length:Int)=(ae.length:Int):=by have:=kn.out;omega
  refine bK @yI @dK @eQ (az @bu @hH) ?_;refine bM.gen λe0 aG bE cZ cV=>?_;have f1:e0.get 1=.ptr (.box h.boxes.length) 0:=by rw[aG];exact gS
  have f25:e0.get 25=.list k s (xs.map λa=>[a]):=by rw[aG];exact gS
  have f26:e0.get 26=.v (.int .i64 (ae.length:Nat)):=by rw[aG];exact gS
  have f27:e0.get 27=.v (.int .i64 (0:Nat)):=by rw[aG];exact gR
  have fd:e0.defers=[]:=by rw[bE];exact gS
  clear aG bE cZ cV hH bx c2 hq h1;refine cH (λm e H2=>∃i:Nat,i<=ae.length/\m=ae.length - i/\ao (∀j,j<i->uk ae ag j=ah)/\e.get 1=.ptr (.box h.boxes.length) 0/\e.get 25=.list k s (xs.map λa=>[a])/\e.get 26=.v (.int .i64 (ae.length:Nat))/\e.get 27=.v (.int .i64 (i:Nat))/\e.defers=[]/\H2=H) ?_ ae.length _ _ ?_;rotate_left 1
  ·exact⟨0,cD _,rfl,⟨λj hj=>absurd hj (ud _)⟩,f1,f25,f26,f27,fd,rfl⟩
  clear f1 f25 f26 f27 fd;rintro m e H2 ⟨i,hi,rfl,kf,g1,g25,g26,g27,hd,XR⟩;rw[<-XR] at l0 l1 kH ⊢;clear XR;by_cases aC:i<ae.length;rotate_left 1
  ·have gx:i=ae.length:=(by omega);subst gx;have h0:res=0:=(by rw[kres.out,aH];rw[eK];intro j hj;exact kf.out j (gf.1 hj));have k0:=ao.mk h0;clear h0;refine bC @yI ?_;exact⟨_,by rw[k0.out],rfl⟩
  have bD:s=1:=kk.out.1 (by intro q;rw[q] at aC;simp at aC);subst bD;have nQ:sy=1:=kk.out.2.2 (by intro q;have h0:=kn.out;rw[q,lP] at h0;omega);subst nQ;obtain⟨a,fS⟩:∃a,xs[i]?=aa a:=⟨_,aU ai⟩;obtain⟨r,hv⟩:∃r,ae[i]?=aa r:=⟨_,aU aC⟩;obtain⟨a0,gM⟩:∃a,xs[0]?=aa a:=⟨_,aU ai⟩;obtain⟨r0,gN⟩:∃r,ae[0]?=aa r:=⟨_,aU ai⟩;have ld:=mf (H:=H2) (s:=1) fS;have ld0:=mf (H:=H2) (s:=1) gM;have vw:=kk.out.2.1 i a r fS hv;obtain⟨ka,sa,rfl,jj⟩:=vw;obtain⟨ka0,sa0,rfl,qQ⟩:=kk.out.2.1 0 a0 r0 gM gN;have cU:=dE r;have uH:=dE r0;have ldo:=ev (H:=H2) (l:=ag) (i:=i) (s:=1) (by have:=kn.out;omega);have Yi:r.length<=64:=by have:=yb.out;rw[adM] at this;have:=this r (dy hv);simpa using this
  have cc:=Wr 153 (λn=> !cA n) H2 (.list ka sa (ints r)) r ⟨_,_,rfl,jj⟩ ai (λn _=>aoe n H2);have cp:=aaU (al ag i) H2;have yj:uk ae ag i=(!r.isEmpty&&decide (r.length=r0.length)&&xc (al ag i)&&r.all cA):=by unfold uk xc;have g1:ae.getD i []=r:=(by rw[eE,hv];rfl);have g2:ae.getD 0 []=r0:=(by rw[eE,gN];rfl);rw[g1,g2]
  have lX:(r.any λn=> !cA n)= !(r.all cA):=by rw[List.any_eq_not_all_not];simp
  rw[lX] at cc;have fI:=ao.mk yj;have bad:uk ae ag i=aB->res=230:=by intro q;rw[kres.out,aJ];intro z;rw[eK] at z;have:=z i (gf.2 aC);rw[q] at this;cases this
  have kbad:=ao.mk bad;have fw:(i:Int)<(ae.length:Int):=by omega
  have zA:(0:Int)<(ae.length:Int):=by omega
  have z0:(0:Int).toNat=0:=rfl;clear yj bad lX Yi fS hv jj gM gN qQ;unfold im at *
  generalize al ag i=o at *
  by_cases e1:r.length=0
  ·have qj:decide ((r.length:Int)=0)=ah:=(by simp[e1]);have hb:res=230:=kbad.out (by rw[fI.out,List.length_eq_zero_iff.1 e1];rfl);have kb:=ao.mk hb;clear hb e1 cc cp;refine bK @yI @dK @eQ @bp ?_;exact⟨_,by rw[kb.out],rfl⟩
  have qj:decide ((r.length:Int)=0)=aB:=by simp[e1]
  have pE:r.isEmpty=aB:=by cases r with|nil=>exact absurd rfl e1|cons _ _=>rfl
  by_cases e2:r.length=r0.length;rotate_left 1
  ·have oR:decide ((r.length:Int)=(r0.length:Int))=aB:=(by simp;omega);have hb:res=230:=kbad.out (by rw[fI.out,pE,cS e2];rfl);have kb:=ao.mk hb;clear hb e1 e2 pE cc cp;refine bK @yI @dK @eQ @bp ?_;exact⟨_,by rw[kb.out],rfl⟩
  have oR:decide ((r.length:Int)=(r0.length:Int))=ah:=by simp;omega
  cases e3:xc o with
  |false=>have hb:res=230:=kbad.out (by rw[fI.out,e3];simp);have kb:=ao.mk hb;rw[e3] at cp;clear hb e1 e2 pE cc e3;refine bK @yI @dK @eQ @bp ?_;exact⟨_,by rw[kb.out],rfl⟩
  |true=>
   rw[e3] at cp;cases e4:r.all cA with
   |false=>have hb:res=230:=kbad.out (by rw[fI.out,e4];simp);have kb:=ao.mk hb;rw[e4] at cc;clear hb e1 e2 pE e3 e4;refine bK @yI @dK @eQ @bp ?_;exact⟨_,by rw[kb.out],rfl⟩
   |true=>
    rw[e4] at cc;have kf2:ao (∀j,j<i+1->uk ae ag j=ah):=⟨λj hj=>by
     rcases ez j i with q|q
     ·exact kf.out j q
     ·rw[(ai:j=i),fI.out,pE,b8 e2,e3,e4];rfl⟩
    clear e1 e2 pE e3 e4 fI kf;refine bK @yI @dK @eQ @bp ?_;exact⟨ae.length - (i+1),by omega,i+1,by omega,rfl,kf2,by simp⟩
def Gf:Tryz.f198.results.toList=[.tmp 4,.tmp 5]:=aw
def asV:Tryz.f216.results.toList=[.tmp 4]:=aw
def asW:Tryz.f217.results.toList=[.tmp 2]:=aw
def asZ:Tryz.f226.results.toList=[.tmp 2]:=aw
def aas(n)(h):W2.call 226 [im n] h=aa (.ret (.v (.bool aB)),h):=by
 unfold im;refine cN rfl Tryz.func226 rfl ?_
 repeat' (first|simp(maxSteps:=999999)(disch:=first|exact dZ|fail)only[gW,reduceIte,aS,aO,asZ,ne_eq,not_true_eq_false,decide_false, *]|refine dX ?_ ?_<;>(intro _;try omega))
def anX(n)(h):W2.call 217 [im n] h=aa (.ret (.v (.bool aB)),h):=by
 unfold im;refine cN rfl Tryz.func217 rfl ?_
 repeat' (first|simp(maxSteps:=999999)(disch:=first|exact dZ|fail)only[gW,reduceIte,aS,aO,asW,ne_eq,not_true_eq_false,decide_false, *]|refine dX ?_ ?_<;>(intro _;try omega))
def anb(a b)(h):W2.call 216 [im a,im b] h=aa (.ret (.v (.bool (decide (a<b)))),h):=by
 have n1:=aas a h;have n2:=aas b h;unfold im at *
 refine cN rfl Tryz.func216 rfl ?_;exact lV @asV
def Wv(n)(h):oa aq h 179 3 (.v (.int .u64 n))=aa (.v (.int .i64 (IntKind.i64.wrap n)),h):=aw
def acd{t}{x y}{n}:dn aq .shr t x y (.v (.int .u64 (n:Nat))) (.v (.int .u64 1))=aa (.v (.int .u64 ((n/2:Nat):Int))):=by rw[Cr aZ];congr 3;show((n:Nat):Int).fdiv (2^1)=_;rw[Int.fdiv_eq_ediv_of_nonneg _ aZ];simp
def awJ{n}(h:n<18446744073709551616):IntKind.u64.wrap (n:Nat)=(n:Nat):=by show((n:Nat):Int).emod 18446744073709551616=_;exact Int.emod_eq_of_lt ai ai
def JU(au:List Int):Prop:=∀i j:Nat,i<j->j<au.length->al au i<al au j
def Ht{l}{i}(h:i<l.length):al l i∈l:=by rw[fB h];exact iK h
def aam{l}{x}(h:x∈l):∃i,i<l.length/\al l i=x:=by obtain⟨i,hi,rfl⟩:=adZ h;exact⟨i,hi,fB hi⟩
def atW(h:ar)(x:AV)(au:List Int)(o:Int)(hx:IL x au)(hs:JU au)(hl:au.length<=1000000):
 ∃r h',W2.call 198 [x,im o] h=aa (r,h')/\h'=h/\∃i:Int,r=.ret (.tuple [im i,.v (.bool (au.contains o))]):=by
 obtain⟨k,s,rfl,dP⟩:=hx;have kk:=ao.mk (az dP hs);clear dP hs;have u23:=dY;have z3:=fR;have cY:=dE au;have jF:=λn=>anX n h;unfold im at *
 refine di rfl Tryz.func198 rfl ?_;refine bC @Gf ?_;refine bM.gen λe0 aG bE cZ cV=>?_;have f0:e0.get 0=.list k s (ints au):=by rw[aG];exact gS
 have f1:e0.get 1=.v (.int .i64 o):=by rw[aG];exact gS
 have f6:e0.get 6=.v (.int .i64 (au.length:Nat)):=by rw[aG];exact gS
 have f7:e0.get 7=.v (.int .i64 (0:Nat)):=by rw[aG];exact gR
 have f8:e0.get 8=.v (.int .i64 (au.length:Nat)):=by rw[aG];exact gS
 have fd:e0.defers=[]:=by rw[bE];exact gS
 clear aG bE cZ cV;refine cH (λm e H=>∃lo hi:Nat,lo<=hi/\hi<=au.length/\m=hi - lo/\ao ((∀j,j<lo->al au j<o)/\∀j,hi<=j->j<au.length->o<=al au j)/\e.get 0=.list k s (ints au)/\e.get 1=.v (.int .i64 o)/\e.get 6=.v (.int .i64 (au.length:Nat))/\e.get 7=.v (.int .i64 (lo:Nat))/\e.get 8=.v (.int .i64 (hi:Nat))/\e.defers=[]/\H=h) ?_ au.length _ _ ?_;rotate_left 1
 ·exact⟨0,au.length,cD _,aL _,rfl,⟨λj hj=>absurd hj (ud _),λj h1 h2=>by omega⟩,f0,f1,f6,f7,f8,fd,rfl⟩
 clear f0 f1 f6 f7 f8 fd;rintro m e H ⟨lo,hi,h1,h2,rfl,kI,g0,g1,g6,g7,g8,hd,rfl⟩;by_cases aC:lo<hi
 ·have bD:s=1:=kk.out.1 (by intro q;rw[q,lP] at h2;omega);subst bD;obtain⟨md,De⟩:∃md:Nat,(lo+hi)/2=md:=⟨_,rfl⟩;have ld:=ev (H:=H) (l:=au) (i:=md) (s:=1) ai;have ls:=anb (al au md) o H;have fw:(lo:Int)<(hi:Int):=by omega
  have Bd:(lo:Int)+(hi:Int)=((lo+hi:Nat):Int):=by omega
  have hw1:IntKind.u64.wrap ((lo+hi:Nat):Int)=((lo+hi:Nat):Int):=awJ ai;have oV:IntKind.i64.wrap (((lo+hi)/2:Nat):Int)=((md:Nat):Int):=by rw[De];exact gh ai ai
  have axy:(md:Int)<(au.length:Int):=by omega
  unfold im at ls;by_cases hc:al au md<o
  ·have Ia:decide (al au md<o)=ah:=(by simp[hc]);rw[Ia] at ls;have kI2:ao ((∀j,j<md+1->al au j<o)/\∀j,hi<=j->j<au.length->o<=al au j):=⟨λj hj=>by
    rcases ez j md with q|q
    ·exact adC (kk.out.2 j md q ai) hc
    ·rw[(ai:j=md)];exact hc,kI.out.2⟩
   have khm:=ao.mk De;clear hc Ia De;refine bK @Gf @bp @vk (az @Wv @acd) ?_;have:=khm.out;exact⟨hi - (md+1),by omega,md+1,hi,by omega,h2,rfl,kI2,aY,aY,aY,by simp,rfl,aY,aY⟩
  ·have Ia:decide (al au md<o)=aB:=(by simp[hc]);rw[Ia] at ls;have kI2:ao ((∀j,j<lo->al au j<o)/\∀j,md<=j->j<au.length->o<=al au j):=⟨kI.out.1,λj hj YI=>by
    rcases ez md j with q|q
    ·have:=kk.out.2 md j q YI;omega
    ·rw[(ai:j=md)];omega⟩
   have khm:=ao.mk De;clear hc Ia De;refine bK @Gf @bp @vk (az @Wv @acd) ?_;have:=khm.out;exact⟨md - lo,by omega,lo,md,by omega,by omega,rfl,kI2,aY,aY,aY,rfl,by simp,aY,aY⟩
 ·have eX:lo=hi:=by omega
  subst eX;have jq:∀j,j<au.length->al au j=o->j=lo:=by
   intro j hj he;rcases Nat.lt_trichotomy j lo with q|q|q
   ·have:=kI.out.1 j q;omega
   ·exact q
   ·have h3:=kk.out.2 lo j q hj;have h4:=kI.out.2 lo (aL _) ai;omega
  by_cases iO:lo<au.length
  ·have bD:s=1:=kk.out.1 (by intro q;rw[q,lP] at iO;omega);subst bD;have ld:=ev (H:=H) (l:=au) (i:=lo) (s:=1) iO;have fw:(lo:Int)<(au.length:Int):=(by omega);have hdI:decide ((lo:Int)<(au.length:Int))=ah:=(by simp[iO]);by_cases hv:al au lo=o
   ·have hc:au.contains o=ah:=(by rw[Et,b8 (by rw[<-hv];exact Ht iO)]);have kc:=ao.mk hc;have eM:decide (al au lo=o)=ah:=(by simp[hv]);clear hc hv jq;refine bQ @Gf @bp ?_;exact⟨_,_,rfl,rfl,_,by rw[kc.out]⟩
   ·have hc:au.contains o=aB:=(by rw[Et,cS];intro q;obtain⟨j,j1,j2⟩:=aam q;have:=jq j j1 j2;subst this;exact hv j2);have kc:=ao.mk hc;have eM:decide (al au lo=o)=aB:=(by simp[hv]);clear hc hv jq;refine bQ @Gf @bp ?_;exact⟨_,_,rfl,rfl,_,by rw[kc.out]⟩
  ·have hc:au.contains o=aB:=(by rw[Et,cS];intro q;obtain⟨j,j1,j2⟩:=aam q;have:=jq j j1 j2;omega);have kc:=ao.mk hc;have eX:lo=au.length:=(by omega);subst eX;have hdI:decide ((au.length:Int)<(au.length:Int))=aB:=(by simp);clear hc jq;refine bQ @Gf @bp ?_;exact⟨_,_,rfl,rfl,_,by rw[kc.out]⟩
def asM:Tryz.f176.results.toList=[.tmp 4]:=aw
def Ge:Tryz.f197.results.toList=[]:=aw
def aoA(h:ar)(x y z:AV)(bx:(AV.agg [x,y]).cd=aa [x,y])(hz:z.cd=aa [z]):W2.call 176 [.agg [x,y],z] h=aa (.ret (.func (.func 197) [] [.ptr (.box h.boxes.length) 0,.ptr (.box (h.boxes.length+1)) 0]),(h.push [x,y]).push [z]):=by refine cN rfl Tryz.func176 rfl ?_;exact si @asM @bu @cR
def aoB(l pb wb:Nat)(k0:Tok)(s0:Nat)(xs:List AV)(y z:AV)(ae:List (List Int))(ag au:List Int)(Inv:Nat->ar->Prop)
 (hy:IL y ag) (hz:IL z au) (dR:xs.length=ae.length) (oP:ag.length=ae.length) (wQ:ae≠[]->s0=1) (HT:JU au) (jG:au.length<=1000000) (cU:ae.length<=1000000)
 (h1:∀k H,Inv k H->H.boxes[pb]?=aa [.list k0 s0 (xs.map λa=>[a]),y]/\H.boxes[wb]?=aa [z])
 (hR:∀k a H,k<ae.length->xs[k]?=aa a->au.contains (al ag k)=ah->Inv k H->∃H',W2.round l [im (k:Nat),a] H=aa (.ret (.v (.bool ah)),H')/\Inv (k+1) H')
 (hS:∀k H,k<ae.length->au.contains (al ag k)=aB->Inv k H->Inv (k+1) H)
 (H0:ar) (h0:Inv 0 H0):∃H',W2.call 197 [.yield l,.ptr (.box pb) 0,.ptr (.box wb) 0] H0=aa (.ret (.tuple []),H')/\Inv ae.length H':=by
 have kk:=ao.mk (az h1 (az hR (az hS (az h0 (az wQ (az HT hz))))));obtain⟨b1,b2⟩:=h1 0 H0 h0;have l1:=qS b1;obtain⟨ky,sy,rfl,lj⟩:=hy;have ksy:=ao.mk lj;clear h1 hR hS h0 wQ HT hz b1 b2 lj;have u23:=dY;have u22:=jf;have z3:=fR;have z23:=iA;have cY:(xs.map λa=>[a]).length=ae.length:=by rw[bF];exact dR
 have vw:(ints ag).length=ae.length:=by rw[dE];exact oP
 refine iD rfl Tryz.func197 rfl ?_;refine cX @Ge @dK @eQ ?_;refine cH (λm e H=>∃k:Nat,k<=ae.length/\m=ae.length - k/\ao (Inv k H)/\e.get 0=.yield l/\e.get 1=.ptr (.box pb) 0/\e.get 2=.ptr (.box wb) 0/\e.get 9=.list k0 s0 (xs.map λa=>[a])/\e.get 10=.v (.int .i64 (ae.length:Nat))/\e.get 11=.v (.int .i64 (k:Nat))/\e.defers=[]) ?_ ae.length _ _ ?_;rotate_left 1
 ·refine⟨0,cD _,rfl,⟨kk.out.2.2.2.1⟩,?_,?_,?_,?_,?_,?_,?_⟩<;>exact gR
 clear l1;rintro m e H ⟨k,hk,rfl,kI,g0,g1,g2,g9,g10,g11,hd⟩;by_cases aC:k<ae.length;rotate_left 1
 ·have:k=ae.length:=by omega
  subst this;refine bC @Ge ?_;exact⟨_,rfl,kI.out⟩
 obtain⟨b1,b2⟩:=kk.out.1 k H kI.out;have bD:s0=1:=kk.out.2.2.2.2.1 (by intro q;rw[q,lP] at aC;omega);subst bD;have nQ:sy=1:=ksy.out (by intro q;rw[q,lP] at oP;omega);subst nQ;obtain⟨a,ha⟩:∃a,xs[k]?=aa a:=⟨_,aU ai⟩;have ld:=mf (H:=H) (s:=1) ha;have lo:=ev (H:=H) (l:=ag) (i:=k) (s:=1) ai;have l1:=DC b1;have l2:=vG b2;obtain⟨_,H2,cs,e2,i,rfl⟩:=atW H z au (al ag k) kk.out.2.2.2.2.2.2 kk.out.2.2.2.2.2.1 jG;rw[e2] at cs;clear e2 b1 b2;have fw:(k:Int)<(ae.length:Int):=by omega
 cases hc:au.contains (al ag k) with
 |true=>
  obtain⟨H',r1,r2⟩:=kk.out.2.1 k a H aC ha hc kI.out;rw[hc] at cs;have kI2:=ao.mk r2;clear r2 ha hc kI;unfold im at *
  refine bK @Ge @dK @eQ @bp ?_;refine eJ AU aw ?_;refine bK @Ge @dK @eQ (az @bp @AT) ?_;exact⟨ae.length - (k+1),by omega,k+1,by omega,rfl,kI2,by simp⟩
 |false=>
  have kI2:=ao.mk (kk.out.2.2.1 k H aC hc kI.out);rw[hc] at cs;clear ha hc kI;unfold im at *
  refine bK @Ge @dK @eQ @bp ?_;refine eJ AU aw ?_;refine bK @Ge @dK @eQ (az @bp @AT) ?_;exact⟨ae.length - (k+1),by omega,k+1,by omega,rfl,kI2,by simp⟩
structure Cn(h H:ar)(t1 t2:Tok):Prop where
 c1:du h.tn H t1
 c2:du h.tn H t2
 ne:∀a,t1=.free a->t2≠ .free a
 ok:cK H=ah
 ext:Ext h H
def HA{n0}{H}{t k}(hk:du n0 H k)(bG:∀a,t=.free a->k≠ .free a):du n0 (H.app t) k:=by
 rcases hk with q|q|⟨m,rfl,q1,q2⟩
 ·exact .inl q
 ·exact .inr (.inl q)
 ·refine .inr (.inr ⟨m,rfl,q1,?_⟩);have aC:=vi q2;unfold alive at *
  simp only[bI,At,Et,decide_eq_false_iff_not,decide_eq_true_eq] at *
  refine⟨by rw[EI];omega,?_⟩;cases t with
  |free a=>
   intro hm;rcases iU.1 hm with e|e
   ·exact bG a rfl (by rw[e])
   ·exact q2.2 e
  |_=>exact q2.2
def Cn.app{h H}{t1 t2}(w:Cn h H t1 t2):du h.tn (H.app t1) t2/\Cn h ((H.app t1).app t2) (.free H.tn) (.free (H.app t1).tn):=by
 have hn:=w.ext.tn;have g1:=Grown.one (n0:=h.tn) w.c1 w.ok hn;have c2:=HA w.c2 w.ne;have g2:=Grown.one (n0:=h.tn) c2 g1.ok (fG hn g1.tn);refine⟨c2,?_,g2.can,?_,g2.ok,g2.ext (g1.ext w.ext (aL _)) (aL _)⟩
 ·refine HA g1.can λa ha he=>?_;injection he with he;subst he;rcases c2 with q|q|⟨m,q,-,q2⟩
  ·rw[q] at ha;cases ha
  ·rw[q] at ha;cases ha
  ·rw[q] at ha;injection ha with ha;subst ha;rcases w.c2 with z|z|⟨m2,z,-,z2⟩
   ·rw[z] at q;cases q
   ·rw[z] at q;cases q
   ·rw[z] at q;injection q with q;have:=vi z2;omega
 ·intro a ha he;injection ha with ha;injection he with he;rw[EI] at he;omega
def Cn.put{h H}{t1 t2}(w:Cn h H t1 t2){b}(hb:h.boxes.length<=b)(cs):Cn h (H.put b cs) t1 t2:=⟨w.c1,w.c2,w.ne,w.ok,w.ext.fZ hb cs⟩
def yG:Tryz.f143.results.toList=[.cell 4 22,.cell 5 23,.tmp 6,.tmp 7]:=aw
def awV:(iB aq 22).bind AV.cd=aa [.list .nil 0 []]:=aw
def awW:(iB aq 23).bind AV.cd=aa [.list .nil 0 []]:=aw
def avH:dJ aq 22=aa 1:=aw
def Vm{H}{k}{n0 sz}{es}{x}(hl:es.length<1000000)(hs:sz=1∨(es=[]/\k=.nil))(hk:du n0 H k):
 hU aq H #[22,22] (.list k sz (es.map λa=>[a])) (.list .tight 1 [[x]])=aa (.list (.free H.tn) 1 ((es++[x]).map λa=>[a]),H.app k):=by
 obtain⟨i,q1,q2,q3,q4⟩:=LG;have hb:=ri (ai:es.length+1<=1000000) q3;have:=Hs (t0:=22) (t1:=22) (n0:=n0) (i:=i) (sz:=sz) (es:=es.map λa=>[a]) (new:=[[x]]) (x:=.list .tight 1 [[x]]) jf (.inl ⟨_,jf⟩) q1 ai (by rw[q2];exact q4) (by rw[q2];rfl) bJ
  (by simp only[bF,jd,lP,qA];omega) (by simp only[bF,jd,lP];omega) (hs.imp (λq=>q.trans q2.symm) λq=>⟨by rw[q.1];rfl,q.2⟩) hk
 rw[q2] at this;rw[mY];exact this
def jk(xs:List AV)(ag au:List Int)(k:Nat):List AV:=((bO k).filter λi=>au.contains (al ag i)).map λi=>xs.getD i default
def fy(ag au:List Int)(k:Nat):List Nat:=(bO k).filter λi=>au.contains (al ag i)
def aaZ{ag au}{k}(h:au.contains (al ag k)=ah):fy ag au (k+1)=fy ag au k++[k]:=by unfold fy;rw[nD,y7,B1,aH h];rfl
def aaY{ag au}{k}(h:au.contains (al ag k)=aB):fy ag au (k+1)=fy ag au k:=by unfold fy;rw[nD,y7,B1,aJ (by rw[h];simp)];simp
def aaX{xs}{ag au}{k}{a}(h:au.contains (al ag k)=ah)(ha:xs[k]?=aa a):jk xs ag au (k+1)=jk xs ag au k++[a]:=by
 have e:xs.getD k default=a:=by rw[eE,ha];rfl
 unfold jk;rw[nD,y7,B1,aH h,List.filter_nil,mY,eL,List.map_nil,e]
def aaW{xs}{ag au}{k}(h:au.contains (al ag k)=aB):jk xs ag au (k+1)=jk xs ag au k:=by unfold jk;rw[nD,y7,B1,aJ (by rw[h];simp)];simp
def aaV{xs}{ag au}{k}:(jk xs ag au k).length<=k:=by unfold jk;rw[bF];exact fG (GV _ _) bJ
def aaT:∀(au:List Int) (dk:Int),fU dk au=ah->(∀i,i<au.length->dk<al au i)/\JU au:=by
 intro au
 induction au with
 |nil=>exactλ_ _=>⟨λi hi=>absurd hi (ud _),λi j _ hj=>absurd hj (ud _)⟩|cons n l ih=>
  intro dk h;unfold fU at h;simp only[bI,decide_eq_true_eq] at h;obtain⟨i1,i2⟩:=ih n h.2;refine⟨λi hi=>?_,λi j mO hj=>?_⟩
  ·cases i with|zero=>exact h.1.1|succ i=>exact adC h.1.1 (i1 i (by simpa using hi))
  ·cases j with
   |zero=>omega|succ j=>
    cases i with|zero=>exact i1 j (by simpa using hj)|succ i=>exact i2 i j ai (by simpa using hj)
def LL{H}{b}{x}(hb:H.boxes[b]?=aa [x]):aI aq Gt H 22 (.ptr (.box b) 0)=aa x:=by rw[mT Oz hb];rfl
def Tx{H}{b}{x}{k}{s}{es}(hb:H.boxes[b]?=aa [x]):cE aq H 22 (.ptr (.box b) 0) (.list k s es)=aa (H.put b [.list k s es]):=fK (off:=0) (cs:=[x]) (xs:=[.list k s es]) rfl avH hb rfl (aL 1)
def Na{H}{b}{x}{k}{s}{es}(hb:H.boxes[b]?=aa [x]):cE aq H 23 (.ptr (.box b) 0) (.list k s es)=aa (H.put b [.list k s es]):=fK (off:=0) (cs:=[x]) (xs:=[.list k s es]) rfl iA hb rfl (aL 1)
def D0:dJ aq 25=aa 2:=aw
def uM{H}{b}{x y}(hb:H.boxes[b]?=aa [x,y]):aI aq Gt H 25 (.ptr (.box b) 0)=aa (.agg [x,y]):=by rw[iP xL D0 hb (aL 2)];rfl
def afO{au}(h:JU au)(h0:∀i,i<au.length-> -1<al au i):∀i:Nat,i<au.length->(i:Int)<=al au i:=by
 intro i
 induction i with
 |zero=>intro hi;have:=h0 0 hi;omega|succ i ih=>intro hi;have h1:=ih ai;have h2:=h i (i+1) ai hi;omega
def ao1:∀(au:List Int) (dk:Int),fU dk au=ah->∀i,i<au.length->al au i<=63:=by
 intro au
 induction au with
 |nil=>exactλ_ _ i hi=>absurd hi (ud _)|cons n l ih=>
  intro dk h i hi;unfold fU at h;simp only[bI,decide_eq_true_eq] at h;cases i with|zero=>exact h.1.2|succ i=>exact ih n h.2 i (by simpa using hi)
def afN{au}(h:fU (-1) au=ah):au.length<=64:=by
 obtain⟨h1,h2⟩:=aaT au (-1) h;rcases ez 64 au.length with q|q
 ·have h3:=afO h2 h1 64 q;have h4:=ao1 au (-1) h 64 q;omega
 ·exact q
def JC(k)(s)(l):fA (.list k s (ints l)) (.list k s (ints l))=ah:=by
 have h:rO (ints l) (ints l)=ah:=by
  induction l with
  |nil=>simp[ints,rO]|cons n l ih=>have:ints (n::l)=[.v (.int .i64 n)]::ints l:=rfl;rw[this];simp[rO,pP,fA,mU,ih]
 rw[fA,h,Bool.and_true];cases k<;>simp[yK]
def VM{H:ar}{l}{r}{t}:(H.busy l r).app t=(H.app t).busy l r:=by cases t<;>rfl
def ajL{H:ar}{l}{r}{t1 t2}{b1 b2}{c1 c2}:({boxes:=(((((H.busy l r).app t1).app t2).put b1 c1).put b2 c2).boxes,loops:=H.loops,tn:=(((((H.busy l r).app t1).app t2).put b1 c1).put b2 c2).tn,dead:=(((((H.busy l r).app t1).app t2).put b1 c1).put b2 c2).dead}:ar)=(((H.app t1).app t2).put b1 c1).put b2 c2:=by cases t1<;>cases t2<;>rfl
def Km(h:ar)(L:List iW)(b1 b2 b3 b4 b5:Nat)(ta xy zz:List AV)(xs:List AV)(ag au:List Int)(k:Nat)(H:ar):Prop:=
 ∃t1 s1 t2 s2,H.loops=L/\H.boxes[b1]?=aa [.list t1 s1 ((jk xs ag au k).map λa=>[a])]/\H.boxes[b2]?=aa [.list t2 s2 (ints (bW (fy ag au k)))]/\(s1=1∨(jk xs ag au k=[]/\t1=.nil))/\(s2=1∨(bW (fy ag au k)=[]/\t2=.nil))/\Cn h H t1 t2/\H.boxes[b3]?=aa ta/\H.boxes[b4]?=aa xy/\H.boxes[b5]?=aa zz
def ap5(l)(k:Nat):bW (l++[k])=bW l++[(k:Int)]:=by unfold bW;simp
def ao3{ag au}{k}:(bW (fy ag au k)).length<=k:=by unfold bW fy;rw[bF];exact fG (GV _ _) bJ
def UN(xs:List AV)(ae:List (List Int))(ag au:List Int)(h:ar)(r:fg)(h':ar):Prop:=
 Ext h h'/\if de ae ag≠0 then r=.ret (.tuple [.list .nil 0 [],.list .nil 0 [],.list .nil 0 [],.v (.int .i64 (de ae ag))])
  else if fU (-1) au=aB then r=.ret (.tuple [.list .nil 0 [],.list .nil 0 [],.list .nil 0 [],.v (.int .i64 1)])
  else ∃k1 s1 k2 s2 tb,r=.ret (.tuple [.list k1 s1 ((jk xs ag au ae.length).map λa=>[a]),.list k2 s2 (ints (bW (fy ag au ae.length))),.arr tb 0 (bP ae) (bP ae),.v (.int .i64 0)])/\(s1=1∨(jk xs ag au ae.length=[]/\k1=.nil))/\(s2=1∨(bW (fy ag au ae.length)=[]/\k2=.nil))/\h'.boxes[tb]?=aa ((gj (bP ae)).map im)
def ap6(h:ar)(k0:Tok)(s0:Nat)(xs:List AV)(y z:AV)(ae:List (List Int))(ag au:List Int)(hx:RL (.list k0 s0 (xs.map λa=>[a])) ae)(dR:xs.length=ae.length)(hy:IL y ag)(hz:IL z au)(jG:au.length<=1099511627776)(ho:cK h=ah):
 ∃r h',W2.call 143 [.agg [.list k0 s0 (xs.map λa=>[a]),y],z] h=aa (r,h')/\UN xs ae ag au h r h':=by
 obtain⟨H1,c97,e1⟩:=Wf (((h.push [.list k0 s0 (xs.map λa=>[a]),y]).push [.list .nil 0 []]).push [.list .nil 0 []]) _ y ae ag hx hy;have kyz:=ao.mk (az hx (az hy (az hz ho)));have bx:(AV.agg [.list k0 s0 (xs.map λa=>[a]),y]).cd=aa [.list k0 s0 (xs.map λa=>[a]),y]:=by obtain⟨ky,sy,rfl,-⟩:=hy;rfl
 have X1:Ext h H1:=by rw[e1];exact(((Ext.push _ _).trans (.push _ _)).trans (.push _ _)).trans (.push _ _)
 have p0:H1.boxes[h.boxes.length]?=aa [.list k0 s0 (xs.map λa=>[a]),y]:=by rw[e1];exact bh (bh (bh (bg _ _)))
 have p1:H1.boxes[h.boxes.length+1]?=aa [.list .nil 0 []]:=by rw[e1];exact bh (bh (nM (by rw[cR])))
 have p2:H1.boxes[h.boxes.length+1+1]?=aa [.list .nil 0 []]:=by rw[e1];exact bh (nM (by rw[cR,cR]))
 have iq:H1.boxes.length=h.boxes.length+4:=by rw[e1];simp only[cR]
 have wY:cK H1=ah:=X1.ok ho;have l0:aI aq Gt (((h.push [.list k0 s0 (xs.map λa=>[a]),y]).push [.list .nil 0 []]).push [.list .nil 0 []]) 25 (.ptr (.box h.boxes.length) 0)=aa (.agg [.list k0 s0 (xs.map λa=>[a]),y]):=uM (bh (bh (bg _ _)));have tn1:H1.tn=h.tn:=by rw[e1];rfl
 have kX:=ao.mk (az X1 (az wY (az iq tn1)));have z22:=awV;have z23:=awW;have kp:=ao.mk (az p0 (az p1 p2));have s4:=λ(k:Tok) s es=>Tx (k:=k) (s:=s) (es:=es) p1;have Ll:=(aW.1 p1).1;have ss:=(aW.1 p2).1;clear e1 X1 p0 iq wY tn1 hx hy ho;unfold UN;refine di rfl Tryz.func143 rfl ?_;generalize uF:de ae ag=pe at *
 by_cases Dt:pe=0;rotate_left 1
 ·have s5:cE aq (H1.put (h.boxes.length+1) [.list .nil 0 []]) 23 (.ptr (.box (h.boxes.length+1+1)) 0) (.list .nil 0 [])=aa ((H1.put (h.boxes.length+1) [.list .nil 0 []]).put (h.boxes.length+1+1) [.list .nil 0 []]):=Na (by rw[dh ai];exact p2);have m1:aI aq Gt ((H1.put (h.boxes.length+1) [.list .nil 0 []]).put (h.boxes.length+1+1) [.list .nil 0 []]) 22 (.ptr (.box (h.boxes.length+1)) 0)=aa (.list .nil 0 []):=LL (by rw[dh ai];exact eO Ll);have m2:aI aq Gt ((H1.put (h.boxes.length+1) [.list .nil 0 []]).put (h.boxes.length+1+1) [.list .nil 0 []]) 23 (.ptr (.box (h.boxes.length+1+1)) 0)=aa (.list .nil 0 []):=vG (eO (by rw[mE];exact ss));have Yx:decide (pe=0)=aB:=by simp[Dt]
  clear p1 p2 hz Ll ss;refine cX @yG @bu @cR ?_;exact⟨_,_,rfl,(kX.out.1.fZ ai _).fZ ai _,by rw[aH Dt]⟩
 ·subst Dt;obtain⟨kz,sz,rfl,dP⟩:=kyz.out.2.2.1;have ksz:=ao.mk dP;clear dP hz;have u23:=dY;have z3':=fR;have axO:=dE au;have kpe:=ao.mk uF;clear uF;refine cX @yG @bu @cR ?_;refine bM.gen λe0 aG bE cZ cV=>?_;have f1:e0.get 1=.list kz sz (ints au):=by rw[aG];exact gS
  have f2:e0.get 2=.ptr (.box h.boxes.length) 0:=by rw[aG];exact gS
  have f4:e0.get 4=.ptr (.box (h.boxes.length+1)) 0:=by rw[aG];simp only[gW,reduceIte,aS,aO,cR]
  have f5:e0.get 5=.ptr (.box (h.boxes.length+1+1)) 0:=by rw[aG];simp only[gW,reduceIte,aS,aO,cR]
  have f8:e0.get 8=.v (.int .i64 (-1)):=by rw[aG];exact gS
  have f19:e0.get 19=.list kz sz (ints au):=by rw[aG];exact gS
  have f20:e0.get 20=.v (.int .i64 (au.length:Nat)):=by rw[aG];exact gS
  have f21:e0.get 21=.v (.int .i64 (0:Nat)):=by rw[aG];exact gR
  have fd:e0.defers=[]:=by rw[bE];exact gS
  clear aG bE cZ cV l0 c97;refine cH (λm e H=>∃(i:Nat) (dk:Int),i<=au.length/\m=au.length - i/\ -1<=dk/\ao (fU dk (au.drop i)=fU (-1) au)/\e.get 1=.list kz sz (ints au)/\e.get 2=.ptr (.box h.boxes.length) 0/\e.get 4=.ptr (.box (h.boxes.length+1)) 0/\e.get 5=.ptr (.box (h.boxes.length+1+1)) 0/\e.get 8=.v (.int .i64 dk)/\e.get 19=.list kz sz (ints au)/\e.get 20=.v (.int .i64 (au.length:Nat))/\e.get 21=.v (.int .i64 (i:Nat))/\e.defers=[]/\H=H1) ?_ au.length _ _ ?_;rotate_left 1
  ·exact⟨0,-1,cD _,rfl,NO _,⟨rfl⟩,f1,f2,f4,f5,f8,f19,f20,f21,fd,rfl⟩
  clear f1 f2 f4 f5 f8 f19 f20 f21 fd;rintro m e H1 ⟨i,dk,hi,rfl,mC,kP,g1,g2,g4,g5,g8,g19,g20,g21,hd,rfl⟩;by_cases aC:i<au.length
  ·have bD:sz=1:=ksz.out (by intro q;rw[q,lP] at aC;omega);subst bD;have ld:=ev (H:=H1) (l:=au) (s:=1) aC;have cp:=aaU (al au i) H1;have fw:(i:Int)<(au.length:Int):=(by omega);have qg:au.drop i=al au i::au.drop (i+1):=(by rw[fB aC];exact y6 aC);have sC:=kP.out;rw[qg,fU] at sC;have s5:cE aq (H1.put (h.boxes.length+1) [.list .nil 0 []]) 23 (.ptr (.box (h.boxes.length+1+1)) 0) (.list .nil 0 [])=aa ((H1.put (h.boxes.length+1) [.list .nil 0 []]).put (h.boxes.length+1+1) [.list .nil 0 []]):=Na (by rw[dh ai];exact p2);have m1:aI aq Gt ((H1.put (h.boxes.length+1) [.list .nil 0 []]).put (h.boxes.length+1+1) [.list .nil 0 []]) 22 (.ptr (.box (h.boxes.length+1)) 0)=aa (.list .nil 0 []):=LL (by rw[dh ai];exact eO Ll);have m2:aI aq Gt ((H1.put (h.boxes.length+1) [.list .nil 0 []]).put (h.boxes.length+1+1) [.list .nil 0 []]) 23 (.ptr (.box (h.boxes.length+1+1)) 0)=aa (.list .nil 0 []):=vG (eO (by rw[mE];exact ss));unfold im xc at *
   generalize al au i=n at *
   by_cases h1:0<=n/\n<=63
   ·have eM:(decide (0<=n)&&decide (n<=63))=ah:=(by simp[h1.1,h1.2]);rw[eM] at cp;by_cases h2:n<=dk
    ·have iF:decide (n<=dk)=ah:=(by simp[h2]);have hf:fU (-1) au=aB:=(by rw[<-sC];simp;omega);have kf:=ao.mk hf;clear sC hf qg p1 p2 h2 h1 kP;refine bQ @yG @bp ?_;exact⟨_,_,rfl,(kX.out.1.fZ ai _).fZ ai _,by rw[aJ (by simp[kpe.out]),aH kf.out]⟩
    ·have iF:decide (n<=dk)=aB:=(by simp;omega);have kP2:ao (fU n (au.drop (i+1))=fU (-1) au):=⟨by rw[<-sC,b8 (ai:dk<n),b8 h1.2];rfl⟩;have h3: -1<=n:=(by omega);clear sC qg p1 p2 h2 h1 kP s4 s5 m1 m2;refine bQ @yG @bp ?_;exact⟨au.length - (i+1),by omega,i+1,n,by omega,rfl,h3,kP2,by simp⟩
   ·have eM:(decide (0<=n)&&decide (n<=63))=aB:=(by simp only[adq,decide_eq_false_iff_not];omega);rw[eM] at cp;have hf:fU (-1) au=aB:=(by rw[<-sC];simp only[adq,decide_eq_false_iff_not];omega);have kf:=ao.mk hf;clear sC hf qg p1 p2 h1 kP;refine bQ @yG @bp ?_;exact⟨_,_,rfl,(kX.out.1.fZ ai _).fZ ai _,by rw[aJ (by simp[kpe.out]),aH kf.out]⟩
  ·have gx:i=au.length:=(by omega);subst gx;have hf:fU (-1) au=ah:=(by rw[<-kP.out,rh (aL _)];rfl);have kf:=ao.mk hf;clear hf kP;obtain⟨o1,o2,o3,o4⟩:=qp kpe.out;obtain⟨n1,n2⟩:=tx kpe.out;have HT:=(aaT au (-1) kf.out).2;have axP:=afN kf.out;have ko:=ao.mk (az o3 HT);have vn:(ae≠[]->s0=1)/\∀(i:Nat) (a:AV) (r:List Int),xs[i]?=aa a->ae[i]?=aa r->IL a r:=(by obtain⟨k',s',xs',he,Dp,-,hh⟩:=kyz.out.1;injection he with _ hse he;have:=(N4 (λx y h=>by injection h)).1 he;subst this;subst hse;exact⟨Dp,hh⟩);have kRL:=ao.mk vn;have ko1:=ao.mk o1;have l22:aI aq Gt H1 22 (.ptr (.box h.boxes.length) 0)=aa (.list k0 s0 (xs.map λa=>[a])):=qS kp.out.1;have u22:=jf;have cY:(xs.map λa=>[a]).length=ae.length:=(by rw[bF];exact dR);have mk:=BH H1 (bP ae) ai .i64 .i64;have oS:br (bP ae) (im 0)=(br (bP ae) (0:Int)).map im:=(by rw[y9]);rw[oS] at mk;have sk:=Ak (H:=H1.push ((br (bP ae) (0:Int)).map im)) (b:=H1.boxes.length) (r:=br (bP ae) (0:Int)) (k:=0) (x:=1) (bg _ _) (by rw[mX];exact n1);have wR:(br (bP ae) (0:Int)).set 0 1=gj (bP ae):=(by obtain⟨c,hc⟩:∃c,bP ae=c+1:=⟨bP ae - 1,by omega⟩;rw[hc];unfold gj;rw[Cc];rfl);rw[qs,wR] at sk;have ix:dS aq 23 (.arr H1.boxes.length 0 (bP ae) (bP ae)) (.v (.int .i64 0))=aa (.ptr (.box H1.boxes.length) 0):=rH (n:=0) (k:=.i64) n1;have l25:aI aq Gt (H1.push ((gj (bP ae)).map im)) 25 (.ptr (.box h.boxes.length) 0)=aa (.agg [.list k0 s0 (xs.map λa=>[a]),y]):=uM (bh kp.out.1);have ow:=aoA (H1.push ((gj (bP ae)).map im)) (.list k0 s0 (xs.map λa=>[a])) y (.list kz sz (ints au)) bx rfl;have kmk:=ao.mk (az p1 p2);have hcz:((0:Nat):Int)=0:=rfl;clear wR oS HT o3 o4 o1 vn p1 p2 s4 Ll ss;unfold im at *
   have Yq:(ae.length=0->bP ae=1)/\∀r0,ae[0]?=aa r0->r0.length=bP ae:=(by refine⟨λq=>by unfold bP;rw[aH q],λr0 q=>?_⟩;exact(ko.out.1 r0 (dy q)).1);have kcols:=ao.mk Yq;clear Yq;generalize bP ae=cw at *
   have two:ae.length=0∨0<ae.length:=(by omega);rcases two with cV|cV
   case' inl=>
    have Lb:=kcols.out.1 cV;have ir:¬((0:Int)<(ae.length:Int)):=(by omega);have mk':Ab aq H1 23 (.v (.int .i64 1)) (.v (.int .i64 1))=aa (.arr H1.boxes.length 0 cw cw,H1.push ((br cw (0:Int)).map λn=>.v (.int .i64 n))):=(by have:=mk;rw[show((cw:Nat):Int)=1 by omega] at this;exact this);clear cV mk Lb
    repeat' (first|simp(maxSteps:=999999)(disch:=first|exact dZ|fail)only[gW,reduceIte,aS,aO,yG,dK,eQ,bp, *]|refine dX ?_ ?_<;>(intro _;try omega))
   case' inr=>
    obtain⟨a0,gM⟩:∃a,xs[0]?=aa a:=⟨_,aU ai⟩;obtain⟨r0,gN⟩:∃r,ae[0]?=aa r:=⟨_,aU ai⟩;have bD:s0=1:=kRL.out.1 (by intro q;rw[q,lP] at cV;omega);have ixr:dS aq 22 (.list k0 s0 (xs.map λa=>[a])) (.v (.int .i64 0))=aa (.elem 1 (xs.map λa=>[a]) 0 0):=(by rw[bD];exact bp u22 iA (NO _) (by rw[cY];omega));clear bD;have ld0:=mf (H:=H1) (s:=1) gM;obtain⟨ka0,sa0,rfl,-⟩:=kRL.out.2 0 a0 r0 gM gN;have cU:(ints r0).length=cw:=(by rw[dE];exact kcols.out.2 r0 gN);have ir:(0:Int)<(ae.length:Int):=(by omega);have z0:(0:Int).toNat=0:=rfl;have z23':=iA;clear gM gN
    repeat' (first|simp(maxSteps:=999999)(disch:=first|exact dZ|fail)only[gW,reduceIte,aS,aO,yG,dK,eQ,bp, *]|refine dX ?_ ?_<;>(intro _;try omega))
   all_goals
    refine bM.gen λe4 gU qM vB tL=>?_;have f4:e4.get 4=.ptr (.box (h.boxes.length+1)) 0:=(by rw[gU];simp only[gW,reduceIte,aS,aO];exact g4);have f5:e4.get 5=.ptr (.box (h.boxes.length+1+1)) 0:=(by rw[gU];simp only[gW,reduceIte,aS,aO];exact g5);have f6:e4.get 6=.arr H1.boxes.length 0 cw cw:=(by rw[gU];exact gS);have f50:e4.get 50=.func (.func 197) [] [.ptr (.box (H1.push ((gj cw).map λn=>.v (.int .i64 n))).boxes.length) 0,.ptr (.box ((H1.push ((gj cw).map λn=>.v (.int .i64 n))).boxes.length+1)) 0]:=(by rw[gU];exact gS);have fd:e4.defers=[]:=(by rw[qM];simp only[gW,reduceIte,aS,aO];exact hd);clear gU qM vB tL g1 g2 g4 g5 g8 g19 g20 g21 hd;refine DU (by rw[A7];exact f50) λrec w1 w2 w3 w4 w5 w6=>?_;obtain⟨x1,wY,iq,tn1⟩:=kX.out;obtain⟨p0,p1,p2⟩:=kp.out;have X3:Ext h (((H1.push ((gj cw).map im)).push [.list k0 s0 (xs.map λa=>[a]),y]).push [.list kz sz (ints au)]):=((x1.trans (.push _ _)).trans (.push _ _)).trans (.push _ _);have b0:(((H1.push ((gj cw).map im)).push [.list k0 s0 (xs.map λa=>[a]),y]).push [.list kz sz (ints au)]).boxes[H1.boxes.length]?=aa ((gj cw).map im):=bh (bh (bg _ _));have b1:(((H1.push ((gj cw).map im)).push [.list k0 s0 (xs.map λa=>[a]),y]).push [.list kz sz (ints au)]).boxes[h.boxes.length+1]?=aa [.list .nil 0 []]:=bh (bh (bh p1));have b2:(((H1.push ((gj cw).map im)).push [.list k0 s0 (xs.map λa=>[a]),y]).push [.list kz sz (ints au)]).boxes[h.boxes.length+1+1]?=aa [.list .nil 0 []]:=bh (bh (bh p2));have b3:(((H1.push ((gj cw).map im)).push [.list k0 s0 (xs.map λa=>[a]),y]).push [.list kz sz (ints au)]).boxes[H1.boxes.length+1]?=aa [.list k0 s0 (xs.map λa=>[a]),y]:=bh (nM (by rw[cR]));have b4:(((H1.push ((gj cw).map im)).push [.list k0 s0 (xs.map λa=>[a]),y]).push [.list kz sz (ints au)]).boxes[H1.boxes.length+1+1]?=aa [.list kz sz (ints au)]:=nM (by rw[cR,cR]);have ok3:cK (((H1.push ((gj cw).map im)).push [.list k0 s0 (xs.map λa=>[a]),y]).push [.list kz sz (ints au)])=ah:=wY;have dG:(((H1.push ((gj cw).map im)).push [.list k0 s0 (xs.map λa=>[a]),y]).push [.list kz sz (ints au)]).loops.length=H1.loops.length:=rfl;have Fb:h.loops.length<=H1.loops.length:=x1.FT;rw[cR] at f50;unfold im at *
    rw[cR];generalize ((H1.push ((gj cw).map λn=>AV.v (.int .i64 n))).push [.list k0 s0 (xs.map λa=>[a]),y]).push [.list kz sz (ints au)]=H3 at *
    have axj:h.boxes.length+1<H3.boxes.length:=(aW.1 b1).1;have axk:h.boxes.length+1+1<H3.boxes.length:=(aW.1 b2).1;have iu:(H3.loop rec).loops[H1.loops.length]?=aa rec:=(by rw[<-dG];exact @DG H3 rec);have feed:=aoB H1.loops.length (H1.boxes.length+1) (H1.boxes.length+1+1) k0 s0 xs y (.list kz sz (ints au)) ae ag au
     (Km h (H3.loop rec).loops (h.boxes.length+1) (h.boxes.length+1+1) H1.boxes.length (H1.boxes.length+1) (H1.boxes.length+1+1) ((gj cw).map λn=>.v (.int .i64 n)) [.list k0 s0 (xs.map λa=>[a]),y] [.list kz sz (ints au)] xs ag au)
     kyz.out.2.1 kyz.out.2.2.1 dR ko1.out.symm kRL.out.1 ko.out.2 ai ai
     (λk H q=>by obtain⟨_,_,_,_,_,_,_,_,_,_,_,q1,q2⟩:=q;exact⟨q1,q2⟩)
     ?_
     (λk H _ hc q=>by
      unfold Km at *
      rw[aaW hc,aaY hc];exact q)
     (H3.loop rec) ⟨.nil,0,.nil,0,rfl,b1,b2,.inr ⟨rfl,rfl⟩,.inr ⟨rfl,rfl⟩,⟨.inl rfl,.inl rfl,λa q=>(nomatch q),ok3,X3.trans ((Fr.BC (bn:=H3.boxes.length) (l0:=H3.loops.length) (n0:=H3.tn) H3 rec).ext (aL _) (aL _) (aL _))⟩,b0,b3,b4⟩
    rotate_left 1
    ·rintro k a H hk CP hc ⟨t1,s1,t2,s2,i1,i2,i3,i4,i5,i6,i7,i8,i9⟩;have vz:H.loops[H1.loops.length]?=aa rec:=(by rw[i1];exact iu);have w:=i6;have q0:(H.busy H1.loops.length rec).boxes=H.boxes:=rfl;have e22:=λhc=>aaX (xs:=xs) (ag:=ag) (au:=au) (k:=k) (a:=a) hc CP;have e23:=aaZ (ag:=ag) (au:=au) (k:=k) hc;have wA:=w.app;refine Ji (Post:=Km h (H3.loop rec).loops (h.boxes.length+1) (h.boxes.length+1+1) H1.boxes.length (H1.boxes.length+1) (H1.boxes.length+1+1) ((gj cw).map λn=>.v (.int .i64 n)) [.list k0 s0 (xs.map λa=>[a]),y] [.list kz sz (ints au)] xs ag au (k+1)) vz (by rw[w2];rfl) w5 w6 ?_;have r1:∀t,(nV H1.loops.length rec [im (k:Nat),a]).get t=if 52=t then a else if 51=t then im (k:Nat) else e4.get t:=λt=>Jg w2 w1
     have d1:(nV H1.loops.length rec [im (k:Nat),a]).defers=[]:=rfl;obtain⟨K,hK⟩:∃K,H.busy H1.loops.length rec=K:=⟨_,rfl⟩;have kc1:du h.tn K t1:=(by rw[<-hK];exact w.c1);have kc2:du h.tn (K.app t1) t2:=(by rw[<-hK,VM];exact wA.1);have kb1:K.boxes[h.boxes.length+1]?=aa [.list t1 s1 ((jk xs ag au k).map λa=>[a])]:=(by rw[<-hK];exact i2);have kb2:(K.app t1).boxes[h.boxes.length+1+1]?=aa [.list t2 s2 (ints (bW (fy ag au k)))]:=(by rw[eC,<-hK];exact i3);have kb22:K.boxes[h.boxes.length+1+1]?=aa [.list t2 s2 (ints (bW (fy ag au k)))]:=(by rw[<-hK];exact i3);have pl1:=aaV (xs:=xs) (ag:=ag) (au:=au) (k:=k);have pl2:=ao3 (ag:=ag) (au:=au) (k:=k);have ap1:=Vm (x:=a) (ai:(jk xs ag au k).length<1000000) i4 kc1;have ap2:=tf (x:=(k:Int)) (show(bW (fy ag au k)).length<1099511627776 by omega) i5 kc2;rw[<-e22 hc] at ap1;rw[<-ap5,<-e23] at ap2;have lA:=LL kb1;have lB:=vG kb2;have lB0:=vG kb22;have sA:=Tx (H:=(K.app t1).app t2) (b:=h.boxes.length+1) (k:=.free K.tn) (s:=1) (es:=(jk xs ag au (k+1)).map λa=>[a]) (by rw[eC,eC];exact kb1);have sB:=Na (H:=((K.app t1).app t2).put (h.boxes.length+1) [.list (.free K.tn) 1 ((jk xs ag au (k+1)).map λa=>[a])]) (b:=h.boxes.length+1+1) (k:=.free (K.app t1).tn) (s:=1) (es:=ints (bW (fy ag au (k+1)))) (by rw[dh ai,eC];exact kb2);have blA:gG aq 22 1 [(0,a)]=aa (.list .tight 1 [[a]]):=(by obtain⟨r',gI⟩:∃r',ae[k]?=aa r':=⟨_,aU hk⟩;exact Kx a (kRL.out.2 k a r' CP gI).cell);have blB:=pq (k:Int);have svs:=JC t2 s2 (bW (fy ag au k));have fI:ao (Km h (H3.loop rec).loops (h.boxes.length+1) (h.boxes.length+1+1) H1.boxes.length (H1.boxes.length+1) (H1.boxes.length+1+1) ((gj cw).map λn=>.v (.int .i64 n)) [.list k0 s0 (xs.map λa=>[a]),y] [.list kz sz (ints au)] xs ag au (k+1) ((((H.app t1).app t2).put (h.boxes.length+1) [.list (.free H.tn) 1 ((jk xs ag au (k+1)).map λa=>[a])]).put (h.boxes.length+1+1) [.list (.free (H.app t1).tn) 1 (ints (bW (fy ag au (k+1))))])):=by
      have pG:=(aW.1 i2).1;have kU:=(aW.1 i3).1;refine⟨_,1,_,1,?_,?_,?_,.inl rfl,.inl rfl,(wA.2.put ai _).put ai _,?_,?_,?_⟩
      ·show((H.app t1).app t2).loops=_;rw[xN,xN];exact i1
      ·rw[dh ai];exact eO (by rw[eC,eC];exact pG)
      ·exact eO (by rw[mE,eC,eC];exact kU)
      ·rw[dh ai,dh ai,eC,eC];exact i7
      ·rw[dh ai,dh ai,eC,eC];exact i8
      ·rw[dh ai,dh ai,eC,eC];exact i9
     clear i1 i2 i3 i4 i5 i6 i7 i8 i9 w wA q0 e22 e23 b0 b1 b2 b3 b4 kb1 kb2 kb22 pl1 pl2 hc CP kc1 kc2 X3 ok3 dG p0 p1 p2 x1 wY f50;rw[hK];unfold im at *
     rw[w3,w4];refine zy ?_;refine⟨aY,aY,?_⟩;refine bM.gen λe2 jN iF oQ FA=>?_;have q4:e2.get 4=.ptr (.box (h.boxes.length+1)) 0:=(by rw[jN];simp only[gW,reduceIte,aS,aO,r1];exact f4);have q5:e2.get 5=.ptr (.box (h.boxes.length+1+1)) 0:=(by rw[jN];simp only[gW,reduceIte,aS,aO,r1];exact f5);have q12:e2.get 12=.v (.int .i64 k):=(by rw[jN];simp only[gW,reduceIte,aS,aO,r1]);have q13:e2.get 13=a:=(by rw[jN];simp only[gW,reduceIte,aS,aO,r1]);clear jN iF oQ FA r1 d1 w1 w2 w3 w4 w5 w6;refine zy ?_;refine nW [(3,4)] AU aw (λp hp=>?_) ?_
     ·simp only[nC] at hp;subst hp;refine sS (x:=.ptr (.box (h.boxes.length+1+1)) 0) (v:=.list t2 s2 (ints (bW (fy ag au k)))) aw rfl rfl rfl aw (svs) ?_ ?_<;>(simp only[iV,gF];exact jw @jC.{0} @and_self)
     refine zy ?_;have kf2:=fI.out;rw[iq] at kf2;refine⟨aY,?_,?_⟩
     ·show((K.app t1).app t2).loops=_;rw[xN,xN]
     ·rw[<-hK,ajL,VM];exact kf2
    ·obtain⟨Hf,c1,t1,s1,t2,s2,i1,i2,i3,i4,i5,i6,i7,i8,i9⟩:=feed;rw[dG];refine⟨_,_,c1,rec,by rw[i1];exact iu,by rw[w5];decide,.inl ⟨w6,?_⟩⟩;have hf1:=(aW.1 i2).1;have Bk:=(aW.1 i3).1;have q1:(Hf.fc H1.loops.length {rec with state:=.exhausted}).boxes[h.boxes.length+1]?=aa [.list t1 s1 ((jk xs ag au ae.length).map λa=>[a])]:=i2;have q2:(Hf.fc H1.loops.length {rec with state:=.exhausted}).boxes[h.boxes.length+1+1]?=aa [.list t2 s2 (ints (bW (fy ag au ae.length)))]:=i3;have q7:(Hf.fc H1.loops.length {rec with state:=.exhausted}).boxes[H1.boxes.length]?=aa ((gj cw).map λn=>.v (.int .i64 n)):=i7;have XF:Ext h (Hf.fc H1.loops.length {rec with state:=.exhausted}):=((Fr.DK (bn:=h.boxes.length) (l0:=h.loops.length) (n0:=h.tn) i6.ext (aL _)).trans (.fc Fb _)).ext (aL _) (aL _) (aL _);generalize Hf.fc H1.loops.length {rec with state:=.exhausted}=HF at *
     have hg1:=(aW.1 q1).1;have Fh:=(aW.1 q2).1;have lA:=LL q1;have lB:=vG q2;have sA:=Tx (k:=t1) (s:=s1) (es:=(jk xs ag au ae.length).map λa=>[a]) q1;have lB2:aI aq Gt (HF.put (h.boxes.length+1) [.list t1 s1 ((jk xs ag au ae.length).map λa=>[a])]) 23 (.ptr (.box (h.boxes.length+1+1)) 0)=aa (.list t2 s2 (ints (bW (fy ag au ae.length)))):=vG (by rw[dh ai];exact q2);have sB:=Na (H:=HF.put (h.boxes.length+1) [.list t1 s1 ((jk xs ag au ae.length).map λa=>[a])]) (b:=h.boxes.length+1+1) (k:=t2) (s:=s2) (es:=ints (bW (fy ag au ae.length))) (by rw[dh ai];exact q2);have eA:=oB q1;have eB:=oB (h:=HF) q2;rw[eA] at sA sB lB2;rw[eB] at sB;have svs:=JC t2 s2 (bW (fy ag au ae.length));have fI:=ao.mk (az XF (az i4 (az i5 q7)));clear q1 q2 q7 XF i1 i2 i3 i4 i5 i6 i7 i8 i9 c1 b0 b1 b2 b3 b4 X3 ok3 dG p0 p1 p2 x1 wY f50 iu w1 w2 w3 w4 w5 w6 eA eB;refine bC @yG ?_;refine nW [(1,3)] AU aw (λp hp=>?_) ?_
     ·simp only[nC] at hp;subst hp;refine Al (x:=.ptr (.box (h.boxes.length+1+1)) 0) (v:=.list t2 s2 (ints (bW (fy ag au ae.length)))) aw rfl rfl rfl aw (svs) ?_ ?_<;>(simp only[iV,gF];exact jw @yG @and_self)
     refine bC @yG ?_;exact⟨_,_,rfl,fI.out.1,by rw[aJ (by simp[kpe.out]),aJ (by simp[kf.out])];exact⟨_,_,_,_,_,rfl,fI.out.2.1,fI.out.2.2.1,by rw[<-iq];exact fI.out.2.2.2⟩⟩
def IL.hold{x}{l}(h:IL x l):IL (aD x) l/\aK 0 0 0 (aD x)=ah:=by obtain⟨k,s,rfl,hs⟩:=h;rw[aD,Lt];exact⟨⟨bX k,s,rfl,hs⟩,by rw[aK,fx,nL];rfl⟩
def Dk:∀xs:List AV,fj (xs.map λa=>[a])=(xs.map aD).map λa=>[a]
 | []=>rfl
 |x::xs=>by rw[eL,fj,Dk xs];rfl
def zv:∀xs:List AV,(∀a∈xs,aK 0 0 0 a=ah)->ie 0 0 0 (xs.map λa=>[a])=ah
 | [],_=>rfl
 |x::xs,h=>by rw[eL,ie,zv xs λa ha=>h a (fM _ ha),aR,h x gq];rfl
def RL.hold{k}{s}{xs:List AV}{ae}(h:RL (.list k s (xs.map λa=>[a])) ae):
 RL (.list (bX k) s ((xs.map aD).map λa=>[a])) ae/\∀a∈xs.map aD,aK 0 0 0 a=ah:=by
 obtain⟨k',s',xs',he,hs,hl,hr⟩:=h;injection he with e1 e2 e3;have e4:=(N4 (λx y h=>by injection h)).1 e3;subst e1;subst e2;subst e4;refine⟨⟨bX k,s,xs.map aD,rfl,hs,by rw[bF];exact hl,λi a r ha gI=>?_⟩,λa ha=>?_⟩
 ·rw[ey] at ha;cases hx:xs[i]? with
  |none=>rw[hx] at ha;cases ha
  |some b=>rw[hx] at ha;injection ha with ha;rw[<-ha];exact(hr i b r hx gI).hold.1
 ·obtain⟨b,hb,rfl⟩:=kC.1 ha;obtain⟨i,hi⟩:=vd hb;have cY:=(aW.1 hi).1;exact(hr i b _ hi (aU (by rw[<-hl];exact cY))).hold.2
def L3:List bq:=[28,29,30,46,65,66,69,78,82,94,97,118,119,120,121,123,132,138,140,143,144,146,194,201]
noncomputable def Ss:bq->Option (List AV->ar->Option (AV × ar)):=qG W2 L3
noncomputable abbrev W3:=whole aq Gt Ss
def VU:qu Ss L3:=xU
section
variable (a b n x:Int)
def ae8:∀h,W3.call 28 [im a,im b] h=aa (.ret (im (dj a b)),h):=bm (L:=L3) rfl rfl rfl (Vb a b _) rfl rfl
def anU:∀h,W3.call 29 [im a,im b] h=aa (.ret (im (df a b)),h):=bm (L:=L3) rfl rfl rfl (RN a b _) rfl rfl
def awo:∀h,W3.call 46 [im x] h=aa (.ret (.v (.bool (bN x))),h):=bm (L:=L3) rfl rfl rfl (awn x _) rfl rfl
def akr:∀h,W3.call 69 [im a,im b] h=aa (.ret (.tuple [im (jL a b),im (mM a b)]),h):=bm (L:=L3) rfl rfl rfl (akq a b _) rfl rfl
def akw:∀h,W3.call 30 [im a,im n] h=aa (.ret (.tuple [im (fH a n),im (ni a)]),h):=bm (L:=L3) rfl rfl rfl (akv a n _) rfl rfl
def aqc:∀h,W3.call 65 [im a,im b] h=aa (.ret (im (dj a b)),h):=bm (L:=L3) rfl rfl rfl (aqb a b _) rfl rfl
def arT:∀h,W3.call 66 [im a,im b] h=aa (.ret (im (df a b)),h):=bm (L:=L3) rfl rfl rfl (arS a b _) rfl rfl
def aq8:∀h,W3.call 194 [im n] h=aa (.ret (.tuple [im (if fmod n=0 then 0 else eU n),im (if fmod n=0 then 90 else 0)]),h):=bm (L:=L3) rfl rfl rfl (aq7 n _) rfl rfl
def atI:∀h,W3.call 94 [im x] h=aa (.ret (.v (.bool (bN x))),h):=bm (L:=L3) rfl rfl rfl (atH x _) rfl rfl
def aqI:∀h,W3.call 140 [im a,im b] h=aa (.ret (.tuple [im (jL a b),im (mM a b)]),h):=bm (L:=L3) rfl rfl rfl (aqH a b _) rfl rfl
def aqP:∀h,W3.call 132 [im a,im n] h=aa (.ret (.tuple [im (fH a n),im (ni a)]),h):=bm (L:=L3) rfl rfl rfl (aqO a n _) rfl rfl
def aq2:∀h,W3.call 120 [im n] h=aa (.ret (.agg (aM 1 n [] .nil 0 [])),h):=bm (L:=L3) rfl rfl rfl (aq1 n _) rfl rfl
end
def RL.form{x}{ae}(h:RL x ae):∃(k:Tok) (s:Nat) (xs:List AV),x=.list k s (xs.map λa=>[a])/\xs.length=ae.length:=by obtain⟨k,s,xs,he,-,hl,-⟩:=h;exact⟨k,s,xs,he,hl⟩
def RL.fD{x}{ae}(h:RL x ae):RL (aD x) ae/\aK 0 0 0 (aD x)=ah:=by obtain⟨k,s,xs,rfl,-⟩:=h.form;obtain⟨h1,h2⟩:=h.hold;rw[aD,Dk];exact⟨h1,by rw[aK,fx,zv _ h2];rfl⟩
def ahR(x y)(ae)(ag)(hx:RL x ae)(hy:IL y ag):∀h,W3.call 97 [.agg [x,y]] h=aa (.ret (.v (.int .i64 (de ae ag))),h):=by obtain⟨h1,h2⟩:=hx.fD;obtain⟨h3,h4⟩:=hy.hold;obtain⟨h',hc,-⟩:=Wf ⟨[],[],0,[]⟩ (aD x) (aD y) ae ag h1 h3;exact bm (L:=L3) (b7:=[.agg [aD x,aD y]]) rfl rfl (by simp[aR,aK,h2,h4]) hc rfl rfl
def Xc(l):(l.map im).map (λc=>[c])=ints l:=by unfold ints;rw[List.map_map];rfl
def Dw{h}{b n}{l}(hb:h.boxes[b]?=aa (l.map im))(hn:l.length=n):gX h (.arr b 0 n n)=.list .held 1 (ints l):=by subst hn;rw[gX,hb];simp only;rw[aH (by rw[bF];omega),List.drop_zero,gK (by rw[bF];exact aL _),Xc]
def aik(x y)(ae)(target)(hx:RL x ae)(hy:IL y target)(hr:ae.length<=64)(hw:∀r∈ae,r.length=target.length)(oV:target.length<=64)(bB:∀r∈ae,∀x∈r,okF x)(pI:∀x∈target,okF x):
 (qJ ae target=av/\∀h,W3.call 144 [x,y] h=aa (.ret (.tuple [.list .nil 0 [],.v (.bool aB),im 0]),h))∨∃l,qJ ae target=aa l/\l.length=ae.length/\∀h,W3.call 144 [x,y] h=aa (.ret (.tuple [.list .held 1 (ints l),.v (.bool ah),im 0]),h):=by
 obtain⟨h1,h2⟩:=hx.fD;obtain⟨h3,h4⟩:=hy.hold;obtain⟨r,h',hc,-,⟨e1,rfl⟩|⟨l,b,e1,e2,rfl,e3⟩⟩:=ail ⟨[],[],0,[]⟩ (aD x) (aD y) ae target h1 h3 hr hw oV bB pI rfl
 ·exact .inl ⟨e1,bm (L:=L3) (b7:=[aD x,aD y]) rfl rfl (by simp[aR,h2,h4]) hc rfl rfl⟩
 ·refine .inr ⟨l,e1,e2,bm (L:=L3) (b7:=[aD x,aD y]) rfl rfl (by simp[aR,h2,h4]) hc ?_ (by simp[aK,aR,nL,sV,im])⟩;rw[gX,uJ,Dw e3 e2];rfl
def Sj{xs}{ag au}{n i:Nat}{a}(h:(jk xs ag au n)[i]?=aa a):∃j,(fy ag au n)[i]?=aa j/\j<n/\a=xs.getD j default:=by
 unfold jk at h;rw[ey] at h;cases hj:((bO n).filter λi=>au.contains (al ag i))[i]? with
 |none=>rw[hj] at h;cases h
 |some j=>rw[hj] at h;injection h with h;exact⟨j,hj,gf.1 (we.1 (dy hj)).1,h.symm⟩
def ap7(k0)(s0)(xs:List AV)(y z)(ae)(ag au)(hx:RL (.list k0 s0 (xs.map λa=>[a])) ae)(hy:IL y ag)(hz:IL z au)(jG:au.length<=1099511627776):
 (de ae ag≠0/\∀h,W3.call 143 [.agg [.list k0 s0 (xs.map λa=>[a]),y],z] h=aa (.ret (.tuple [.list .nil 0 [],.list .nil 0 [],.list .nil 0 [],.v (.int .i64 (de ae ag))]),h))∨
 (de ae ag=0/\fU (-1) au=aB/\∀h,W3.call 143 [.agg [.list k0 s0 (xs.map λa=>[a]),y],z] h=aa (.ret (.tuple [.list .nil 0 [],.list .nil 0 [],.list .nil 0 [],.v (.int .i64 1)]),h))∨
 (de ae ag=0/\fU (-1) au=ah/\∃X A,RL X ((eS ag au).map λi=>ae.getD i [])/\IL A (bW (eS ag au))/\∀h,W3.call 143 [.agg [.list k0 s0 (xs.map λa=>[a]),y],z] h=aa (.ret (.tuple [X,A,.list .held 1 (ints (gj (bP ae))),.v (.int .i64 0)]),h)):=by
 obtain⟨h1,h2⟩:=hx.hold;obtain⟨h3,h4⟩:=hy.hold;obtain⟨h5,h6⟩:=hz.hold;have dR:(xs.map aD).length=ae.length:=by obtain⟨_,_,xs',he,-,hl,-⟩:=h1;injection he with _ _ e3;have e4:=(N4 (λx y h=>by injection h)).1 e3;rw[e4];exact hl
 have ea:bZ [.agg [.list k0 s0 (xs.map λa=>[a]),y],z]=[.agg [.list (bX k0) s0 ((xs.map aD).map λa=>[a]),aD y],aD z]:=by rw[bZ,aD,bZ,bZ,bZ,aD,Dk];rfl
 have ef:aR 0 0 0 [.agg [.list (bX k0) s0 ((xs.map aD).map λa=>[a]),aD y],aD z]=ah:=by have hf:=zv _ h2;rw[aR,aK,aR,aR,aR,aR,aK,fx,hf,h4,h6];rfl
 obtain⟨r,h',hc,-,hp⟩:=ap6 ⟨[],[],0,[]⟩ (bX k0) s0 (xs.map aD) (aD y) (aD z) ae ag au h1 dR h3 h5 jG rfl;by_cases q1:de ae ag≠0
 ·rw[aH q1] at hp;subst hp;exact .inl ⟨q1,bm (L:=L3) rfl ea ef hc rfl rfl⟩
 ·rw[aJ q1] at hp;have q1':de ae ag=0:=J6.1 q1;cases q2:fU (-1) au with
  |false=>rw[aH q2] at hp;subst hp;exact .inr (.inl ⟨q1',rfl,bm (L:=L3) rfl ea ef hc rfl rfl⟩)|true=>
   rw[aJ (by rw[q2];simp)] at hp;obtain⟨k1,s1,k2,s2,tb,rfl,e1,e2,e3⟩:=hp;obtain⟨o1,-,-,-⟩:=qp q1';have hN:fy ag au ae.length=eS ag au:=(by unfold fy eS;rw[o1]);obtain⟨n1,-⟩:=tx q1';have wT:(gj (bP ae)).length=bP ae:=(by unfold gj;simp;omega);refine .inr (.inr ⟨q1',rfl,.list (bX k1) s1 ((jk (xs.map aD) ag au ae.length).map λa=>[a]),.list (bX k2) s2 (ints (bW (eS ag au))),⟨_,_,_,rfl,λbG=>?_,?_,λi a r ha hr=>?_⟩,⟨_,_,rfl,λbG=>?_⟩,bm (L:=L3) rfl ea ef hc ?_ ?_⟩)
   ·rcases e1 with q|⟨q,-⟩
    ·exact q
    ·exfalso;apply bG;rw[<-hN];unfold jk at q;unfold fy;rw[GW] at q;rw[q];rfl
   ·rw[bF,<-hN];unfold jk fy;rw[bF]
   ·obtain⟨j,j1,j2,rfl⟩:=Sj ha;rw[hN] at j1;rw[ey,j1] at hr;injection hr with hr;subst hr;obtain⟨_,_,xs',he,-,hl,hh⟩:=h1;injection he with _ _ e5;have e4:=(N4 (λx y h=>by injection h)).1 e5;subst e4;refine hh j _ _ ?_ ?_
    ·rw[eE,aU ai];rfl
    ·show ae[j]?=aa (ae.getD j []);rw[eE,aU j2];rfl
   ·rcases e2 with q|⟨q,-⟩
    ·exact q
    ·rw[hN] at q;exact absurd q bG
   ·rw[gX,uJ,uJ,uJ,Dw e3 wT,hN];rfl
   ·have oq:ie 0 0 0 ((jk (xs.map aD) ag au ae.length).map λa=>[a])=ah:=zv _ λa ha=>(by obtain⟨i,hi⟩:=vd ha;obtain⟨j,-,j2,rfl⟩:=Sj hi;refine h2 _ ?_;rw[eE,aU ai];exact iK _);cases k1<;>cases k2<;>simp[aK,aR,bX,nL,oq,sV]
def Gk:Tryz.f76.results.toList=[.tmp 4,.tmp 5,.tmp 6]:=aw
def ny(n:Nat)(at_:List Nat)(l:List Int)(j:Nat):List Int:=(at_.zipIdx.take j).foldl (λy p=>y.set p.1 (al l p.2)) (br n 0)
def M5{n j}{at_}{l}:(ny n at_ l j).length=n:=by unfold ny;rw[HI (λp=>al l p.2),mX]
def acp{n j p}{at_}{l}(h:at_[j]?=aa p):(ny n at_ l j).set p (al l j)=ny n at_ l (j+1):=by
 have hz:at_.zipIdx[j]?=aa (p,j):=by rw[adY,h];simp
 unfold ny;rw[fE hz,oI];rfl
def M4{n}{at_}{l}:ny n at_ l at_.length=sQ n at_ l:=by unfold ny sQ;rw[gK bJ]
def abe{l}{j p:Nat}(h:l[j]?=aa p):al (bW l) j=(p:Int):=by
 have:(bW l)[j]?=aa (p:Int):=by unfold bW;rw[ey,h];rfl
 unfold al;rw[eE,this];rfl
def TY(ae:List (List Int))(ag au:List Int)(h:ar)(r:fg)(h':ar):Prop:=
 Ext h h'/\((∃e,fV ae ag au=([],aB,e)/\r=.ret (.tuple [.list .nil 0 [],.v (.bool aB),.v (.int .i64 e)]))∨∃l b,fV ae ag au=(l,ah,0)/\l.length=ae.length/\r=.ret (.tuple [.arr b 0 ae.length ae.length,.v (.bool ah),.v (.int .i64 0)])/\h'.boxes[b]?=aa (l.map im))
def ae6(h:ar)(k0:Tok)(s0:Nat)(xs:List AV)(y z:AV)(ae:List (List Int))(ag au:List Int)(hx:RL (.list k0 s0 (xs.map λa=>[a])) ae)(hy:IL y ag)(hz:IL z au)(jG:au.length<=1099511627776):
 ∃r h',W3.call 76 [.agg [.list k0 s0 (xs.map λa=>[a]),y],z] h=aa (r,h')/\TY ae ag au h r h':=by
 have hq:=ap7 k0 s0 xs y z ae ag au hx hy hz jG;obtain⟨_,_,xs',he,dR⟩:=hx.form;have LC:(xs.map λa=>[a]).length=ae.length:=by injection he with _ _ e5;rw[e5,bF];exact dR
 have bx:(AV.agg [.list k0 s0 (xs.map λa=>[a]),y]).cd=aa [.list k0 s0 (xs.map λa=>[a]),y]:=by obtain⟨ky,sy,rfl,-⟩:=hy;rfl
 have b0:(h.push [.list k0 s0 (xs.map λa=>[a]),y]).boxes[h.boxes.length]?=aa [.list k0 s0 (xs.map λa=>[a]),y]:=bg _ _;have l25:=uM b0;have l22:=qS b0;have u23:=dY;have u22:=jf;have z3:=fR;clear he dR hx hy hz b0;unfold TY;have eA:fV ae ag au=if de ae ag≠0 then ([],aB,de ae ag) else if !fU (-1) au then ([],aB,1) else match qJ ((eS ag au).map λi=>ae.getD i []) (gj (bP ae)) with|none=>([],aB,0)|some l=>(sQ ae.length (eS ag au) l,ah,0):=rfl
 refine di rfl Tryz.func76 rfl ?_;rcases hq with⟨q1,c⟩|⟨q1,q2,c⟩|⟨q1,q2,X,A,hX,hA,c⟩
 ·rw[aH q1] at eA;generalize de ae ag=pe at *
  have Yx:decide (pe=0)=aB:=by simp[q1]
  have ke:=ao.mk eA;clear eA q1;refine bQ @Gk @bu ?_;exact⟨_,_,rfl,.push _ _,.inl ⟨pe,ke.out,rfl⟩⟩
 ·rw[aJ (by simp[q1]),aH (by rw[q2];rfl)] at eA;have ke:=ao.mk eA;clear eA q1 q2;refine bQ @Gk @bu ?_;exact⟨_,_,rfl,.push _ _,.inl ⟨1,ke.out,rfl⟩⟩
 ·rw[aJ (by simp[q1]),aJ (by rw[q2];simp)] at eA;obtain⟨o1,o2,o3,-⟩:=qp q1;obtain⟨n1,n2⟩:=tx q1;have wT:(gj (bP ae)).length=bP ae:=by unfold gj;simp;omega
  have Bv:∀i∈eS ag au,i<ae.length:=λi hi=>by unfold eS at hi;rw[o1];exact gf.1 (we.1 hi).1
  have bR:(eS ag au).length<=64:=by unfold eS;exact fG (GV _ _) (by rw[List.length_range];omega)
  have dV:∀r∈(eS ag au).map λi=>ae.getD i [],r∈ae:=λr hr=>by obtain⟨i,hi,rfl⟩:=kC.1 hr;have:=Bv i hi;rw[eE,aU this];exact iK _
  have wL:=aik X (.list .held 1 (ints (gj (bP ae)))) _ (gj (bP ae)) hX ⟨_,_,rfl,λ_=>rfl⟩ (by rw[bF];exact bR) (λr hr=>by rw[wT];exact(o3 r (dV r hr)).1) (by rw[wT];exact n2) (λr hr=>(o3 r (dV r hr)).2.2.2) (λx hx=>by
   unfold gj at hx;rcases iU.1 hx with rfl|hx
   ·exact⟨aZ,by decide⟩
   ·rw[List.eq_of_mem_replicate hx];exact⟨aZ,by decide⟩)
  rcases wL with⟨e1,c2⟩|⟨l,e1,e2,c2⟩
  ·rw[e1] at eA;have ke:=ao.mk eA;unfold im at c2;clear eA q1 q2 e1 dV Bv o3;refine bQ @Gk @bu ?_;exact⟨_,_,rfl,.push _ _,.inl ⟨0,ke.out,rfl⟩⟩
  ·rw[e1] at eA;have ke:=ao.mk eA;have mk:=BH (h.push [.list k0 s0 (xs.map λa=>[a]),y]) ae.length ai .i64 .i64;have oS:br ae.length (im 0)=(ny ae.length (eS ag au) l 0).map im:=(by unfold ny;rw[gF,GR,y9]);rw[oS] at mk;rw[bF] at e2;have ko:=ao.mk Bv;obtain⟨ka,sa,rfl,jj⟩:=hA;have ksa:=ao.mk jj;have eR:=Rm (eS ag au);have dG:=dE l;clear eA q1 q2 e1 dV Bv o3 oS hX jj;unfold im at c2 mk;generalize eS ag au=ow at *
   clear o1;refine cX @Gk @bu @dK ?_;refine bM.gen λe0 aG bE cZ cV=>?_;have f4:e0.get 4=.arr (h.boxes.length+1) 0 ae.length ae.length:=(by rw[aG];simp only[gW,reduceIte,aS,aO,cR]);have f10:e0.get 10=.list .held 1 (ints l):=(by rw[aG];exact gS);have f42:e0.get 42=.list ka sa (ints (bW ow)):=(by rw[aG];exact gS);have f43:e0.get 43=.v (.int .i64 (ow.length:Nat)):=(by rw[aG];exact gS);have f44:e0.get 44=.v (.int .i64 (0:Nat)):=(by rw[aG];exact gR);have fd:e0.defers=[]:=(by rw[bE];exact gS);clear aG bE cZ cV mk c c2 l25 l22;have iq:(h.push [.list k0 s0 (xs.map λa=>[a]),y]).boxes.length=h.boxes.length+1:=cR _ _;have X1:Ext h (h.push [.list k0 s0 (xs.map λa=>[a]),y]):=.push _ _;generalize h.push [.list k0 s0 (xs.map λa=>[a]),y]=H1 at *
   have kX:=ao.mk (az X1 iq);clear X1;refine cH (λm e H=>∃j:Nat,j<=ow.length/\m=ow.length - j/\e.get 4=.arr (h.boxes.length+1) 0 ae.length ae.length/\e.get 10=.list .held 1 (ints l)/\e.get 42=.list ka sa (ints (bW ow))/\e.get 43=.v (.int .i64 (ow.length:Nat))/\e.get 44=.v (.int .i64 (j:Nat))/\e.defers=[]/\H=H1.push ((ny ae.length ow l j).map im)) ?_ ow.length _ _ ?_;rotate_left 1
   ·exact⟨0,cD _,rfl,f4,f10,f42,f43,f44,fd,rfl⟩
   clear f4 f10 f42 f43 f44 fd;rintro m e H ⟨j,hj,rfl,g4,g10,g42,g43,g44,hd,rfl⟩;by_cases aC:j<ow.length
   ·obtain⟨p,eV⟩:∃p,ow[j]?=aa p:=⟨_,aU aC⟩;have zL:=ko.out p (dy eV);have bD:sa=1:=ksa.out (by intro q;unfold bW at q;rw[GW] at q;rw[q] at aC;exact ud _ aC);subst bD;have l0:=ev (H:=H1.push ((ny ae.length ow l j).map im)) (l:=bW ow) (i:=j) (s:=1) (by unfold bW;rw[bF];exact aC);rw[abe eV] at l0;have l1:=ev (H:=H1.push ((ny ae.length ow l j).map im)) (l:=l) (i:=j) (s:=1) ai;have ix3:=rH (b:=h.boxes.length+1) (len:=ae.length) (aF:=ae.length) (k:=.i64) zL;have sk:=Ak (H:=H1.push ((ny ae.length ow l j).map im)) (b:=H1.boxes.length) (r:=ny ae.length ow l j) (k:=p) (x:=al l j) (bg _ _) (by rw[M5];exact zL);rw[qs,acp eV,iq] at sk;have fw:(j:Int)<(ow.length:Int):=(by omega);unfold im at *
    clear eV iq;refine bQ @Gk @bp ?_;exact⟨ow.length - (j+1),by omega,j+1,by omega,rfl,by simp⟩
   ·have ou:j=ow.length:=(by omega);subst ou;refine bC @Gk ?_;refine⟨_,_,rfl,kX.out.1.trans (.push _ _),.inr ⟨_,h.boxes.length+1,ke.out,?_,rfl,?_⟩⟩
    ·rw[<-M4,M5]
    ·rw[<-M4];exact nM kX.out.2.symm
def IS(H:ar)(x:AV)(l:List Int):Prop:=IL x l∨∃b,x=.arr b 0 l.length l.length/\H.boxes[b]?=aa (l.map im)
def IS.mono{H H'}{x}{l}(s:IS H x l)(m:∀(c:Nat) cs,H.boxes[c]?=aa cs->H'.boxes[c]?=aa cs):IS H' x l:=by
 rcases s with q|⟨b,q1,q2⟩
 ·exact .inl q
 ·exact .inr ⟨b,q1,m _ _ q2⟩
def IS.len{H}{x}{l}(s:IS H x l):dQ aq 23 x=aa (.v (.int .i64 (l.length:Nat))):=by
 rcases s with⟨k,z,rfl,-⟩|⟨b,rfl,-⟩
 ·rw[RF dY,dE]
 ·rw[RE dY]
def IS.at{H:ar}{x:AV}{l:List Int}(s:IS H x l){i:Nat}(hi:i<l.length):∃a,dS aq 23 x (.v (.int .i64 (i:Nat)))=aa a/\∀H':ar,IS H' x l->aI aq Gt H' 3 a=aa (.v (.int .i64 (al l i))):=by
 rcases s with⟨k,z,rfl,hz⟩|⟨b,rfl,hb⟩
 ·have:z=1:=hz (by intro q;rw[q] at hi;exact ud _ hi);subst this;have q:=bp (t:=23) (k:=k) (kk:=.i64) (sz:=1) (es:=ints l) (a:=((i:Nat):Int)) dY fR ai (by rw[dE];omega);rw[dW] at q;exact⟨_,q,λH' _=>ev hi⟩
 ·refine⟨.ptr (.box b) i,rH (b:=b) (len:=l.length) (aF:=l.length) (n:=i) (k:=.i64) hi,λH' s'=>?_⟩;rcases s' with⟨k,z,e,-⟩|⟨b',e,iM⟩
  ·cases e
  ·injection e with e1;subst e1;exact Aa iM (yz hi)
def MH:Tryz.f196.results.toList=[.tmp 6]:=aw
def asR:Tryz.f195.results.toList=[.tmp 4]:=aw
def aac(h:ar)(x y:AV)(a own:List Int)(n:Int)(hx:IS h x a)(hy:IS h y own)(hl:own.length=a.length)(hw:a.length<=1000000):
 ∃r h',W3.call 196 [x,y,im n] h=aa (r,h')/\Ext h h'/\r=.ret (.arr h.boxes.length 0 a.length a.length)/\h'.boxes[h.boxes.length]?=aa ((js n a own).map im):=by
 have mk:=BH h a.length hw .i64 .i64;have kk:=ao.mk (az hx hy);have lx:=hx.len;have oS:br a.length (im 0)=(ml (λj=>lI n (al a j) (al own j)) (br a.length 0) 0 0).map im:=by rw[Wu,y9]
 rw[oS] at mk;unfold im at mk;clear hx hy oS;refine di rfl Tryz.func196 rfl ?_;unfold im;refine bC @MH ?_;refine bM.gen λe0 aG bE cZ cV=>?_;have f0:e0.get 0=x:=by rw[aG];exact gS
 have f1:e0.get 1=y:=by rw[aG];exact gS
 have f2:e0.get 2=.v (.int .i64 n):=by rw[aG];exact gS
 have f7:e0.get 7=.arr h.boxes.length 0 a.length a.length:=by rw[aG];exact gS
 have f8:e0.get 8=.v (.int .i64 (0:Nat)):=by rw[aG];exact gR
 have fd:e0.defers=[]:=by rw[bE];exact gS
 clear aG bE cZ cV mk;refine cH (λm e H=>∃k:Nat,k<=a.length/\m=a.length - k/\e.get 0=x/\e.get 1=y/\e.get 2=.v (.int .i64 n)/\e.get 7=.arr h.boxes.length 0 a.length a.length/\e.get 8=.v (.int .i64 (k:Nat))/\e.defers=[]/\H=h.push ((ml (λj=>lI n (al a j) (al own j)) (br a.length 0) 0 k).map im)) ?_ a.length _ _ ?_;rotate_left 1
 ·exact⟨0,cD _,rfl,f0,f1,f2,f7,f8,fd,rfl⟩
 clear f0 f1 f2 f7 f8 fd;rintro m e H ⟨k,hk,rfl,g0,g1,g2,g7,g8,hd,rfl⟩;by_cases aC:k<a.length
 ·obtain⟨ax,i1,i2⟩:=kk.out.1.at aC;obtain⟨ay,j1,j2⟩:=kk.out.2.at (ai:k<own.length);have l1:=i2 (h.push ((ml (λj=>lI n (al a j) (al own j)) (br a.length 0) 0 k).map im)) (kk.out.1.mono λ_ _ q=>bh q);have l2:=j2 (h.push ((ml (λj=>lI n (al a j) (al own j)) (br a.length 0) 0 k).map im)) (kk.out.2.mono λ_ _ q=>bh q);have c1:=λh=>arT n (al own k) h;have c2:=λh=>aqc (al a k) (0 - df n (al own k)) h;have fl:lI n (al a k) (al own k)=dj (al a k) (0 - df n (al own k)):=by rw[Uo];rfl
  have fz:=Ac (HH n (al own k));have cU:(br a.length (0:Int)).length=a.length:=mX;have sk:=Ak (H:=h.push ((ml (λj=>lI n (al a j) (al own j)) (br a.length 0) 0 k).map im)) (b:=h.boxes.length) (r:=ml (λj=>lI n (al a j) (al own j)) (br a.length 0) 0 k) (k:=k) (x:=lI n (al a k) (al own k)) (bg _ _) (by rw[tA,cU];exact aC);have cs:=Ws (f:=λj=>lI n (al a j) (al own j)) (a:=br a.length 0) (cD k) (by rw[cU];exact aC);rw[qs,cs,fl] at sk;have ix:=rH (b:=h.boxes.length) (len:=a.length) (aF:=a.length) (k:=.i64) aC;have fw:(k:Int)<(a.length:Int):=by omega
  clear i2 j2 cs fl;generalize df n (al own k)=z at *
  unfold im at *
  refine bC @MH ?_;refine eJ VU aw ?_;refine bC @MH ?_;exact⟨a.length - (k+1),by omega,k+1,by omega,rfl,by simp⟩
 ·have:k=a.length:=by omega
  subst this;refine bC @MH ?_;refine⟨_,_,rfl,.push _ _,rfl,?_⟩;rw[bg];congr 2;refine yD (by rw[tA,wV hl.symm,mX]) λj hj=>?_;rw[tA,mX] at hj;rw[EO (by rw[mX];exact hj),aH ⟨cD _,hj⟩,xO hl.symm hj]
def avZ(h:ar)(x:AV)(a:List Int)(n:Int)(hx:IS h x a)(hw:a.length<=1000000)(hn:0<=n/\n<=9223372036854775807):
 ∃r h',W3.call 195 [x,im n] h=aa (r,h')/\Ext h h'/\∃b,r=.ret (.arr b 0 a.length a.length)/\h'.boxes[b]?=aa ((scaleB a n).map im):=by
 have mk:=BH h a.length hw .i64 .i64;have lx:=hx.len;have hz:(h.push (br a.length (im 0))).boxes[h.boxes.length]?=aa ((br a.length (0:Int)).map im):=by rw[bg,y9]
 have mo:(br a.length (0:Int)).length=a.length:=mX;obtain⟨r,h',c,X,rfl,hb⟩:=aac (h.push (br a.length (im 0))) (.arr h.boxes.length 0 a.length a.length) x (br a.length 0) a (0 - n) (.inr ⟨h.boxes.length,by rw[mo],hz⟩) (hx.mono λ_ _ q=>bh q) mo.symm (by rw[mo];exact hw);rw[mo] at c;rw[Uo] at hb;have kk:=ao.mk (az X hb);clear hx hz mo X hb;unfold im at c mk ⊢;refine di rfl Tryz.func195 rfl ?_;refine bC @asR ?_;exact⟨_,_,rfl,(Ext.push _ _).trans kk.out.1,_,rfl,kk.out.2⟩
def Js:Tryz.f193.results.toList=[.tmp 2]:=aw
def aaE(h:ar)(x:AV)(l:List Int)(hx:IL x l)(hl:l.length<=1000000):∃r h',W3.call 193 [x] h=aa (r,h')/\h'=h/\r=.ret (.v (.bool (l.all cA))):=by
 obtain⟨k,s,rfl,hs⟩:=hx;have ks:=ao.mk hs;clear hs;have u23:=dY;have z3:=fR;have cY:=dE l;refine di rfl Tryz.func193 rfl ?_;refine bC @Js ?_;refine cH (λm e H=>∃i:Nat,i<=l.length/\m=l.length - i/\ao ((l.take i).all cA=ah)/\e.get 0=.list k s (ints l)/\e.get 3=.v (.int .i64 (i:Nat))/\e.defers=[]/\H=h) ?_ l.length _ _ ?_;rotate_left 1
 ·refine⟨0,cD _,rfl,⟨bJ⟩,?_,?_,?_,rfl⟩<;>exact gR
 rintro m e H ⟨i,hi,rfl,ka,g0,g3,hd,rfl⟩;by_cases aC:i<l.length
 ·have bD:s=1:=ks.out (by intro q;rw[q] at aC;simp at aC);subst bD;have ld:=ev (H:=H) (s:=1) aC;have hv:l[i]?=aa (al l i):=by rw[aU aC,fB aC]
  have fw:(i:Int)<(l.length:Int):=by omega
  have mn:(l.take (i+1)).all cA=cA (al l i):=by rw[fE hv,List.all_append,ka.out];simp
  have qN:=dy hv;have kt:=ao.mk (az mn qN);have hq:cA (al l i)=(decide (0<=al l i)&&decide (al l i<1073741789)):=rfl;clear hv mn qN;generalize al l i=n at *
  by_cases c1:n<0
  ·have eM:decide (n<0)=ah:=(by simp[c1]);have hf:l.all cA=aB:=(by rw[Es];exact⟨n,kt.out.2,by rw[hq];simp;omega⟩);have kf:=ao.mk hf;clear hf hq c1;refine bQ @Js @bp ?_;exact⟨_,_,rfl,rfl,by rw[kf.out]⟩
  ·have eM:decide (n<0)=aB:=(by simp[c1]);by_cases c2:1073741789<=n
   ·have iF:decide (1073741789<=n)=ah:=(by simp[c2]);have hf:l.all cA=aB:=(by rw[Es];exact⟨n,kt.out.2,by rw[hq];simp;omega⟩);have kf:=ao.mk hf;clear hf hq c1 c2;refine bQ @Js @bp ?_;exact⟨_,_,rfl,rfl,by rw[kf.out]⟩
   ·have iF:decide (1073741789<=n)=aB:=(by simp;omega);have kt2:ao ((l.take (i+1)).all cA=ah):=⟨by rw[kt.out.1,hq];simp;omega⟩;clear hq c1 c2;refine bQ @Js @bp ?_;exact⟨l.length - (i+1),by omega,i+1,by omega,rfl,kt2,by simp⟩
 ·have:i=l.length:=by omega
  subst this;have:=ka.out;rw[fN] at this;have kan:=ao.mk this;clear this;refine bC @Js ?_;exact⟨_,_,rfl,rfl,by rw[kan.out]⟩
def Gd:Tryz.f192.results.toList=[.tmp 2]:=aw
def ZI{l:List Int}(h:∀x∈l,okF x):l.all cA=ah:=by rw[eK];intro x hx;obtain⟨h1,h2⟩:=h x hx;unfold cA;simp[h1,h2]
def aqg(h:ar)(x:AV)(ae:List (List Int))(w:Nat)(hx:RL x ae)(hr:ae.length<=64)(hw:∀r∈ae,r.length=w)(oV:w<=64)(bB:∀r∈ae,∀x∈r,okF x):∃h',W3.call 192 [x] h=aa (.ret (.v (.int .i64 0)),h')/\h'=h:=by
 obtain⟨k,s,xs,rfl,hs,dR,eG⟩:=hx;have kk:=ao.mk (az hs (az eG (az hw bB)));clear hs eG hw bB;have u23:=dY;have u22:=jf;have z23:=iA;have cY:(xs.map λa=>[a]).length=ae.length:=by rw[bF];exact dR
 have K7:¬((64:Int)<(ae.length:Int)):=by omega
 refine iD rfl Tryz.func192 rfl ?_;refine bC @Gd ?_;refine cH (λm e H=>∃i:Nat,i<=ae.length/\m=ae.length - i/\e.get 0=.list k s (xs.map λa=>[a])/\e.get 3=.v (.int .i64 (i:Nat))/\e.defers=[]/\H=h) ?_ ae.length _ _ ?_;rotate_left 1
 ·refine⟨0,cD _,rfl,?_,?_,?_,rfl⟩<;>exact gR
 rintro m e H ⟨i,hi,rfl,g0,g3,hd,rfl⟩;by_cases aC:i<ae.length
 ·have bD:s=1:=kk.out.1 (by intro q;rw[q] at aC;simp at aC);subst bD;obtain⟨a,fS⟩:∃a,xs[i]?=aa a:=⟨_,aU ai⟩;obtain⟨r,hv⟩:∃r,ae[i]?=aa r:=⟨_,aU aC⟩;have ld:=mf (H:=H) (s:=1) fS;obtain⟨ka,sa,rfl,jj⟩:=kk.out.2.1 i a r fS hv;have cU:=kk.out.2.2.1 r (dy hv);have wP:(ints r).length=w:=by rw[dE];exact cU
  have fw:(i:Int)<(ae.length:Int):=by omega
  have hwd:¬((64:Int)<(w:Int)):=by omega
  clear fS hv jj cU;refine bQ @Gd @bp ?_;exact⟨ae.length - (i+1),by omega,i+1,by omega,rfl,by simp⟩
 ·refine bC @Gd ?_;refine bM.gen λe0 aG bE cZ cV=>?_;have f0:e0.get 0=.list k s (xs.map λa=>[a]):=by rw[aG];simp only[gW,reduceIte,aS,aO];exact g0
  have f4:e0.get 4=.v (.int .i64 (0:Nat)):=by rw[aG];exact gR
  have fd:e0.defers=[]:=by rw[bE];simp only[gW,reduceIte,aS,aO];exact hd
  clear aG bE cZ cV g0 g3 hd hi aC;refine cH (λm e H2=>∃i:Nat,i<=ae.length/\m=ae.length - i/\e.get 0=.list k s (xs.map λa=>[a])/\e.get 4=.v (.int .i64 (i:Nat))/\e.defers=[]/\H2=H) ?_ ae.length _ _ ?_;rotate_left 1
  ·exact⟨0,cD _,rfl,f0,f4,fd,rfl⟩
  clear f0 f4 fd;rintro m e H ⟨i,hi,rfl,g0,g4,hd,rfl⟩;by_cases aC:i<ae.length
  ·have bD:s=1:=kk.out.1 (by intro q;rw[q] at aC;simp at aC);subst bD;obtain⟨a,fS⟩:∃a,xs[i]?=aa a:=⟨_,aU ai⟩;obtain⟨r,hv⟩:∃r,ae[i]?=aa r:=⟨_,aU aC⟩;obtain⟨a0,gM⟩:∃a,xs[0]?=aa a:=⟨_,aU ai⟩;obtain⟨r0,gN⟩:∃r,ae[0]?=aa r:=⟨_,aU ai⟩;have ld:=mf (H:=H) (s:=1) fS;have ld0:=mf (H:=H) (s:=1) gM;obtain⟨ka,sa,rfl,jj⟩:=kk.out.2.1 i a r fS hv;obtain⟨ka0,sa0,rfl,qQ⟩:=kk.out.2.1 0 a0 r0 gM gN;have cU:=kk.out.2.2.1 r (dy hv);have uH:=kk.out.2.2.1 r0 (dy gN);obtain⟨_,H5,cc,e5,rfl⟩:=aaE H (.list ka sa (ints r)) r ⟨_,_,rfl,jj⟩ ai;rw[e5,ZI (kk.out.2.2.2 r (dy hv))] at cc;have wP:(ints r).length=w:=(by rw[dE];exact cU);have Fz:(ints r0).length=w:=(by rw[dE];exact uH);have fw:(i:Int)<(ae.length:Int):=(by omega);have zA:(0:Int)<(ae.length:Int):=(by omega);have z0:(0:Int).toNat=0:=rfl;have Ie:decide ((w:Int)=(w:Int))=ah:=(by simp);clear fS hv jj cU gM gN qQ uH e5;refine bQ @Gd @bp ?_;refine eJ VU aw ?_;refine bQ @Gd @bp ?_;exact⟨ae.length - (i+1),by omega,i+1,by omega,rfl,by simp⟩
  ·refine bC @Gd ?_;exact⟨_,rfl,rfl⟩
def abL:Tryz.f172.results.toList=[.tmp 4]:=aw
def aqx(h:ar)(x y:AV)(ae:List (List Int))(target:List Int)(hx:RL x ae)(hy:IL y target)(hr:ae.length<=64)(hw:∀r∈ae,r.length=target.length)(oV:target.length<=64)(bB:∀r∈ae,∀x∈r,okF x)(pI:∀x∈target,okF x):
 W3.call 172 [x,y] h=aa (.ret (.v (.int .i64 0)),h):=by
 obtain⟨h1,c1,e1⟩:=aqg h x ae target.length hx hr hw oV bB;rw[e1] at c1;obtain⟨_,h2,c2,e2,rfl⟩:=aaE h y target hy ai;rw[e2,ZI pI] at c2;clear e1 e2 h1 h2;obtain⟨k,s,xs,rfl,hs,dR,eG⟩:=hx;obtain⟨ky,sy,rfl,lj⟩:=hy;have u23:=dY;have u22:=jf;have z23:=iA;have cY:(xs.map λa=>[a]).length=ae.length:=by rw[bF];exact dR
 have vw:=dE target;have K7:¬((64:Int)<(target.length:Int)):=by omega
 clear bB pI;refine cN rfl Tryz.func172 rfl ?_;by_cases h0:ae.length=0
 ·have hq:decide ((0:Int)<(ae.length:Int))=aB:=cS ai;clear hw eG h0;exact lV @abL
 ·have hq:decide ((0:Int)<(ae.length:Int))=ah:=b8 ai;obtain⟨a0,gM⟩:∃a,xs[0]?=aa a:=⟨_,aU ai⟩;obtain⟨r0,gN⟩:∃r,ae[0]?=aa r:=⟨_,aU ai⟩;have bD:s=1:=hs (by intro q;rw[q] at h0;simp at h0);subst bD;have ld0:=mf (H:=h) (s:=1) gM;obtain⟨ka0,sa0,rfl,qQ⟩:=eG 0 a0 r0 gM gN;have uH:=hw r0 (dy gN);have Fz:(ints r0).length=target.length:=by rw[dE];exact uH
  have zA:(0:Int)<(ae.length:Int):=by omega
  have z0:(0:Int).toNat=0:=rfl;have Ie:decide ((target.length:Int)=(target.length:Int))=ah:=by simp
  clear hw eG gM gN uH hs h0;exact jw @abL @bp
def L4:List bq:=[28,29,30,46,65,66,69,76,78,82,94,97,118,119,120,121,123,132,138,140,146,172,194,195,196,201]
noncomputable def F7:bq->Option (List AV->ar->Option (AV × ar)):=qG W3 L4
noncomputable abbrev W4:=whole aq Gt F7
def xS:qu F7 L4:=xU
section
variable (a b n x:Int)
def Vc:∀h,W4.call 28 [im a,im b] h=aa (.ret (im (dj a b)),h):=bm (L:=L4) rfl rfl rfl (ae8 a b _) rfl rfl
def aar:∀h,W4.call 29 [im a,im b] h=aa (.ret (im (df a b)),h):=bm (L:=L4) rfl rfl rfl (anU a b _) rfl rfl
def ac1:∀h,W4.call 46 [im x] h=aa (.ret (.v (.bool (bN x))),h):=bm (L:=L4) rfl rfl rfl (awo x _) rfl rfl
def aks:∀h,W4.call 69 [im a,im b] h=aa (.ret (.tuple [im (jL a b),im (mM a b)]),h):=bm (L:=L4) rfl rfl rfl (akr a b _) rfl rfl
def Py:∀h,W4.call 30 [im a,im n] h=aa (.ret (.tuple [im (fH a n),im (ni a)]),h):=bm (L:=L4) rfl rfl rfl (akw a n _) rfl rfl
def aq9:∀h,W4.call 194 [im n] h=aa (.ret (.tuple [im (if fmod n=0 then 0 else eU n),im (if fmod n=0 then 90 else 0)]),h):=bm (L:=L4) rfl rfl rfl (aq8 n _) rfl rfl
def atJ:∀h,W4.call 94 [im x] h=aa (.ret (.v (.bool (bN x))),h):=bm (L:=L4) rfl rfl rfl (atI x _) rfl rfl
def aqJ:∀h,W4.call 140 [im a,im b] h=aa (.ret (.tuple [im (jL a b),im (mM a b)]),h):=bm (L:=L4) rfl rfl rfl (aqI a b _) rfl rfl
def aqQ:∀h,W4.call 132 [im a,im n] h=aa (.ret (.tuple [im (fH a n),im (ni a)]),h):=bm (L:=L4) rfl rfl rfl (aqP a n _) rfl rfl
def aq3:∀h,W4.call 120 [im n] h=aa (.ret (.agg (aM 1 n [] .nil 0 [])),h):=bm (L:=L4) rfl rfl rfl (aq2 n _) rfl rfl
end
def anc(x y)(a own)(n)(hx:IL x a)(hy:IL y own)(hl:own.length=a.length)(hw:a.length<=1000000):∀h,W4.call 196 [x,y,im n] h=aa (.ret (.list .held 1 (ints (js n a own))),h):=by obtain⟨h1,h2⟩:=hx.hold;obtain⟨h3,h4⟩:=hy.hold;obtain⟨r,h',hc,-,rfl,hb⟩:=aac ⟨[],[],0,[]⟩ (aD x) (aD y) a own n (.inl h1) (.inl h3) hl hw;exact bm (L:=L4) (b7:=[aD x,aD y,im n]) rfl rfl (by simp[aR,h2,h4,aK,im]) hc (Dw hb (wV hl.symm)) (by simp[aK,nL,sV])
def ab7(a)(n):(scaleB a n).length=a.length:=by unfold scaleB;rw[wV (by rw[mX]),mX]
def av0(x)(a)(n)(hx:IL x a)(hw:a.length<=1000000)(hn:0<=n/\n<=9223372036854775807):∀h,W4.call 195 [x,im n] h=aa (.ret (.list .held 1 (ints (scaleB a n))),h):=by obtain⟨h1,h2⟩:=hx.hold;obtain⟨r,h',hc,-,b,rfl,hb⟩:=avZ ⟨[],[],0,[]⟩ (aD x) a n (.inl h1) hw hn;exact bm (L:=L4) (b7:=[aD x,im n]) rfl rfl (by simp[aR,h2,aK,im]) hc (Dw hb (ab7 a n)) (by simp[aK,nL,sV])
def ae3(k0)(s0)(xs:List AV)(y z)(ae)(ag au)(hx:RL (.list k0 s0 (xs.map λa=>[a])) ae)(hy:IL y ag)(hz:IL z au)(jG:au.length<=1099511627776):
 (∃e,fV ae ag au=([],aB,e)/\∀h,W4.call 76 [.agg [.list k0 s0 (xs.map λa=>[a]),y],z] h=aa (.ret (.tuple [.list .nil 0 [],.v (.bool aB),.v (.int .i64 e)]),h))∨
 ∃l,fV ae ag au=(l,ah,0)/\l.length=ae.length/\∀h,W4.call 76 [.agg [.list k0 s0 (xs.map λa=>[a]),y],z] h=aa (.ret (.tuple [.list .held 1 (ints l),.v (.bool ah),.v (.int .i64 0)]),h):=by
 obtain⟨h1,h2⟩:=hx.hold;obtain⟨h3,h4⟩:=hy.hold;obtain⟨h5,h6⟩:=hz.hold;have ea:bZ [.agg [.list k0 s0 (xs.map λa=>[a]),y],z]=[.agg [.list (bX k0) s0 ((xs.map aD).map λa=>[a]),aD y],aD z]:=by rw[bZ,aD,bZ,bZ,bZ,aD,Dk];rfl
 have ef:aR 0 0 0 [.agg [.list (bX k0) s0 ((xs.map aD).map λa=>[a]),aD y],aD z]=ah:=by have hf:=zv _ h2;rw[aR,aK,aR,aR,aR,aR,aK,fx,hf,h4,h6];rfl
 obtain⟨r,h',hc,-,⟨e,e1,rfl⟩|⟨l,b,e1,e2,rfl,e3⟩⟩:=ae6 ⟨[],[],0,[]⟩ (bX k0) s0 (xs.map aD) (aD y) (aD z) ae ag au h1 h3 h5 jG
 ·exact .inl ⟨e,e1,bm (L:=L4) rfl ea ef hc rfl rfl⟩
 ·refine .inr ⟨l,e1,e2,bm (L:=L4) rfl ea ef hc ?_ (by simp[aK,aR,nL,sV])⟩;rw[gX,uJ,Dw e3 e2];rfl
def aqy(x y)(ae)(target)(hx:RL x ae)(hy:IL y target)(hr:ae.length<=64)(hw:∀r∈ae,r.length=target.length)(oV:target.length<=64)(bB:∀r∈ae,∀x∈r,okF x)(pI:∀x∈target,okF x):
 ∀h,W4.call 172 [x,y] h=aa (.ret (.v (.int .i64 0)),h):=by
 obtain⟨h1,h2⟩:=hx.fD;obtain⟨h3,h4⟩:=hy.hold;exact bm (L:=L4) (b7:=[aD x,aD y]) rfl rfl (by simp[aR,h2,h4]) (aqx ⟨[],[],0,[]⟩ (aD x) (aD y) ae target h1 h3 hr hw oV bB pI) rfl rfl
def Mz:Tryz.f137.results.toList=[.tmp 4]:=aw
def akT(h:ar)(x:AV)(l:List Int)(n:Int)(hx:IL x l)(hl:l.length<=1099511627776):∃r h',W4.call 137 [x,im n] h=aa (r,h')/\h'=h/\r=.ret (.v (.bool (l.contains n))):=by
 obtain⟨k,s,rfl,hs⟩:=hx;have ks:=ao.mk hs;clear hs;have u23:=dY;have z3:=fR;have cY:=dE l;unfold im;refine di rfl Tryz.func137 rfl ?_;refine bC @Mz ?_;refine cH (λm e H=>∃i:Nat,i<=l.length/\m=l.length - i/\ao ((l.take i).contains n=aB)/\e.get 0=.list k s (ints l)/\e.get 1=.v (.int .i64 n)/\e.get 5=.v (.int .i64 (i:Nat))/\e.defers=[]/\H=h) ?_ l.length _ _ ?_;rotate_left 1
 ·refine⟨0,cD _,rfl,⟨bJ⟩,?_,?_,?_,?_,rfl⟩<;>exact gR
 rintro m e H ⟨i,hi,rfl,ka,g0,g1,g5,hd,rfl⟩;by_cases aC:i<l.length
 ·have bD:s=1:=ks.out (by intro q;rw[q] at aC;simp at aC);subst bD;have ld:=ev (H:=H) (s:=1) aC;have hv:l[i]?=aa (al l i):=by rw[aU aC,fB aC]
  have fw:(i:Int)<(l.length:Int):=by omega
  have kv:=ao.mk hv;clear hv;by_cases hc:al l i=n
  ·have eM:decide (al l i=n)=ah:=(by simp[hc]);have hf:l.contains n=ah:=(by rw[Et,b8];rw[<-hc];exact dy kv.out);have kf:=ao.mk hf;clear hf;have khc:=ao.mk hc;generalize al l i=v at *
   clear hc
   repeat' (first|simp(maxSteps:=999999)(disch:=first|exact dZ|fail)only[gW,reduceIte,aS,aO,Mz,bp, *]|refine dX ?_ ?_<;>(intro _;try omega))
   all_goals first|exact⟨_,_,rfl,rfl,by rw[kf.out]⟩|exact absurd khc.out (by assumption)
  ·have eM:decide (al l i=n)=aB:=(by simp[hc]);have kt2:ao ((l.take (i+1)).contains n=aB):=⟨by
    have:=ka.out;rw[fE kv.out];rw[Et,decide_eq_false_iff_not] at *
    rw[xA,not_or];exact⟨this,by rw[nC];exactλq=>hc q.symm⟩⟩
   repeat' (first|simp(maxSteps:=999999)(disch:=first|exact dZ|fail)only[gW,reduceIte,aS,aO,Mz,bp, *]|refine dX ?_ ?_<;>(intro _;try omega))
   all_goals exact⟨l.length - (i+1),by omega,i+1,by omega,rfl,kt2,by simp⟩
 ·have:i=l.length:=by omega
  subst this;have:=ka.out;rw[fN] at this;have kan:=ao.mk this;clear this;refine bC @Mz ?_;exact⟨_,_,rfl,rfl,by rw[kan.out]⟩
def asA:Tryz.f135.results.toList=[.tmp 2]:=aw
def avO(h:ar)(n:Nat)(h1:0<n)(h2:n<=1000000):W4.call 135 [im (n:Nat)] h=aa (.ret (.arr h.boxes.length 0 n n),h.push ((gj n).map im)):=by
 have mk:=BH h n h2 .i64 .i64;have oS:br n (im 0)=(br n (0:Int)).map im:=by rw[y9]
 rw[oS] at mk;have sk:=Ak (H:=h.push ((br n (0:Int)).map im)) (b:=h.boxes.length) (r:=br n (0:Int)) (k:=0) (x:=1) (bg _ _) (by rw[mX];exact h1);have wR:(br n (0:Int)).set 0 1=gj n:=by obtain⟨c,rfl⟩:∃c,n=c+1:=⟨n - 1,by omega⟩;unfold gj;rw[Cc];rfl
 rw[qs,wR] at sk;have ix:dS aq 23 (.arr h.boxes.length 0 n n) (.v (.int .i64 0))=aa (.ptr (.box h.boxes.length) 0):=rH (n:=0) (k:=.i64) h1;clear oS wR;unfold im at *
 refine cN rfl Tryz.func135 rfl ?_;exact lV @asA
def abD:Tryz.f136.results.toList=[.tmp 2]:=aw
def aie(h:ar)(x y:AV)(ae:List (List Int))(ag:List Int)(hx:RL x ae)(hy:IL y ag):∃h',W4.call 136 [.agg [x,y]] h=aa (.ret (.v (.int .i64 (bP ae:Nat))),h')/\h'=h.push [x,y]:=by
 obtain⟨k,s,xs,rfl,hs,dR,eG⟩:=hx;have bx:(AV.agg [.list k s (xs.map λa=>[a]),y]).cd=aa [.list k s (xs.map λa=>[a]),y]:=by obtain⟨ky,sy,rfl,-⟩:=hy;rfl
 have l0:=qS (bg h [.list k s (xs.map λa=>[a]),y]);have u23:=dY;have u22:=jf;have z23:=iA;have cY:(xs.map λa=>[a]).length=ae.length:=by rw[bF];exact dR
 refine iD rfl Tryz.func136 rfl ?_;by_cases h0:ae.length=0
 ·have hq:(ae.length:Int)=0:=by omega
  have hc:bP ae=1:=by unfold bP;rw[aH h0]
  rw[hc];clear h0 eG hs dR hc;refine cX @abD @bu @dK ?_;exact⟨_,rfl,rfl⟩
 ·have hq:¬((ae.length:Int)=0):=by omega
  obtain⟨a0,gM⟩:∃a,xs[0]?=aa a:=⟨_,aU ai⟩;obtain⟨r0,gN⟩:∃r,ae[0]?=aa r:=⟨_,aU ai⟩;have bD:s=1:=hs (by intro q;rw[q] at h0;simp at h0);subst bD;have ld0:=mf (H:=h.push [.list k 1 (xs.map λa=>[a]),y]) (s:=1) gM;obtain⟨ka0,sa0,rfl,qQ⟩:=eG 0 a0 r0 gM gN;have hc:bP ae=r0.length:=by unfold bP;rw[aJ h0,eE,gN];rfl
  rw[hc];have cU:=dE r0;have zA:(0:Int)<(ae.length:Int):=by omega
  have z0:(0:Int).toNat=0:=rfl;clear h0 eG hs dR hc gM gN qQ;refine bK @abD @bu @dK @bp ?_;exact⟨_,rfl,rfl⟩
def vR:Tryz.f93.results.toList=[.tmp 2]:=aw
def aoZ(h:ar)(x:AV)(l:List Int)(hx:IL x l)(hl:l.length<=9223372036854775807):∃r h',W4.call 93 [x] h=aa (r,h')/\h'=h/\r=.ret (.v (.bool (fU (-1) l))):=by
 obtain⟨k,s,rfl,hs⟩:=hx;have ks:=ao.mk hs;clear hs;have u23:=dY;have z3:=fR;have cY:=dE l;refine di rfl Tryz.func93 rfl ?_;refine bC @vR ?_;refine cH (λm e H=>∃(i:Nat) (dk:Int),i<=l.length/\m=l.length - i/\ao (fU dk (l.drop i)=fU (-1) l)/\ -1<=dk/\ao (i=0->dk= -1)/\ao (0<i->al l (i - 1)=dk)/\e.get 0=.list k s (ints l)/\e.get 3=.v (.int .i64 (i:Nat))/\e.defers=[]/\H=h) ?_ l.length _ _ ?_;rotate_left 1
 ·refine⟨0,-1,cD _,rfl,⟨rfl⟩,NO _,⟨λ_=>rfl⟩,⟨λq=>absurd q (Hg _)⟩,?_,?_,?_,rfl⟩<;>exact gR
 rintro m e H ⟨i,dk,hi,rfl,kP,mC,k0,k1,g0,g3,hd,rfl⟩;by_cases aC:i<l.length;rotate_left 1
 ·have:i=l.length:=by omega
  subst this;have hf:fU (-1) l=ah:=by rw[<-kP.out,rh (aL _)];rfl
  have kf:=ao.mk hf;clear hf;refine bC @vR ?_;exact⟨_,_,rfl,rfl,by rw[kf.out]⟩
 have bD:s=1:=ks.out (by intro q;rw[q] at aC;simp at aC);subst bD;have ld:=ev (H:=H) (s:=1) aC;have fw:(i:Int)<(l.length:Int):=by omega
 have qg:l.drop i=al l i::l.drop (i+1):=by rw[fB aC];exact y6 aC
 have sC:=kP.out;rw[qg,fU] at sC;have kpf:=ao.mk sC;clear sC qg;by_cases c1:al l i<0
 ·have eM:decide (al l i<0)=ah:=by simp[c1]
  have hf:fU (-1) l=aB:=by rw[<-kpf.out];simp;omega
  have kf:=ao.mk hf;clear hf c1;refine bQ @vR @bp ?_;refine eJ xS aw ?_;refine bQ @vR @bp ?_;exact⟨_,_,rfl,rfl,by rw[kf.out]⟩
 have eM:decide (al l i<0)=aB:=by simp[c1]
 by_cases c2:64<=al l i
 ·have iF:decide (64<=al l i)=ah:=by simp[c2]
  have hf:fU (-1) l=aB:=by rw[<-kpf.out];simp;omega
  have kf:=ao.mk hf;clear hf c1 c2;refine bQ @vR @bp ?_;refine eJ xS aw ?_;refine bQ @vR @bp ?_;exact⟨_,_,rfl,rfl,by rw[kf.out]⟩
 have iF:decide (64<=al l i)=aB:=by simp;omega
 by_cases Qf:i=0
 ·subst Qf;have Br:=k0.out rfl;have kP2:ao (fU (al l 0) (l.drop (0+1))=fU (-1) l):=⟨by rw[<-kpf.out,b8 (ai:dk<al l 0),b8 (ai:al l 0<=63)];rfl⟩;have Dg: -1<=al l 0:=by omega
  have kk1:ao (0<0+1->al l (0+1 - 1)=al l 0):=⟨λ_=>rfl⟩;clear c1 c2 Br kpf;refine bQ @vR @bp ?_;refine eJ xS aw ?_;refine bQ @vR @bp ?_;exact⟨l.length - 1,by omega,0+1,al l 0,by omega,rfl,kP2,Dg,⟨λq=>absurd q ai⟩,kk1,by simp⟩
 ·have Fl:=k1.out ai;have ld1:=ev (H:=H) (l:=l) (i:=i - 1) (s:=1) ai;rw[Fl] at ld1;have Lu:decide ((0:Int)<(i:Int))=ah:=b8 ai;have jW:(i:Int) - 1=((i - 1:Nat):Int):=by omega
  have alM:((i - 1:Nat):Int)<(l.length:Int):=by omega
  by_cases c3:al l i<=dk
  ·have uA:decide (al l i<=dk)=ah:=(by simp[c3]);have hf:fU (-1) l=aB:=(by rw[<-kpf.out];simp;omega);have kf:=ao.mk hf;clear hf c1 c2 c3 Fl;refine bQ @vR @bp ?_;refine eJ xS aw ?_;refine bQ @vR @bp ?_;exact⟨_,_,rfl,rfl,by rw[kf.out]⟩
  ·have uA:decide (al l i<=dk)=aB:=(by simp;omega);have kP2:ao (fU (al l i) (l.drop (i+1))=fU (-1) l):=⟨by rw[<-kpf.out,b8 (ai:dk<al l i),b8 (ai:al l i<=63)];rfl⟩;have Dg: -1<=al l i:=(by omega);have kk1:ao (0<i+1->al l (i+1 - 1)=al l i):=⟨λ_=>rfl⟩;clear c1 c2 c3 Fl kpf;refine bQ @vR @bp ?_;refine eJ xS aw ?_;refine bQ @vR @bp ?_;exact⟨l.length - (i+1),by omega,i+1,al l i,by omega,rfl,kP2,Dg,⟨λq=>absurd q ai⟩,kk1,by simp⟩
end Go.Proofs.YtnfciiiohoafaaaGreatDoor
end
