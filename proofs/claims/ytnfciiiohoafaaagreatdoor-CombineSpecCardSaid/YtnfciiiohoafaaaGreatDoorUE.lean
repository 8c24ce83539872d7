/-
  Part of the proof: UE.
-/
import Derived.Test.YtnfciiiohoafaaaGreatDoorUD
open True renaming intro->aU
open Option renaming some->aa,none->au
open List renaming getElem?_eq_some_iff->aS,mem_of_getElem?->dj,length_set->mr,getElem?_set_self->Nj,getElem?_eq_getElem->aR,mem_or_eq_of_mem_set->wS,range->bM,getElem_map->p9,getElem_range->Bv,length_append->dw,length_take->eS,length_drop->hJ,getElem?_map->ej,length_map->bu,map_set->adf,set_eq_take_append_cons_drop->BA,getElem?_set->mL,set_set->DW,contains_eq_mem->DT,set_set_perm->adn,length_cons->iP,length_nil->kQ,map_append->mw,getElem_of_mem->ac6,mem_append->wR,mem_of_mem_take->pE,mem_map->jP,getElem?_of_mem->uJ,range_succ->om,foldl_append->oj,getD_eq_getElem?_getD->ez,mem_cons_self->fW,mem_singleton->my,take_succ_cons->hU,take_zero->fR,mem_cons_of_mem->fE,replicate->a9,replicate_succ->Bz,append_nil->jr,getElem?_append_left->sH,getElem?_concat_length->Gk,take_of_length_le->gm,take_length->fC,any_append->Ng,any_eq_true->Gh,nil_append->lJ,any_eq_false->acT,length_replicate->mM,getElem?_zipIdx->ac5,mem_cons->iu,all_eq_true->ey,getElem?_drop->pD,foldl_nil->Gj,map_replicate->yy,map_eq_nil_iff->Gp,mem_range->fQ,getElem_mem->iW,filter_append->DV,filter_cons->Gi,map_cons->eC,length_filter_le->Gm,drop_eq_getElem_cons->Bu,drop_of_length_le->qF,map_inj_right->Np,mem_filter->vG,all_eq_false->DS
open Go.Proofs.Tryz renaming prog->ao,underlying23->dQ,underlying203->GH,underlying22->ji,func218->adW,func154->adP
open And renaming intro->aw
open Nat renaming reduceEqDiff->aO,le_refl->aJ,le_trans->fw,mul_le_mul->qG,zero_add->qb,zero_le->cA,not_lt_zero->tN,lt_or_ge->dW,lt_irrefl->GB,sub_self->uK
open Bool renaming true->ah,and_eq_true->bC,not_eq_true'->zR,false->az,false_or->acx,false_and->yn,and_eq_false_iff->acw
open Int renaming zero_sub->Tt,le_refl->Na,toNat_natCast->dV,lt_trans->acJ
open Decidable renaming not_not->Jz
set_option maxHeartbeats 64000000
set_option maxRecDepth 100000
set_option linter.unusedSimpArgs false
set_option linter.unusedVariables false
set_option linter.constructorNameAsVariable false
set_option linter.defProp false
section
namespace Go.Proofs.YtnfciiiohoafaaaGreatDoor
open Go.AE Go.NT
def R8:Tryz.f203.results.toList=[]:=av
structure jX(H:aq)(tb:Nat)(B:List Nat)(t:List (List Int))(w:Nat):Prop where
 gX:H.boxes[tb]?=aa (B.map λb=>AV.arr b 0 w w)
 len:B.length=t.length
 nd:B.Nodup
 row:∀(i b:Nat) (r:List Int),B[i]?=aa b->t[i]?=aa r->H.boxes[b]?=aa (r.map im)
 wid:∀r∈t,r.length=w
 out:tb∉B
def ZA{l:List Nat}(h:l.Nodup){i j x:Nat}(hi:l[i]?=aa x)(hj:l[j]?=aa x):i=j:=by obtain⟨h1,e1⟩:=aS.1 hi;obtain⟨h2,e2⟩:=aS.1 hj;exact(List.getElem_inj h).1 (e1.trans e2.symm)
def jX.set{H}{tb w i b}{B}{t}(T:jX H tb B t w)(hi:B[i]?=aa b){r}(hr:r.length=w):jX (H.put b (r.map im)) tb B (t.set i r) w:=by
 have cS:=(aS.1 hi).1;have yZ:=dj hi;refine⟨?_,by rw[mr];exact T.len,T.nd,λj b' r' hj gj=>?_,λr' gj=>?_,T.out⟩
 ·rw[cX (λe=>T.out (by rw[e];exact yZ))];exact T.gX
 ·by_cases PF:j=i
  ·subst PF;rw[hi] at hj;injection hj with hj;subst hj;rw[Nj (by rw[<-T.len];exact cS)] at gj;injection gj with gj;subst gj;have jT:j<t.length:=(by rw[<-T.len];exact cS);exact eu (aS.1 (T.row j b _ hi (aR jT))).1
  ·have bG:b'≠b:=λe=>PF (ZA T.nd (by rw[<-e];exact hj) hi);rw[cX bG];rw[List.getElem?_set_ne (λe=>PF e.symm)] at gj;exact T.row j b' r' hj gj
 ·rcases wS gj with q|q
  ·exact T.wid r' q
  ·rw[q];exact hr
def jX.mono{H H'}{tb w}{B}{t}(T:jX H tb B t w)(m:∀(c:Nat) cs,H.boxes[c]?=aa cs->H'.boxes[c]?=aa cs):jX H' tb B t w:=
 ⟨m _ _ T.gX,T.len,T.nd,λi b r hi hr=>m _ _ (T.row i b r hi hr),T.wid,T.out⟩
def nm(n:Int)(a own:List Int)(c k:Nat):List Int:=(bM a.length).map λj=>if c<=j/\j<k then jZ n (ai a j) (ai own j) else ai a j
def uP{n}{a own}{c k}:(nm n a own c k).length=a.length:=by unfold nm;simp
def GY{n}{a own}{c k j}(hj:j<a.length):ai (nm n a own c k) j=if c<=j/\j<k then jZ n (ai a j) (ai own j) else ai a j:=by rw[fm (by rw[uP];exact hj)];unfold nm;rw[p9,Bv]
def ahV{n}{a own}{c}:nm n a own c c=a:=by refine xX uP λj hj=>?_;rw[uP] at hj;rw[GY hj,aI ag]
def ahU{n}{a own}{c k}(hc:c<=k)(hk:k<a.length):(nm n a own c k).set k (jZ n (ai a k) (ai own k))=nm n a own c (k+1):=by
 refine xX (by rw[mr,uP,uP]) λj hj=>?_;rw[mr,uP] at hj;rw[JW (by rw[uP];exact hk),GY hj,GY hj];by_cases AP:j=k
 ·subst AP;rw[aG rfl,aG ag]
 ·rw[aI AP];by_cases q:c<=j/\j<k
  ·rw[aG q,aG ag]
  ·rw[aI q,aI ag]
def ahT{n}{a own}{c}(hl:a.length=own.length)(hc:c<=a.length):nm n a own c a.length=a.take c++je n (a.drop c) (own.drop c):=by
 have hd:(a.drop c).length=(own.drop c).length:=by simp[hl]
 refine xX (by rw[uP,dw,we hd,eS,hJ];omega) λj hj=>?_;rw[uP] at hj;rw[GY hj,Eb hc];by_cases q:j<c
 ·rw[aI ag,aG q]
 ·rw[aG ag,aI q,xc hd (by rw[hJ];omega),JV,JV,(ag:c+(j - c)=j)]
def xS{r}{k}(hk:k<r.length):(r.map im)[k]?=aa (im (ai r k)):=by rw[ej,aR hk,fm hk];rfl
def zJ{H}{b k}{r:List Int}{x}(hb:H.boxes[b]?=aa (r.map im))(hk:k<r.length):b7 ao H 3 (.ptr (.box b) k) (.v (.int .i64 x))=aa (H.put b ((r.set k x).map im)):=by rw[fA (xs:=[im x]) rfl fP hb rfl (by rw[bu];exact hk)];congr 2;unfold eX;rw[adf,BA,aG (by rw[bu];exact hk)];simp
def zy{x}(h:okF x):0<=x/\x<=9223372036854775807:=by obtain⟨h1,h2⟩:=h;have:Qi=1073741789:=rfl;omega
def ag7(h:aq)(tb:Nat)(B:List Nat)(t:List (List Int))(w i y c:Nat)(a own:List Int)(T:jX h tb B t w)(hi:t[i]?=aa a)(hy:t[y]?=aa own)(bG:i≠y)(hc:c<w)(hw:w<=1000000)(bq:∀r∈t,∀x∈r,okF x):
 ∃h',W2.call 203 [.arr tb 0 B.length B.length,im (i:Nat),im (y:Nat),im (c:Nat)] h=aa (.ret (.tuple []),h')/\jX h' tb B (t.set i (vN c a own)) w/\∀n0,gy B n0 h h':=by
 have cS:=(aS.1 hi).1;have zl:=(aS.1 hy).1;obtain⟨bi,uU⟩:∃b,B[i]?=aa b:=⟨_,aR (by rw[T.len];exact cS)⟩;obtain⟨bY,KD⟩:∃b,B[y]?=aa b:=⟨_,aR (by rw[T.len];exact zl)⟩;have ra:=T.row i bi a uU hi;have ro:=T.row y bY own KD hy;have wa:=T.wid a (dj hi);have wo:=T.wid own (dj hy);have uT:bi≠bY:=λe=>bG (ZA T.nd (by rw[e] at uU;exact uU) KD);have xC:=(aS.1 T.gX).1;have awh:=(aS.1 ra).1;have awk:=(aS.1 ro).1;have ak6:tb≠bi:=λe=>T.out (by rw[e];exact dj uU);have Xp:(B.map λb=>AV.arr b 0 w w)[i]?=aa (.arr bi 0 w w):=by rw[ej,uU];rfl
 have hdy:(B.map λb=>AV.arr b 0 w w)[y]?=aa (.arr bY 0 w w):=by rw[ej,KD];rfl
 have oka:=bq a (dj hi);have oko:=bq own (dj hy);have Pz:i<B.length:=by rw[T.len];exact cS
 have hyB:y<B.length:=by rw[T.len];exact zl
 have z3:=MR;have bx1:∀b n m:Nat,(AV.arr b 0 n m).bP=aa [.arr b 0 n m]:=λ_ _ _=>rfl;have bx2:∀n:Int,(AV.v (.int .i64 n)).bP=aa [.v (.int .i64 n)]:=λ_=>rfl;have ixi:=E9 (b:=tb) (len:=B.length) (aD:=B.length) (k:=.i64) Pz;have ixy:=E9 (b:=tb) (len:=B.length) (aD:=B.length) (k:=.i64) hyB;have ixc:=qX (b:=bi) (len:=w) (aD:=w) (k:=.i64) hc;have n0:=zy (qI oka c);have unf:vN c a own=if ai a c=0 then a else nm (ai a c) a own c w:=by unfold vN;rw[<-wa,ahT ag ag]
 rw[unf];clear unf;generalize hn:ai a c=n at *
 have AI:∀(z:AV) (cs ds:List AV),((h.push cs).push ds).boxes[tb]?=aa (B.map λb=>AV.arr b 0 w w)/\((h.push cs).push ds).boxes[bi]?=aa (a.map im):=λz cs ds=>⟨aY (aY T.gX),aY (aY ra)⟩;generalize iY:(h.push [.arr tb 0 B.length B.length]).push [im (i:Nat)]=H2;have l1:∀cs,aH ao Gt (H2.push cs) 203 (.ptr (.box h.boxes.length) 0)=aa (.arr tb 0 B.length B.length):=λcs=>xQ (by rw[<-iY];exact aY (aY (aZ _ _)));have l1':aH ao Gt H2 203 (.ptr (.box h.boxes.length) 0)=aa (.arr tb 0 B.length B.length):=xQ (by rw[<-iY];exact aY (aZ _ _));have l2:aH ao Gt H2 3 (.ptr (.box (h.boxes.length+1)) 0)=aa (.v (.int .i64 (i:Nat))):=mi (by rw[<-iY];exact nt (by rw[cH]));have l3:aH ao Gt H2 23 (.ptr (.box tb) i)=aa (.arr bi 0 w w):=uw (by rw[<-iY];exact aY (aY T.gX)) Xp;have l4:aH ao Gt H2 3 (.ptr (.box bi) c)=aa (.v (.int .i64 n)):=by have:=zw (k:=c) (x:=im (ai a c)) (show H2.boxes[bi]?=aa (a.map im) by rw[<-iY];exact aY (aY ra)) (xS ag);rw[hn] at this;exact this
 have l5:aH ao Gt (H2.push [.v (.int .i64 n)]) 3 (.ptr (.box H2.boxes.length) 0)=aa (.v (.int .i64 n)):=mi (aZ _ _);have s5:b7 ao (H2.push [im 0]) 3 (.ptr (.box H2.boxes.length) 0) (.v (.int .i64 n))=aa (H2.push [.v (.int .i64 n)]):=jx rfl fP rfl rfl;have l6:∀cs,aH ao Gt (H2.push cs) 23 (.ptr (.box tb) y)=aa (.arr bY 0 w w):=λcs=>uw (by rw[<-iY];exact aY (aY (aY T.gX))) hdy;have kH2l:al (H2.boxes.length=h.boxes.length+2):=⟨by rw[<-iY,cH,cH]⟩;have kM2:al (∀n0,gy B n0 h H2):=⟨λn0=>by rw[<-iY];exact(gy.refl.push _).push _⟩;have kT2:al (jX H2 tb B t w):=⟨T.mono λcc cs q=>by rw[<-iY];exact aY (aY q)⟩;have e0:(h.push [AV.arr tb 0 B.length B.length]).push [.v (.int .i64 (i:Nat))]=H2:=iY;have kL2:al (H2.loops=h.loops):=⟨by rw[<-iY];rfl⟩;have kb0:al (H2.boxes[h.boxes.length]?=aa [.arr tb 0 B.length B.length]):=⟨by rw[<-iY];exact aY (aZ _ _)⟩;have kb1:al (H2.boxes[h.boxes.length+1]?=aa [im (i:Nat)]):=⟨by rw[<-iY];exact nt (by rw[cH])⟩;have e1:(h.push [AV.arr tb 0 B.length B.length]).boxes.length=h.boxes.length+1:=cH _ _;have kT:=al.mk T;have ko:=al.mk (aw oka oko);clear AI xC T ra ro bq oka oko iY;unfold im at *
 refine hY rfl Tryz.func203 rfl ?_;by_cases hz:n=0
 ·subst hz;rw[aG rfl];refine bK @R8 @bg ?_;exact⟨_,rfl,by
   have e:t.set i a=t:=by
    apply List.ext_getElem?;intro j;rw[mL];split
    ·rename_i q;subst q;exact hi.symm
    ·rfl
   rw[e];exact kT2.out.mono λcc cs q=>aY q,λn0=>(kM2.out n0).push _⟩
 ·rw[aI hz];have af:=Uq bY w c (H2.push [.v (.int .i64 n)]);unfold im at af;refine bK @R8 @bg ?_;refine bH.gen λe he hd hp lD=>?_;have g4:e.get 4=.ptr (.box h.boxes.length) 0:=by rw[he];exact gS
  have g5:e.get 5=.ptr (.box (h.boxes.length+1)) 0:=by rw[he];exact gS
  have g8:e.get 8=.ptr (.box H2.boxes.length) 0:=by rw[he];exact gS
  have g25:e.get 25=.func (.func 219) [] [.ptr (.box (H2.boxes.length+1+1)) 0,.ptr (.box (H2.boxes.length+1)) 0]:=by rw[he];simp only[gW,reduceIte,aO,aM];simp only[cH]
  have hdf:e.defers=[]:=by rw[hd];exact gS
  clear he hd hp lD;refine Dk (by rw[Aw];exact g25) λrec w1 w2 w3 w4 w5 w6=>?_;have hkk:=kH2l.out;have WT:=kT2.out;have bq:=ko.out;have WN:∀n0,gy B n0 h (((H2.push [.v (.int .i64 n)]).push [.arr bY 0 w w]).push [.v (.int .i64 c)]):=λn0=>(((kM2.out n0).push _).push _).push _;have Hm:jX (((H2.push [.v (.int .i64 n)]).push [.arr bY 0 w w]).push [.v (.int .i64 c)]) tb B t w:=WT.mono λcc cs q=>aY (aY (aY q));have p0:(((H2.push [.v (.int .i64 n)]).push [.arr bY 0 w w]).push [.v (.int .i64 c)]).boxes[H2.boxes.length]?=aa [.v (.int .i64 n)]:=aY (aY (aZ _ _));have p1:(((H2.push [.v (.int .i64 n)]).push [.arr bY 0 w w]).push [.v (.int .i64 c)]).boxes[H2.boxes.length+1]?=aa [.arr bY 0 w w]:=aY (nt (by rw[cH]));have p2:(((H2.push [.v (.int .i64 n)]).push [.arr bY 0 w w]).push [.v (.int .i64 c)]).boxes[H2.boxes.length+1+1]?=aa [.v (.int .i64 c)]:=nt (by rw[cH,cH]);have p3:(((H2.push [.v (.int .i64 n)]).push [.arr bY 0 w w]).push [.v (.int .i64 c)]).boxes[h.boxes.length]?=aa [.arr tb 0 B.length B.length]:=aY (aY (aY kb0.out));have p4:(((H2.push [.v (.int .i64 n)]).push [.arr bY 0 w w]).push [.v (.int .i64 c)]).boxes[h.boxes.length+1]?=aa [.v (.int .i64 i)]:=aY (aY (aY kb1.out));have pL:(((H2.push [.v (.int .i64 n)]).push [.arr bY 0 w w]).push [.v (.int .i64 c)]).loops=h.loops:=kL2.out;generalize ((H2.push [.v (.int .i64 n)]).push [.arr bY 0 w w]).push [.v (.int .i64 c)]=H3 at *
  have WM:H3.loops.length=h.loops.length:=congrArg List.length pL;rw[WM];clear pL;clear l1 l1' l2 l3 l4 l5 s5 l6 e0 e1 af WT kb0 kb1;have dU:=Hm.row i bi a uU hi;have Qm:=Hm.row y bY own KD hy;have jJ:=(aS.1 dU).1;have uo:=(aS.1 (kT.out.gX)).1;have awj:=(aS.1 (kT.out.row i bi a uU hi)).1;have gY:(H3.loop rec).loops[h.loops.length]?=aa rec:=by rw[<-WM];exact @C8 H3 rec
  have I1:∀(k:Nat) (H:aq),H=(H3.loop rec).put bi ((nm n a own c k).map im)->H.boxes[H2.boxes.length+1+1]?=aa [im (c:Nat)]/\H.boxes[H2.boxes.length+1]?=aa [.arr bY 0 w w]/\(k<w->∃cs,H.boxes[bY]?=aa cs/\cs[k]?=aa (im (ai own k))):=by
   rintro k H rfl;refine⟨?_,?_,λhk=>⟨_,?_,xS ag⟩⟩
   ·rw[cX ag];exact p2
   ·rw[cX ag];exact p1
   ·rw[cX (Ne.symm uT)];exact Qm
  have I2:∀(k:Nat) (H:aq),c<=k->k<w->H=(H3.loop rec).put bi ((nm n a own c k).map im)->∃H',W2.round h.loops.length [im (k:Nat),im (ai own k)] H=aa (.ret (.v (.bool ah)),H')/\H'=(H3.loop rec).put bi ((nm n a own c (k+1)).map im):=by
   rintro k H AQ AR rfl;refine II (Post:=λH=>H=(H3.loop rec).put bi ((nm n a own c (k+1)).map im)) gY (by rw[w2];rfl) w5 w6 ?_;have kq:=ahU (n:=n) (own:=own) AQ (ag:k<a.length);have cat:ai (nm n a own c k) k=ai a k:=(by rw[GY ag,aI ag]);have r1:∀t,(nH h.loops.length rec [im (k:Nat),im (ai own k)]).get t=if 27=t then im (ai own k) else if 26=t then im (k:Nat) else e.get t:=λt=>IG w2 w1
   have d1:(nH h.loops.length rec [im (k:Nat),im (ai own k)]).defers=[]:=rfl;obtain⟨K,hK⟩:∃K,((H3.loop rec).put bi ((nm n a own c k).map im)).busy h.loops.length rec=K:=⟨_,rfl⟩;rw[hK];have b1:K.boxes[bi]?=aa ((nm n a own c k).map im):=(by rw[<-hK];exact eu jJ);have b2:K.boxes[h.boxes.length]?=aa [.arr tb 0 B.length B.length]:=(by rw[<-hK];exact(cX ag).trans p3);have b3:K.boxes[h.boxes.length+1]?=aa [im (i:Nat)]:=(by rw[<-hK];exact(cX ag).trans p4);have b4:K.boxes[H2.boxes.length]?=aa [im n]:=(by rw[<-hK];exact(cX ag).trans p0);have b5:K.boxes[tb]?=aa (B.map λb=>AV.arr b 0 w w):=(by rw[<-hK];exact(cX ak6).trans Hm.gX);have m1:=zw b1 (xS (r:=nm n a own c k) (k:=k) (by rw[uP];omega));rw[cat] at m1;have m2:=xQ b2;have m3:=mi b3;have m4:=mi b4;have m5:=uw b5 Xp;have Fb:=qX (b:=bi) (len:=w) (aD:=w) (k:=.i64) AR;have sk:=zJ (r:=nm n a own c k) (k:=k) (x:=jZ n (ai a k) (ai own k)) b1 (by rw[uP];omega);rw[kq] at sk;have wj:=zy (qI bq.1 k);have ok2:=zy (qI bq.2 k);have f1:=λh=>Q5 n (ai own k) h;have f2:=λh=>Uo (ai a k) (0 - cR n (ai own k)) h;have f3:=zy (G8 n (ai own k));have fl:jZ n (ai a k) (ai own k)=cd (ai a k) (0 - cR n (ai own k)):=(by rw[Tt];rfl);rw[fl] at sk;generalize cR n (ai own k)=z at *
   generalize ai a k=z1 at *
   generalize ai own k=z2 at *
   clear hkk g25 dU Qm p0 p1 p2 p3 p4 kH2l kM2 kT2 kT ko cat WN Hm b1 b2 b3 b4 b5 kq fl bq;unfold im at *
   rw[w3,w4];refine yS ?_;refine⟨aU,aU,?_⟩;refine bH.gen λe2 jC ie oy ER=>?_;have q4:e2.get 4=.ptr (.box h.boxes.length) 0:=(by rw[jC];simp only[gW,reduceIte,aO,aM,r1];exact g4);have q5:e2.get 5=.ptr (.box (h.boxes.length+1)) 0:=(by rw[jC];simp only[gW,reduceIte,aO,aM,r1];exact g5);have q8:e2.get 8=.ptr (.box H2.boxes.length) 0:=(by rw[jC];simp only[gW,reduceIte,aO,aM,r1];exact g8);have q9:e2.get 9=.v (.int .i64 k):=(by rw[jC];simp only[gW,reduceIte,aO,aM,r1]);have q10:e2.get 10=.v (.int .i64 z2):=(by rw[jC];simp only[gW,reduceIte,aO,aM,r1]);clear jC ie oy ER r1 d1
   repeat' (first|simp(maxSteps:=999999)(disch:=first|exact dZ|fail)only[gW,reduceIte,aO,aM, *]|(refine dX ?_ ?_<;>(intro _;try omega))|refine ev Ak av ?_)
   rw[<-hK];simp only[aq.put,aq.busy,aq.loop,DW];exact⟨aU,aU,aU⟩
  obtain⟨h',c1,c2⟩:=Ur h.loops.length (H2.boxes.length+1+1) (H2.boxes.length+1) bY w c own (λk H=>H=(H3.loop rec).put bi ((nm n a own c k).map im)) I1 I2 ag hw ((H3.loop rec).put bi ((nm n a own c c).map im)) rfl;have e3:H3.loop rec=(H3.loop rec).put bi ((nm n a own c c).map im):=by rw[ahV];exact(nb (h:=H3.loop rec) dU).symm
  rw[<-e3] at c1;subst c2;clear e3;refine⟨_,_,c1,rec,gY,by rw[w5];decide,.inl ⟨w6,?_⟩⟩;clear c1 w1 w2 w3 w4 w5 w6 gY dU Qm p0 p1 p2 p3 p4 kH2l kM2 kT2 kT ko;refine br @R8 ?_;refine⟨_,rfl,?_,λn0=>(((WN n0).A6 _).trans (.put (dj uU) _)).eW (aJ _) _⟩;have T5:=jX.set (H:=H3.loop rec) (Hm.mono λ_ _ q=>q) uU (r:=nm n a own c w) (by rw[uP];exact wa);exact T5.mono λ_ _ q=>q
structure GM(S:List Nat)(n0:Nat)(h h':aq)(t:Tok):Prop where
 mu:gy S n0 h h'
 can:dm n0 h' t
 ok:cG h'=ah
section
variable {S S':List Nat} {n0:Nat} {h h' h2:aq} {t k:Tok}
def agx(m:∀n,gy S n h h')(c:dm n0 h t):dm n0 h' t:=by
 rcases c with q|q|⟨i,q,q1,q2⟩
 ·exact .inl q
 ·exact .inr (.inl q)
 ·refine .inr (.inr ⟨i,q,q1,?_⟩);have aA:=uM q2;unfold alive at *
  simp only[bC,zR,DT,decide_eq_false_iff_not,decide_eq_true_eq] at *
  exact⟨Nat.lt_of_lt_of_le aA (m 0).tn,λhd=>q2.2 ((m (i+1)).dead i (Nat.lt_succ_self _) hd)⟩
def GM.then(g:GM S n0 h h' t)(m:∀n,gy S n h' h2):GM S n0 h h2 t:=⟨g.mu.trans (m n0),agx m g.can,(m 0).ok g.ok⟩
def GM.app(g:GM S n0 h h' t)(hn:n0<=h.tn):GM S n0 h (h'.app t) (.free h'.tn):=by have G:=Grown.one (n0:=n0) g.can g.ok (fw hn g.mu.tn);exact⟨g.mu.trans G.Q7,G.can,G.ok⟩
def GM.refl(hk:dm n0 h t)(ho:cG h=ah):GM S n0 h h t:=⟨.refl,hk,ho⟩
end
def vq:Tryz.f180.results.toList=[.tmp 4]:=av
def jX.swap{H}{tb w i j bi bj}{B}{t}{a b}(T:jX H tb B t w)(hi:B[i]?=aa bi)(hj:B[j]?=aa bj)(ha:t[i]?=aa a)(hb:t[j]?=aa b):
 jX (H.put tb (((B.set i bj).set j bi).map λb=>AV.arr b 0 w w)) tb ((B.set i bj).set j bi) ((t.set i b).set j a) w:=by
 have cS:=(aS.1 hi).1;have pS:=(aS.1 hj).1;have aA:=(aS.1 T.gX).1;have Yg:((B.set i bj).set j bi).Perm B:=by
  have q:=adn cS pS
  rwa [show B[j]=bj from(aS.1 hj).2,show B[i]=bi from(aS.1 hi).2] at q
 have qn:∀x,x∈(B.set i bj).set j bi->x∈B:=λx hx=>Yg.mem_iff.1 hx;refine⟨eu aA,by simp[T.len],(Yg.nodup_iff).2 T.nd,λk b' r hk hr=>?_,λr hr=>?_,λhx=>T.out (qn _ hx)⟩
 ·have bG:b'≠tb:=λe=>T.out (qn _ (by rw[<-e];exact dj hk));rw[cX bG];rw[mL] at hk hr;rw[mr] at hk hr;by_cases e1:j=k
  ·subst e1;rw[aG rfl,aG pS] at hk;rw[aG rfl,aG (by rw[<-T.len];exact pS)] at hr;injection hk with hk;injection hr with hr;subst hk;subst hr;exact T.row i _ _ hi ha
  ·rw[aI e1] at hk hr;rw[mL] at hk hr;by_cases e2:i=k
   ·subst e2;rw[aG rfl,aG cS] at hk;rw[aG rfl,aG (by rw[<-T.len];exact cS)] at hr;injection hk with hk;injection hr with hr;subst hk;subst hr;exact T.row j _ _ hj hb
   ·rw[aI e2] at hk hr;exact T.row k _ _ hk hr
 ·rcases wS hr with q|q
  ·rcases wS q with q|q
   ·exact T.wid r q
   ·rw[q];exact T.wid _ (dj hb)
  ·rw[q];exact T.wid _ (dj ha)
def pI(x):gf ao 23 1 [(0,.v (.int .i64 x))]=aa (.list .tight 1 [[.v (.int .i64 x)]]):=av
def tQ{H}{k}{n0 sz}{es}{x}(hl:es.length<1099511627776)(hs:sz=1∨(es=[]/\k=.nil))(hk:dm n0 H k):
 gN ao H #[23,23] (.list k sz (ints es)) (.list .tight 1 [[.v (.int .i64 x)]])=aa (.list (.free H.tn) 1 (ints (es++[x])),H.app k):=by
 obtain⟨i,q1,q2,q3,q4⟩:=EZ;have hb:=qG (ag:es.length+1<=1099511627776) q3;have:=GO (t0:=23) (t1:=23) (n0:=n0) (i:=i) (sz:=sz) (es:=ints es) (new:=ints [x]) (x:=.list .tight 1 (ints [x])) dQ (.inl ⟨_,dQ⟩) q1 ag (by rw[q2];exact q4) (by rw[q2];rfl) (by simp[ints])
  (by simp only[ints,bu,iP,kQ,qb];omega) (by simp only[ints,bu,iP,kQ];omega) (hs.imp (λq=>q.trans q2.symm) λq=>⟨by rw[q.1];rfl,q.2⟩) hk
 rw[q2] at this;unfold ints at *
 rw[mw];exact this
def abw{H}{b k x w}{B:List Nat}(hb:H.boxes[b]?=aa (B.map λb=>AV.arr b 0 w w))(hk:k<B.length):b7 ao H 23 (.ptr (.box b) k) (.arr x 0 w w)=aa (H.put b ((B.set k x).map λb=>AV.arr b 0 w w)):=by rw[fA (xs:=[AV.arr x 0 w w]) rfl il hb rfl (by rw[bu];exact hk)];congr 2;unfold eX;rw[adf,BA,aG (by rw[bu];exact hk)];simp
def amd{n}{a b}:∀x∈je n a b,okF x:=by intro x hx;unfold je at hx;obtain⟨i,hi,rfl⟩:=ac6 hx;rw[List.getElem_zipWith];exact Er _
def ag6{c}{a own}(h:∀x∈a,okF x):∀x∈vN c a own,okF x:=by
 intro x hx;unfold vN at hx;split at hx
 ·exact h x hx
 ·rcases wR.1 hx with q|q
  ·exact h x (pE q)
  ·exact amd x q
def asR{c}{a}{n}(h:∀x∈a,okF x):∀x∈iF c a n,okF x:=by
 intro x hx;unfold iF at hx;rcases wR.1 hx with q|q
 ·exact h x (pE q)
 ·obtain⟨y,-,rfl⟩:=jP.1 q;exact G8 _ _
def aha{c r j}{own}{t}(h:∀a∈t,∀x∈a,okF x):∀a∈qK c own r j t,∀x∈a,okF x:=by
 intro a ha;obtain⟨i,hi⟩:=uJ ha;rw[xk] at hi;cases q:t[i]? with
 |none=>rw[q] at hi;cases hi
 |some y=>
  rw[q,Option.map_some] at hi;injection hi with hi;have hy:=h y (dj q);rw[<-hi];split
  ·exact ag6 hy
  ·exact hy
def abd{c}{a}{n}(hc:c<=a.length):(iF c a n).length=a.length:=by unfold iF;rw[dw,bu,eS,hJ];omega
def cD(pv:List Nat):List Int:=pv.map λ(p:Nat)=>(p:Int)
def sf(t:List (List Int))(c:Nat):List (List Int) × List Nat:=(bM c).foldl yh (t,[])
def aav(t)(c):sf t (c+1)=yh (sf t c) c:=by unfold sf;rw[om,oj];rfl
def aau{t}{w}(hl:∀a∈t,a.length=w)(ho:∀a∈t,∀x∈a,okF x):∀c,c<=w->wV w c (sf t c)/\(sf t c).1.length=t.length/\(sf t c).2.length<=t.length:=by
 intro c
 induction c with
 |zero=>exactλ_=>⟨⟨hl,ho,λ_ _ _ _ j hj=>by omega⟩,rfl,cA _⟩|succ c ih=>
  intro hc;obtain⟨i1,i2,i3⟩:=ih ag;rw[aav];refine⟨by rw[abI i1 ag];exact Mz i1 ag,?_⟩;unfold yh;cases hf:oS (sf t c).1 (sf t c).2.length c with|none=>exact⟨i2,i3⟩|some k=>obtain⟨k1,k2,k3⟩:=Cb hf;refine⟨by simp[i2],?_⟩;simp only[dw,iP,kQ];omega
def QF(pv):(ints (cD pv)).length=pv.length:=by unfold ints cD;simp
def aat(t)(many):Fz t many=sf t many:=rfl
def apf(h:aq)(tb:Nat)(B:List Nat)(t:List (List Int))(w many:Nat)(T:jX h tb B t w)(hm:many<=w)(hw:w<=1000000)(hn:t.length<=1000000)(bq:∀r∈t,∀x∈r,okF x)(ho:cG h=ah):
 ∃r h',W2.call 180 [.arr tb 0 t.length t.length,im (many:Nat)] h=aa (r,h')/\∃(k:Tok) (s:Nat) (B':List Nat),r=.ret (.list k s (ints (cD (Fz t many).2)))/\(s=1∨(cD (Fz t many).2=[]/\k=.nil))/\jX h' tb B' (Fz t many).1 w/\B'.Perm B/\GM (tb::B) h.tn h h' k:=by
 have kT:=al.mk T;have kok:=al.mk bq;have kBl:al (∀b∈B,b<h.boxes.length):=⟨λb hb=>by obtain⟨i,hi⟩:=uJ hb;have cS:=(aS.1 hi).1;exact(aS.1 (T.row i b _ hi (aR (by rw[<-T.len];exact cS)))).1⟩;have z3:=MR;have bx1:∀b n m:Nat,(AV.arr b 0 n m).bP=aa [.arr b 0 n m]:=λ_ _ _=>rfl;have bx2:∀n:Int,(AV.v (.int .i64 n)).bP=aa [.v (.int .i64 n)]:=λ_=>rfl;have g0:GM (tb::B) h.tn h (h.push [.arr tb 0 t.length t.length]) .nil:=⟨gy.refl.push _,.inl rfl,ho⟩;have T0:jX (h.push [.arr tb 0 t.length t.length]) tb B t w:=T.mono λ_ _ q=>aY q;have p0:(h.push [.arr tb 0 t.length t.length]).boxes[h.boxes.length]?=aa [.arr tb 0 t.length t.length]:=aZ _ _;have r0:wV w 0 (sf t 0):=⟨T.wid,bq,λ_ _ _ _ _ q=>absurd q (tN _)⟩;have kk:=al.mk (aw g0 (aw T0 (aw p0 r0)));clear g0 T0 p0 r0 T bq ho;unfold im at *
 refine db rfl Tryz.func180 rfl ?_;refine bK @vq @bg ?_;refine bH.gen λe0 aF bB cU cN=>?_;have q2:e0.get 2=.ptr (.box h.boxes.length) 0:=by rw[aF];exact gS
 have q4:e0.get 4=.list .nil 0 (ints (cD [])):=by rw[aF];exact gR
 have q13:e0.get 13=.v (.int .i64 (many:Nat)):=by rw[aF];exact gS
 have q14:e0.get 14=.v (.int .i64 (0:Nat)):=by rw[aF];exact gR
 have qd:e0.defers=[]:=by rw[bB];exact gS
 clear aF bB cU cN;refine cz (λm e H=>∃(c:Nat) (B':List Nat) (k:Tok) (s:Nat),c<=many/\m=many - c/\jX H tb B' (sf t c).1 w/\B'.Perm B/\H.boxes[h.boxes.length]?=aa [.arr tb 0 t.length t.length]/\e.get 2=.ptr (.box h.boxes.length) 0/\e.get 4=.list k s (ints (cD (sf t c).2))/\(s=1∨(cD (sf t c).2=[]/\k=.nil))/\e.get 13=.v (.int .i64 (many:Nat))/\e.get 14=.v (.int .i64 (c:Nat))/\e.defers=[]/\GM (tb::B) h.tn h H k) ?_ many _ _ ?_;rotate_left 1
 ·exact⟨0,B,.nil,0,cA _,rfl,kk.out.2.1,.refl _,kk.out.2.2.1,q2,q4,.inr ⟨rfl,rfl⟩,q13,q14,qd,kk.out.1⟩
 clear kk q2 q4 q13 q14 qd;rintro m e H ⟨c,B',tk,s,hc,rfl,T',hP,fT,g2,g4,hs,g13,g14,hd,hG⟩;have kT':=al.mk T';have kP:=al.mk hP;have ks:=al.mk hs;have kG:=al.mk hG;obtain⟨R,i2,i3⟩:=aau kT.out.wid kok.out c ag;have kR:=al.mk R;clear T' hP hG R;by_cases aA:c<many;rotate_left 1
 ·have:c=many:=by omega
  subst this;clear fT i2 i3 hs;refine br @vq ?_;refine⟨_,_,rfl,tk,s,B',?_⟩;rw[aat];exact⟨rfl,ks.out,kT'.out,kP.out,kG.out⟩
 have rS:=aav t c;generalize bT:sf t c=st at *
 obtain⟨t',pv⟩:=st;dsimp only at *
 have cP:=QF pv;have u23:=dQ;have u203:=GH;have s0:∀n,b7 ao (H.push [.v (.int .i64 0)]) 3 (.ptr (.box H.boxes.length) 0) (.v (.int .i64 n))=aa (H.push [.v (.int .i64 n)]):=λn=>jx rfl fP rfl rfl;have l0:∀n,aH ao Gt (H.push [.v (.int .i64 n)]) 3 (.ptr (.box H.boxes.length) 0)=aa (.v (.int .i64 n)):=λn=>mi (aZ _ _);refine bK @vq @bg ?_;refine bH.gen λe0 aF bB cU cN=>?_;have f2:e0.get 2=.ptr (.box h.boxes.length) 0:=by rw[aF];simp only[gW,reduceIte,aO,aM,g2]
 have f4:e0.get 4=.list tk s (ints (cD pv)):=by rw[aF];simp only[gW,reduceIte,aO,aM,g4]
 have f5:e0.get 5=.v (.int .i64 (c:Nat)):=by rw[aF];simp only[gW,reduceIte,aO,aM,g14]
 have f6:e0.get 6=.ptr (.box H.boxes.length) 0:=by rw[aF];exact gS
 have f7:e0.get 7=.v (.int .i64 (pv.length:Nat)):=by rw[aF];exact gS
 have f13:e0.get 13=.v (.int .i64 (many:Nat)):=by rw[aF];simp only[gW,reduceIte,aO,aM,g13]
 have f14:e0.get 14=.v (.int .i64 (c:Nat)):=by rw[aF];simp only[gW,reduceIte,aO,aM,g14]
 have fd:e0.defers=[]:=by rw[bB];simp only[gW,reduceIte,aO,aM];exact hd
 clear aF bB cU cN g2 g4 g13 g14 hd;have T2:jX (H.push [.v (.int .i64 (pv.length:Nat))]) tb B' t' w:=kT'.out.mono λ_ _ q=>aY q;have G2:GM (tb::B) h.tn h (H.push [.v (.int .i64 (pv.length:Nat))]) tk:=kG.out.then λ_=>gy.refl.push _;have b2:(H.push [.v (.int .i64 (pv.length:Nat))]).boxes[h.boxes.length]?=aa [.arr tb 0 t.length t.length]:=aY fT;have b3:(H.push [.v (.int .i64 (pv.length:Nat))]).boxes[H.boxes.length]?=aa [.v (.int .i64 (pv.length:Nat))]:=aZ _ _;have vT:(H.push [.v (.int .i64 (pv.length:Nat))]).boxes.length=H.boxes.length+1:=cH _ _;have hhl:h.boxes.length<H.boxes.length:=(aS.1 fT).1;generalize H.push [.v (.int .i64 (pv.length:Nat))]=H2 at *
 clear kT' kG s0 l0 fT;have kT2:=al.mk T2;have kG2:=al.mk G2;have kl:=al.mk vT;have l2:=xQ b2;have l3:=mi b3;have kb2:=al.mk b2;have kb3:=al.mk b3;clear T2 G2 vT b2 b3;generalize hHn:H.boxes.length=hl at *
 clear hHn;refine cz (λm e H3=>∃j:Nat,pv.length<=j/\j<=t.length/\m=t.length - j/\al (∀k,pv.length<=k->k<j->ai (t'.getD k []) c=0)/\e.get 2=.ptr (.box h.boxes.length) 0/\e.get 4=.list tk s (ints (cD pv))/\e.get 5=.v (.int .i64 (c:Nat))/\e.get 6=.ptr (.box hl) 0/\e.get 7=.v (.int .i64 (j:Nat))/\e.get 13=.v (.int .i64 (many:Nat))/\e.get 14=.v (.int .i64 (c:Nat))/\e.defers=[]/\H3=H2) ?_ (t.length - pv.length) _ _ ?_;rotate_left 1
 ·exact⟨pv.length,aJ _,i3,rfl,⟨λk h1 h2=>absurd h1 ag⟩,f2,f4,f5,f6,f7,f13,f14,fd,rfl⟩
 clear f2 f4 f5 f6 f7 f13 f14 fd;rintro m e3 H2 ⟨j,XH,XI,rfl,kz,g2,g4,g5,g6,g7,g13,g14,hd,rfl⟩;by_cases pS:j<t.length;rotate_left 1
 ·have nS:j=t.length:=by omega
  subst nS;have Cv:=Kp (t:=t') (c:=c) XH ag kz.out (λq=>absurd q ag);rw[aG ag] at Cv;have bT:sf t (c+1)=(t',pv):=by rw[rS];unfold yh;simp only[Cv]
  have khst:=al.mk bT;clear Cv bT rS;refine br @vq ?_;refine⟨many - (c+1),by omega,c+1,B',tk,s,by omega,rfl,?_⟩;rw[khst.out];exact⟨kT2.out,kP.out,kb2.out,aU,rfl,ks.out,aU,by simp,aU,kG2.out⟩
 obtain⟨b,hb⟩:∃b,t'[j]?=aa b:=⟨_,aR ag⟩;obtain⟨bj,vV⟩:∃b,B'[j]?=aa b:=⟨_,aR (by rw[kT2.out.len];omega)⟩;have wb:=kT2.out.wid b (dj hb);have dU:=kT2.out.row j bj b vV hb;have ixj:=E9 (b:=tb) (len:=t.length) (aD:=t.length) (k:=.i64) pS;have ixc:=qX (b:=bj) (len:=w) (aD:=w) (k:=.i64) (ag:c<w);have xB:(B'.map λb=>AV.arr b 0 w w)[j]?=aa (.arr bj 0 w w):=by rw[ej,vV];rfl
 have m1:=uw kT2.out.gX xB;have m2:=zw dU (xS (k:=c) ag);have gDj:t'.getD j []=b:=by rw[ez,hb];rfl
 have khr:=al.mk dU;clear dU;by_cases hzero:ai b c=0
 ·have gG:∀k,pv.length<=k->k<j+1->ai (t'.getD k []) c=0:=by
   intro k h1 h2;rcases dW k j with q|q
   ·exact kz.out k h1 q
   ·rw[(ag:k=j),gDj];exact hzero
  have kz2:=al.mk gG;rw[hzero] at m2;clear gG kz gDj hzero xB rS;unfold im at *
  refine br @vq ?_;exact⟨t.length - (j+1),by omega,j+1,by omega,by omega,rfl,kz2,aU,aU,aU,aU,by simp,aU,aU,aU,aU⟩
 have Cv:=Kp (t:=t') (c:=c) XH ag kz.out (λ_=>by rw[gDj];exact hzero);rw[aI ag] at Cv;obtain⟨o,ho⟩:∃b,t'[pv.length]?=aa b:=⟨_,aR ag⟩;obtain⟨bo,xA⟩:∃b,B'[pv.length]?=aa b:=⟨_,aR (by rw[kT2.out.len];omega)⟩;have ox:=atY Cv hb ho;rw[<-rS] at ox;have kgo:=al.mk ox;have kne:=al.mk hzero;have okb:=kR.out.ok b (dj hb);have nz:=zy (qI okb c);have ixr:=E9 (b:=tb) (len:=t.length) (aD:=t.length) (k:=.i64) (ag:pv.length<t.length);have Xr:(B'.map λb=>AV.arr b 0 w w)[pv.length]?=aa (.arr bo 0 w w):=by rw[ej,xA];rfl
 have m3:=uw kT2.out.gX Xr;have T3:=jX.swap kT2.out xA vV ho hb;have nb1:bj<h.boxes.length:=kBl.out bj (kP.out.mem_iff.1 (dj vV));have nb2:tb≠bj:=λe=>kT2.out.out (by rw[e];exact dj vV);have awI:=(aS.1 kT.out.gX).1;have XS:h.boxes.length≠tb:=by omega
 have akT:hl≠tb:=by omega
 have s1:=abw (w:=w) (x:=bj) (k:=pv.length) kT2.out.gX (by rw[kT2.out.len];omega);have ie:(H2.put tb ((B'.set pv.length bj).map λb=>AV.arr b 0 w w)).boxes[tb]?=aa ((B'.set pv.length bj).map λb=>AV.arr b 0 w w):=eu (aS.1 kT2.out.gX).1;have s2:=abw (w:=w) (x:=bo) (k:=j) ie (by rw[mr,kT2.out.len];omega);rw[LF] at s2;have l2b:aH ao Gt (H2.put tb ((B'.set pv.length bj).map λb=>AV.arr b 0 w w)) 203 (.ptr (.box h.boxes.length) 0)=aa (.arr tb 0 t.length t.length):=xQ ((cX XS).trans kb2.out);have G3:GM (tb::B) h.tn h (H2.put tb (((B'.set pv.length bj).set j bo).map λb=>AV.arr b 0 w w)) tk:=kG2.out.then λ_=>.put (fW) _;have b2:(H2.put tb (((B'.set pv.length bj).set j bo).map λb=>AV.arr b 0 w w)).boxes[h.boxes.length]?=aa [.arr tb 0 t.length t.length]:=(cX XS).trans kb2.out;have b3:(H2.put tb (((B'.set pv.length bj).set j bo).map λb=>AV.arr b 0 w w)).boxes[hl]?=aa [.v (.int .i64 (pv.length:Nat))]:=(cX akT).trans kb3.out;have O1:(H2.put tb (((B'.set pv.length bj).set j bo).map λb=>AV.arr b 0 w w)).boxes.length=H2.boxes.length:=mj _ _ _;have KB:((B'.set pv.length bj).set j bo).Perm B:=by have q:=adn (aS.1 xA).1 (aS.1 vV).1;rw[show B'[j]'(aS.1 vV).1=bj from(aS.1 vV).2,show B'[pv.length]'(aS.1 xA).1=bo from(aS.1 xA).2] at q;exact q.trans kP.out
 have xv:((B'.set pv.length bj).set j bo)[pv.length]?=aa bj:=by
  rw[mL];by_cases q:j=pv.length
  ·rw[aG q,aG (by rw[mr,kT2.out.len];omega)];rw[q,xA] at vV;exact vV
  ·rw[aI q,Nj (aS.1 xA).1]
 have zj:((t'.set pv.length b).set j o)[pv.length]?=aa b:=by
  rw[mL];by_cases q:j=pv.length
  ·rw[aG q,aG (by rw[mr];omega)];rw[q,ho] at hb;exact hb
  ·rw[aI q,Nj ag]
 have Ys:((t'.set pv.length b).set j o).length=t.length:=by rw[mr,mr];exact i2
 have XV:∀a∈(t'.set pv.length b).set j o,∀x∈a,okF x:=by
  intro a ha;rcases wS ha with q|q
  ·rcases wS q with q|q
   ·exact kR.out.ok a q
   ·rw[q];exact okb
  ·rw[q];exact kR.out.ok o (dj ho)
 have kok3:=al.mk (aw XV (aw okb Ys));clear XV Ys;generalize (t'.set pv.length b).set j o=t3 at *
 generalize (B'.set pv.length bj).set j bo=B3 at *
 obtain⟨H3,mC⟩:∃H3,H2.put tb (B3.map λb=>AV.arr b 0 w w)=H3:=⟨_,rfl⟩;rw[mC] at s2 T3 G3 b2 b3 O1;have kP3:=al.mk KB;clear mC ie KB ox Cv kz gDj hb ho rS bT;have l23:=xQ b2;have l33:=mi b3;have uf:(B3.map λb=>AV.arr b 0 w w)[pv.length]?=aa (.arr bj 0 w w):=by rw[ej,xv];rfl
 have m13:=uw T3.gX uf;have Qn:=T3.row pv.length bj b xv zj;have m23:=zw Qn (xS (k:=c) ag);have xG:fmod (ai b c)=ai b c:=Cf (qI okb c);have ci:=λh=>alv (ai b c) h;rw[xG] at ci;simp only[aI hzero] at ci;have kokz:al (0<=eK (ai b c)/\eK (ai b c)<=9223372036854775807):=⟨zy (OA _)⟩;have awe:tb<H3.boxes.length:=(aS.1 T3.gX).1;have awi:bj<H3.boxes.length:=(aS.1 Qn).1;have hh3:h.boxes.length<H3.boxes.length:=(aS.1 b2).1;have awn:hl<H3.boxes.length:=(aS.1 b3).1;generalize hz:ai b c=z at *
 have kfz:al (okF (eK z)):=⟨OA _⟩;generalize hf:eK z=fz at *
 have s5:b7 ao (H3.push [.v (.int .i64 0)]) 3 (.ptr (.box H3.boxes.length) 0) (.v (.int .i64 fz))=aa (H3.push [.v (.int .i64 fz)]):=jx rfl fP rfl rfl;have T4:jX (H3.push [.v (.int .i64 fz)]) tb B3 t3 w:=T3.mono λ_ _ q=>aY q;have G4:GM (tb::B) h.tn h (H3.push [.v (.int .i64 fz)]) tk:=G3.then λ_=>gy.refl.push _;have b24:(H3.push [.v (.int .i64 fz)]).boxes[h.boxes.length]?=aa [.arr tb 0 t.length t.length]:=aY b2;have b34:(H3.push [.v (.int .i64 fz)]).boxes[hl]?=aa [.v (.int .i64 (pv.length:Nat))]:=aY b3;have b44:(H3.push [.v (.int .i64 fz)]).boxes[H3.boxes.length]?=aa [.v (.int .i64 fz)]:=aZ _ _;have Hh:(H3.push [.v (.int .i64 fz)]).boxes.length=H3.boxes.length+1:=cH _ _;have kH3:=al.mk O1;obtain⟨H4,rO⟩:∃H4,H3.push [.v (.int .i64 fz)]=H4:=⟨_,rfl⟩;rw[rO] at s5 T4 G4 b24 b34 b44 Hh;have l24:=xQ b24;have l34:=mi b34;have m14:=uw T4.gX uf;have af:=Uq bj w c H4;have kT4:=al.mk T4;have kG4:=al.mk G4;have kb4:=al.mk (aw b24 (aw b34 (aw b44 (aw Hh (aw xv zj)))));unfold im at af m2 m23 ci;clear rO T4 G4 b24 b34 b44 Hh T3 G3 b2 b3 O1 Qn uf xv zj xG xB Xr xA vV;refine br @vq ?_;refine ng [(2,13)] Ak av (λp hp=>?_) ?_
 ·simp only[my] at hp;subst hp;refine wL (x:=.ptr (.box h.boxes.length) 0) (v:=.arr tb 0 t.length t.length) av rfl rfl rfl av (by simp[fc,lX]) ?_ ?_<;>(simp only[hU,fR];exact jl @vq @and_self)
 refine br @vq ?_;refine bH.gen λe4 gF qm uY tx=>?_;have f2:e4.get 2=.ptr (.box h.boxes.length) 0:=by rw[gF];simp only[gW,reduceIte,aO,aM];exact g2
 have f4:e4.get 4=.list tk s (ints (cD pv)):=by rw[gF];simp only[gW,reduceIte,aO,aM];exact g4
 have f5:e4.get 5=.v (.int .i64 (c:Nat)):=by rw[gF];simp only[gW,reduceIte,aO,aM];exact g5
 have f6:e4.get 6=.ptr (.box hl) 0:=by rw[gF];simp only[gW,reduceIte,aO,aM];exact g6
 have f8:e4.get 8=.ptr (.box H3.boxes.length) 0:=by rw[gF];exact gS
 have f13:e4.get 13=.v (.int .i64 (many:Nat)):=by rw[gF];simp only[gW,reduceIte,aO,aM];exact g13
 have f14:e4.get 14=.v (.int .i64 (c:Nat)):=by rw[gF];simp only[gW,reduceIte,aO,aM];exact g14
 have f70:e4.get 70=.func (.func 219) [] [.ptr (.box (H4.boxes.length+1)) 0,.ptr (.box H4.boxes.length) 0]:=by rw[gF];exact gS
 have fd:e4.defers=[]:=by rw[qm];simp only[gW,reduceIte,aO,aM];exact hd
 clear gF qm uY tx g2 g4 g5 g6 g7 g13 g14 hd;refine Dk (by rw[Aw];exact f70) λrec w1 w2 w3 w4 w5 w6=>?_;obtain⟨b24,b34,b44,Hh,xv,zj⟩:=kb4.out;have T5:jX ((H4.push [.arr bj 0 w w]).push [.v (.int .i64 (c:Nat))]) tb B3 t3 w:=kT4.out.mono λ_ _ q=>aY (aY q);have G5:GM (tb::B) h.tn h ((H4.push [.arr bj 0 w w]).push [.v (.int .i64 (c:Nat))]) tk:=kG4.out.then λ_=>(gy.refl.push _).push _;have b25:((H4.push [.arr bj 0 w w]).push [.v (.int .i64 (c:Nat))]).boxes[h.boxes.length]?=aa [.arr tb 0 t.length t.length]:=aY (aY b24);have b35:((H4.push [.arr bj 0 w w]).push [.v (.int .i64 (c:Nat))]).boxes[hl]?=aa [.v (.int .i64 (pv.length:Nat))]:=aY (aY b34);have b45:((H4.push [.arr bj 0 w w]).push [.v (.int .i64 (c:Nat))]).boxes[H3.boxes.length]?=aa [.v (.int .i64 fz)]:=aY (aY b44);have b55:((H4.push [.arr bj 0 w w]).push [.v (.int .i64 (c:Nat))]).boxes[H4.boxes.length]?=aa [.arr bj 0 w w]:=aY (aZ _ _);have b65:((H4.push [.arr bj 0 w w]).push [.v (.int .i64 (c:Nat))]).boxes[H4.boxes.length+1]?=aa [.v (.int .i64 (c:Nat))]:=nt (by rw[cH]);have ajT:((H4.push [.arr bj 0 w w]).push [.v (.int .i64 (c:Nat))]).boxes.length=H4.boxes.length+2:=by rw[cH,cH]
 generalize (H4.push [.arr bj 0 w w]).push [.v (.int .i64 (c:Nat))]=H5 at *
 clear l2 l3 l23 l33 m1 m2 m3 m13 m23 ci s1 s2 l2b s5 l24 l34 m14 af kb4 kT4 kG4 kb2 kb3 kT2 kG2 khr;have dU:=T5.row pv.length bj b xv zj;have jJ:=(aS.1 dU).1;have gY:(H5.loop rec).loops[H5.loops.length]?=aa rec:=@C8 H5 rec;have I1:∀(k:Nat) (H:aq),H=(H5.loop rec).put bj ((lN (λi=>cR (ai b i) fz) b c k).map im)->H.boxes[H4.boxes.length+1]?=aa [im (c:Nat)]/\H.boxes[H4.boxes.length]?=aa [.arr bj 0 w w]/\(k<w->∃cs,H.boxes[bj]?=aa cs/\cs[k]?=aa (im (ai b k))):=by
  rintro k H rfl;refine⟨?_,?_,λhk=>⟨_,eu jJ,?_⟩⟩
  ·rw[cX ag];exact b65
  ·rw[cX ag];exact b55
  ·have:=xS (r:=lN (λi=>cR (ai b i) fz) b c k) (k:=k) (by rw[sV];omega);rw[Ei ag,aI ag] at this;exact this
 have I2:∀(k:Nat) (H:aq),c<=k->k<w->H=(H5.loop rec).put bj ((lN (λi=>cR (ai b i) fz) b c k).map im)->∃H',W2.round H5.loops.length [im (k:Nat),im (ai b k)] H=aa (.ret (.v (.bool ah)),H')/\H'=(H5.loop rec).put bj ((lN (λi=>cR (ai b i) fz) b c (k+1)).map im):=by
  rintro k H AQ AR rfl;refine II (Post:=λH=>H=(H5.loop rec).put bj ((lN (λi=>cR (ai b i) fz) b c (k+1)).map im)) gY (by rw[w2];rfl) w5 w6 ?_;have kq:=VE (f:=λi=>cR (ai b i) fz) AQ (ag:k<b.length);have r1:∀t,(nH H5.loops.length rec [im (k:Nat),im (ai b k)]).get t=if 72=t then im (ai b k) else if 71=t then im (k:Nat) else e4.get t:=λt=>IG w2 w1
  have d1:(nH H5.loops.length rec [im (k:Nat),im (ai b k)]).defers=[]:=rfl;obtain⟨K,hK⟩:∃K,((H5.loop rec).put bj ((lN (λi=>cR (ai b i) fz) b c k).map im)).busy H5.loops.length rec=K:=⟨_,rfl⟩;rw[hK];have c1:K.boxes[bj]?=aa ((lN (λi=>cR (ai b i) fz) b c k).map im):=by rw[<-hK];exact eu jJ
  have c2:K.boxes[h.boxes.length]?=aa [.arr tb 0 t.length t.length]:=by rw[<-hK];exact(cX ag).trans b25
  have c3:K.boxes[hl]?=aa [.v (.int .i64 (pv.length:Nat))]:=by rw[<-hK];exact(cX ag).trans b35
  have c4:K.boxes[H3.boxes.length]?=aa [im fz]:=by rw[<-hK];exact(cX ag).trans b45
  have c5:K.boxes[tb]?=aa (B3.map λb=>AV.arr b 0 w w):=by rw[<-hK];exact(cX nb2).trans T5.gX
  have uf:(B3.map λb=>AV.arr b 0 w w)[pv.length]?=aa (.arr bj 0 w w):=by rw[ej,xv];rfl
  have m2:=xQ c2;have m3:=mi c3;have m4:=mi c4;have m5:=uw c5 uf;have Fb:=qX (b:=bj) (len:=w) (aD:=w) (k:=.i64) AR;have sk:=zJ (r:=lN (λi=>cR (ai b i) fz) b c k) (k:=k) (x:=cR (ai b k) fz) c1 (by rw[sV];omega);rw[kq] at sk;have wj:=zy (qI okb k);have f1:=λh=>Q5 (ai b k) fz h;clear dU b25 b35 b45 b55 b65 T5 G5 c1 c2 c3 c4 c5 kq uf I1 okb f70 ixj ixc;generalize cR (ai b k) fz=z1 at *
  generalize ai b k=z2 at *
  unfold im at *
  rw[w3,w4];refine yS ?_;refine⟨aU,aU,?_⟩;refine bH.gen λe2 jC ie oy ER=>?_;have q2:e2.get 2=.ptr (.box h.boxes.length) 0:=by rw[jC];simp only[gW,reduceIte,aO,aM,r1];exact f2
  have q6:e2.get 6=.ptr (.box hl) 0:=by rw[jC];simp only[gW,reduceIte,aO,aM,r1];exact f6
  have q8:e2.get 8=.ptr (.box H3.boxes.length) 0:=by rw[jC];simp only[gW,reduceIte,aO,aM,r1];exact f8
  have q10:e2.get 10=.v (.int .i64 k):=by rw[jC];simp only[gW,reduceIte,aO,aM,r1]
  have q11:e2.get 11=.v (.int .i64 z2):=by rw[jC];simp only[gW,reduceIte,aO,aM,r1]
  clear jC ie oy ER r1 d1
  repeat' (first|simp(maxSteps:=999999)(disch:=first|exact dZ|fail)only[gW,reduceIte,aO,aM, *]|(refine dX ?_ ?_<;>(intro _;try omega))|refine ev Ak av ?_)
  rw[<-hK];simp only[aq.put,aq.busy,aq.loop,DW];exact⟨aU,aU,aU⟩
 obtain⟨h',c1,c2⟩:=Ur H5.loops.length (H4.boxes.length+1) H4.boxes.length bj w c b (λk H=>H=(H5.loop rec).put bj ((lN (λi=>cR (ai b i) fz) b c k).map im)) I1 I2 ag hw ((H5.loop rec).put bj ((lN (λi=>cR (ai b i) fz) b c c).map im)) rfl;have e3:H5.loop rec=(H5.loop rec).put bj ((lN (λi=>cR (ai b i) fz) b c c).map im):=by rw[VF];exact(nb (h:=H5.loop rec) dU).symm
 rw[<-e3] at c1;have e4':lN (λi=>cR (ai b i) fz) b c w=iF c b fz:=by rw[<-wb];exact ahS ag
 rw[e4'] at c2;subst c2;clear e3 I1 I2 e4';refine⟨_,_,c1,rec,gY,by rw[w5];decide,.inl ⟨w6,?_⟩⟩;clear c1;have Ev:h.loops.length<=H5.loops.length:=by
  have:=G5.mu.loop;rcases dW H5.loops.length h.loops.length with q|q
  ·have:=(aS.1 (this _ _ (aR q))).1;omega
  ·exact q
 have okt:=kok3.out;have Ho:bj∈B:=kP3.out.mem_iff.1 (dj xv);have T6:jX (((H5.loop rec).put bj ((iF c b fz).map im)).eW H5.loops.length {rec with state:=.exhausted}) tb B3 (t3.set pv.length (iF c b fz)) w:=by have q:=jX.set (H:=H5.loop rec) (T5.mono λ_ _ q=>q) xv (r:=iF c b fz) (by rw[abd ag];exact wb);exact q.mono λ_ _ q=>q
 have G6:GM (tb::B) h.tn h (((H5.loop rec).put bj ((iF c b fz).map im)).eW H5.loops.length {rec with state:=.exhausted}) tk:=⟨((G5.mu.A6 rec).trans (.put (fE _ Ho) _)).eW Ev _,G5.can,G5.ok⟩;have b26:(((H5.loop rec).put bj ((iF c b fz).map im)).eW H5.loops.length {rec with state:=.exhausted}).boxes[h.boxes.length]?=aa [.arr tb 0 t.length t.length]:=(cX ag).trans b25;have b36:(((H5.loop rec).put bj ((iF c b fz).map im)).eW H5.loops.length {rec with state:=.exhausted}).boxes[hl]?=aa [.v (.int .i64 (pv.length:Nat))]:=(cX ag).trans b35;have Yi:(t3.set pv.length (iF c b fz))[pv.length]?=aa (iF c b fz):=Nj (aS.1 zj).1;have ok4:∀a∈t3.set pv.length (iF c b fz),∀x∈a,okF x:=by
  intro a ha;rcases wS ha with q|q
  ·exact okt.1 a q
  ·rw[q];exact asR okb
 have HD:(t3.set pv.length (iF c b fz)).length=t.length:=by rw[mr];exact okt.2.2
 have ox:=kgo.out;rw[i2] at ox;have T7:jX (((H5.loop rec).put bj ((iF c b fz).map im)).eW H5.loops.length {rec with state:=.exhausted}) tb B3 (qK c (iF c b fz) pv.length 0 (t3.set pv.length (iF c b fz))) w:=by rw[ahf];exact T6
 have hso:(iF c b fz).length=w:=by rw[abd ag];exact wb
 generalize (((H5.loop rec).put bj ((iF c b fz).map im)).eW H5.loops.length {rec with state:=.exhausted})=H6 at *
 clear T6 gY dU b25 b35 b45 b55 b65 T5 G5 ajT jJ w1 w2 w3 w4 w5 w6 Ev xv zj okt f70 f8 Hh ixj ixr ixc;have l26:=xQ b26;have l36:=mi b36;generalize iF c b fz=own at *
 generalize t3.set pv.length own=t4 at *
 have k7:=al.mk (aw T7 (aw G6 (aw b26 b36)));have kok4:=al.mk (aw ok4 (aw Yi (aw HD ox)));clear T7 G6 b26 b36 ok4 Yi ox okb kok3 HD;refine br @vq ?_;refine bH.gen λe5 y5 Xo hp5 Qj=>?_;have r2:e5.get 2=.ptr (.box h.boxes.length) 0:=by rw[y5];simp only[gW,reduceIte,aO,aM];exact f2
 have r4:e5.get 4=.list tk s (ints (cD pv)):=by rw[y5];simp only[gW,reduceIte,aO,aM];exact f4
 have r5:e5.get 5=.v (.int .i64 (c:Nat)):=by rw[y5];simp only[gW,reduceIte,aO,aM];exact f5
 have r6:e5.get 6=.ptr (.box hl) 0:=by rw[y5];simp only[gW,reduceIte,aO,aM];exact f6
 have r13:e5.get 13=.v (.int .i64 (many:Nat)):=by rw[y5];simp only[gW,reduceIte,aO,aM];exact f13
 have r14:e5.get 14=.v (.int .i64 (c:Nat)):=by rw[y5];simp only[gW,reduceIte,aO,aM];exact f14
 have r83:e5.get 83=.v (.int .i64 (t.length:Nat)):=by rw[y5];exact gS
 have r84:e5.get 84=.v (.int .i64 (0:Nat)):=by rw[y5];exact gR
 have rd:e5.defers=[]:=by rw[Xo];simp only[gW,reduceIte,aO,aM];exact fd
 clear y5 Xo hp5 Qj f2 f4 f5 f6 f13 f14 fd l26 l36;refine cz (λm e H=>∃i:Nat,i<=t.length/\m=t.length - i/\al (jX H tb B3 (qK c own pv.length i t4) w)/\al (GM (tb::B) h.tn h H tk)/\al (H.boxes[h.boxes.length]?=aa [.arr tb 0 t.length t.length])/\al (H.boxes[hl]?=aa [.v (.int .i64 (pv.length:Nat))])/\e.get 2=.ptr (.box h.boxes.length) 0/\e.get 4=.list tk s (ints (cD pv))/\e.get 5=.v (.int .i64 (c:Nat))/\e.get 6=.ptr (.box hl) 0/\e.get 13=.v (.int .i64 (many:Nat))/\e.get 14=.v (.int .i64 (c:Nat))/\e.get 83=.v (.int .i64 (t.length:Nat))/\e.get 84=.v (.int .i64 (i:Nat))/\e.defers=[]) ?_ t.length _ _ ?_;rotate_left 1
 ·exact⟨0,cA _,rfl,⟨k7.out.1⟩,⟨k7.out.2.1⟩,⟨k7.out.2.2.1⟩,⟨k7.out.2.2.2⟩,r2,r4,r5,r6,r13,r14,r83,r84,rd⟩
 clear r2 r4 r5 r6 r13 r14 r83 r84 rd k7;rintro m e6 K ⟨i,hi,rfl,kT7,kG7,kb7,kc7,g2,g4,g5,g6,g13,g14,g83,g84,hd⟩;have l27:=xQ kb7.out;have l37:=mi kc7.out;by_cases hit:i<t.length;rotate_left 1
 ·have fF:i=t.length:=by omega
  subst fF;have bl:=pI (c:Int);have ap:=tQ (x:=(c:Int)) (show(cD pv).length<1099511627776 by unfold cD;rw[bu];omega) hs kG7.out.can;refine br @vq ?_;refine⟨many - (c+1),by omega,c+1,B3,.free K.tn,1,by omega,rfl,?_⟩;rw[kok4.out.2.2.2];have HD:=kok4.out.2.2.1;rw[<-HD] at kT7;have ee:cD (pv++[c])=cD pv++[(c:Int)]:=by unfold cD;simp
  dsimp only;rw[ee];exact⟨by rw[<-HD];exact kT7.out.mono λ_ _ q=>by rw[ec];exact q,kP3.out,by rw[ec];exact kb7.out,aU,rfl,.inl rfl,aU,by simp,aU,kG7.out.app (aJ _)⟩
 have WB:B3.length=t.length:=by rw[kT7.out.len,Vv];exact kok4.out.2.2.1
 by_cases PD:i=pv.length
 ·subst PD;have T8:=kT7.out;rw[<-ahd] at T8;have kT8:=al.mk T8;clear T8;refine br @vq ?_;exact⟨t.length - (pv.length+1),by omega,pv.length+1,by omega,rfl,kT8,aU,aU,aU,aU,aU,aU,aU,aU,aU,aU,by simp,aU⟩
 ·obtain⟨a,ha⟩:∃a,t4[i]?=aa a:=⟨_,aR (by rw[kok4.out.2.2.1];exact hit)⟩;obtain⟨K2,c1,c2,c3⟩:=ag7 K tb B3 (qK c own pv.length i t4) w i pv.length c a own kT7.out (ahc.trans ha) (ahb.trans kok4.out.2.1) PD ag hw (aha kok4.out.1);rw[ahe ha PD] at c2;rw[WB] at c1;have cM:∀n0,gy (tb::B) n0 K K2:=λn0=>(c3 n0).mono λb hb=>fE _ (kP3.out.mem_iff.1 hb);have Ho:∀b∈B3,b<h.boxes.length:=λb hb=>kBl.out b (kP3.out.mem_iff.1 hb);have kb8:=al.mk ((c3 0).box _ _ (λq=>absurd (Ho _ q) ag) kb7.out);have kc8:=al.mk ((c3 0).box _ _ (λq=>absurd (Ho _ q) ag) kc7.out);have kG8:=al.mk (kG7.out.then cM);have kT8:=al.mk c2;have awo:¬((i:Int)=(pv.length:Int)):=by omega
  clear c2 c3 cM Ho ha WB kT7 kG7 kb7 kc7;unfold im at c1;refine br @vq ?_;exact⟨t.length - (i+1),by omega,i+1,by omega,rfl,kT8,aU,aU,aU,aU,aU,aU,aU,aU,aU,aU,by simp,aU⟩
def IL(x:AV)(l:List Int):Prop:=∃k s,x=.list k s (ints l)/\(l≠[]->s=1)
def RL(x:AV)(ae:List (List Int)):Prop:=∃(k:Tok) (s:Nat) (xs:List AV),x=.list k s (xs.map λa=>[a])/\(ae≠[]->s=1)/\xs.length=ae.length/\∀(i:Nat) (a:AV) (r:List Int),xs[i]?=aa a->ae[i]?=aa r->IL a r
def ale{l}{i}(h:i<l.length):(ints l)[i]?=aa [.v (.int .i64 (ai l i))]:=by unfold ints xN;rw[ej,aR h,fm h];rfl
def eE{H}{l}{i s}(h:i<l.length):aH ao Gt H 3 (.elem s (ints l) i 0)=aa (.v (.int .i64 (ai l i))):=by rw[r8 eD (ale h)];rfl
def lV{H}{xs:List AV}{i s}{x}(h:xs[i]?=aa x):aH ao Gt H 23 (.elem s (xs.map λa=>[a]) i 0)=aa x:=by rw[r8 kU (row:=[x]) (by rw[ej,h];rfl)];rfl
def FC:Tryz.f179.results.toList=[.tmp 4]:=av
def arL:Tryz.f199.results.toList=[]:=av
def xD(w:Nat)(B:List Nat):List AV:=B.map λb=>AV.arr b 0 w w
def M7(H:aq)(B:List Nat)(tb base:Nat)(cur:AV)(l:List Int):Prop:=(l=[]/\cur=.list .nil 0 [])∨(l≠[]/\∃b,cur=.arr b 0 l.length l.length/\H.boxes[b]?=aa (l.map im)/\b∉B/\b≠tb/\base<=b)
def auS{h0 H}{B}{tb}{cur}{l}(hc:M7 H B tb h0.boxes.length cur l)(hx:Ext h0 H)(hb:h0.boxes.length<=tb)(x)(hl:l.length<1000000)(hB:∀b∈B,b<H.boxes.length)(Yu:tb<H.boxes.length):
 ∃H2,sC ao H #[23,23] cur (.list .tight 1 [[.v (.int .i64 x)]])=aa (.arr H.boxes.length 0 (l.length+1) (l.length+1),H2)/\M7 H2 B tb h0.boxes.length (.arr H.boxes.length 0 (l.length+1) (l.length+1)) (l++[x])/\Ext h0 H2/\H2.loops=H.loops/\H2.boxes.length=H.boxes.length+1/\∀c cs,(c∈B∨c=tb)->H.boxes[c]?=aa cs->H2.boxes[c]?=aa cs:=by
 obtain⟨i,q1,q2,q3,q4⟩:=EZ;have uT:=qG (ag:l.length+1<=1000000) q3;have hlen:=hx.len;rcases hc with⟨rfl,rfl⟩|⟨bG,b,rfl,h1,h2,h3,h4⟩
 ·have:=MI (h:=H) (k:=.nil) (sz:=0) (es:=[]) (new:=[[.v (.int .i64 x)]]) (x:=.list .tight 1 [[.v (.int .i64 x)]]) dQ dQ q1 ag (by rw[q2];exact q4) bE (by simp;omega) bE (.inr rfl) (.inl rfl) (by rw[q2];rfl);refine⟨_,this,.inr ⟨bE,H.boxes.length,rfl,aZ _ _,λq=>absurd (hB _ q) (GB _),by omega,hlen⟩,hx.trans (.push _ _),rfl,cH _ _,λc cs _ q=>aY q⟩
 ·have aA:=(aS.1 h1).1;have jb:0<l.length:=List.length_pos_iff.2 bG;have:=SZ (h:=H) (b:=b) (len:=l.length) (cs:=l.map im) (new:=[[.v (.int .i64 x)]]) (x:=.list .tight 1 [[.v (.int .i64 x)]]) dQ dQ q1 ag (by rw[q2];exact q4) bE (by simp;omega) (by simp;omega) h1 jb (by rw[q2,bu];omega) (by rw[q2];rfl);refine⟨_,this,.inr ⟨bE,H.boxes.length,by simp,?_,λq=>absurd (hB _ q) (GB _),by omega,hlen⟩,(hx.fK h4 _).trans (.push _ _),rfl,by rw[cH,mj],λc cs hc q=>aY ((cX ?_).trans q)⟩
  ·rw[mw];exact nt (by rw[mj])
  ·rcases hc with hc|hc
   ·rintro rfl;exact h2 hc
   ·rintro rfl;exact h3 hc
structure yo(H:aq)(tb base w m:Nat)(B:List Nat)(t:List (List Int))(cur:AV)(l:List Int):Prop where
 gX:H.boxes[tb]?=aa (xD w B++cur::a9 (m - B.length - 1) (.list .nil 0 []))
 lt:B.length<m
 len:B.length=t.length
 nd:B.Nodup
 row:∀(i b:Nat) (r:List Int),B[i]?=aa b->t[i]?=aa r->H.boxes[b]?=aa (r.map im)
 wid:∀r∈t,r.length=w
 out:tb∉B
 low:∀b∈B,base<=b
 cur:M7 H B tb base cur l
def Zp{P}{h}{t elem}{i}{zero}{n}{k k'}(hu:P.underlying t=aa (.slice elem))(hi:P.info? elem=aa i)(hz:(gZ P elem).bind AV.bP=aa zero)(h1:zero.length=i.size)(h2:0<i.size)(h3:i.bytes * n<=281474976710656)(h4:n<9223372036854775808):
 zx P h t (.v (.int k (n:Nat))) (.v (.int k' (n:Nat)))=aa (.arr h.boxes.length 0 n n,h.push (a9 n zero).flatten):=by
 unfold zx;have h5:(i.bytes:Int) * (n:Nat)<=281474976710656:=by rw[<-Int.natCast_mul];omega
 simp only[hu,hi,hz];rw[aG ⟨ag,Na _,by omega,h5,h2,h1⟩];simp[aq.push]
def La:∃i,ao.info? 23=aa i/\i.size=1/\i.bytes<=24/\(i.zero.map λz=>z.cells.size)=aa 1:=by
 have h:(match ao.info? 23 with|some i=>Nat.beq i.size 1&&Nat.ble i.bytes 24&&decide ((i.zero.map λz=>z.cells.size)=aa 1)|none=>az)=ah:=av;cases hi:ao.info? 23 with
 |none=>rw[hi] at h;cases h
 |some i=>rw[hi] at h;simp only[bC,decide_eq_true_eq] at h;exact⟨i,rfl,Nat.eq_of_beq_eq_true h.1.1,Nat.le_of_ble_eq_true h.1.2,h.2⟩
def amL(h)(n)(hn:n<=1000000)(k k'):zx ao h 203 (.v (.int k (n:Nat))) (.v (.int k' (n:Nat)))=aa (.arr h.boxes.length 0 n n,h.push (a9 n (.list .nil 0 []))):=by obtain⟨i,q1,q2,q3,q4⟩:=La;have hb:=qG q3 hn;have:=Zp (h:=h) (n:=n) (k:=k) (k':=k') (zero:=[.list .nil 0 []]) GH q1 av (by rw[q2];rfl) ag ag ag;rw[this];simp
def Bc(h)(n)(hn:n<=1000000)(k k'):zx ao h 23 (.v (.int k (n:Nat))) (.v (.int k' (n:Nat)))=aa (.arr h.boxes.length 0 n n,h.push (a9 n (im 0))):=by obtain⟨i,q1,q2,q3,q4⟩:=EZ;have hb:=qG q3 hn;have:=Zp (h:=h) (n:=n) (k:=k) (k':=k') (zero:=[im 0]) dQ q1 MR (by rw[q2];rfl) ag ag ag;rw[this];simp
structure BB(H:aq)(tb base w m:Nat)(B:List Nat)(t:List (List Int)):Prop where
 gX:H.boxes[tb]?=aa (xD w B++a9 (m - B.length) (.list .nil 0 []))
 len:B.length=t.length
 nd:B.Nodup
 row:∀(i b:Nat) (r:List Int),B[i]?=aa b->t[i]?=aa r->H.boxes[b]?=aa (r.map im)
 wid:∀r∈t,r.length=w
 out:tb∉B
 low:∀b∈B,base<=b
def BB.half{H}{tb base w m}{B}{t}(M:BB H tb base w m B t)(hm:B.length<m):yo H tb base w m B t (.list .nil 0 []) []:=by refine⟨?_,hm,M.len,M.nd,M.row,M.wid,M.out,M.low,.inl ⟨rfl,rfl⟩⟩;rw[M.gX,(ag:m - B.length=m - B.length - 1+1),Bz];rfl
def BB.Jk{H}{tb base w m}{B}{t}(M:BB H tb base w m B t)(hm:B.length=m):jX H tb B t w:=by refine⟨?_,M.len,M.nd,M.row,M.wid,M.out⟩;rw[M.gX,hm,uK,List.replicate_zero,jr];rfl
def Hw(w)(B):(xD w B).length=B.length:=by unfold xD;simp
def akj(w)(B)(c)(r):(xD w B++c::r)[B.length]?=aa c:=by rw[List.getElem?_append_right (by rw[Hw];exact aJ _),Hw,uK];rfl
def akk(w)(B)(c d)(r):(xD w B++c::r).set B.length d=xD w B++d::r:=by rw[List.set_append_right _ _ (by rw[Hw];exact aJ _),Hw,uK];rfl
def atX{H}{b k x n}{cs}(hb:H.boxes[b]?=aa cs)(hk:k<cs.length):b7 ao H 23 (.ptr (.box b) k) (.arr x 0 n n)=aa (H.put b (cs.set k (.arr x 0 n n))):=by rw[fA (xs:=[AV.arr x 0 n n]) rfl il hb rfl hk];congr 2;unfold eX;rw[BA,aG hk];simp
def yo.lts{H}{tb base w m}{B}{t}{cur}{l}(F:yo H tb base w m B t cur l):∀b∈B,b<H.boxes.length:=by intro b hb;obtain⟨i,hi⟩:=uJ hb;have cS:=(aS.1 hi).1;exact(aS.1 (F.row i b _ hi (aR (by rw[<-F.len];exact cS)))).1
def yo.more{h0 H}{tb w m}{B}{t}{cur}{l}(F:yo H tb h0.boxes.length w m B t cur l)(hx:Ext h0 H)(hb:h0.boxes.length<=tb)(x)(hl:l.length<1000000):
 ∃H2 H3 cur',sC ao H #[23,23] cur (.list .tight 1 [[.v (.int .i64 x)]])=aa (cur',H2)/\b7 ao H2 23 (.ptr (.box tb) B.length) cur'=aa H3/\yo H3 tb h0.boxes.length w m B t cur' (l++[x])/\Ext h0 H3/\H3.loops=H.loops:=by
 have Yu:=(aS.1 F.gX).1;obtain⟨H2,c1,c2,c3,c4,c5,c6⟩:=auS F.cur hx hb x hl F.lts Yu;have hd:=c6 tb _ (.inr rfl) F.gX;have s1:=atX (x:=H.boxes.length) (n:=l.length+1) (k:=B.length) hd (by simp[Hw]);rw[akk] at s1;refine⟨H2,_,_,c1,s1,⟨eu (aS.1 hd).1,F.lt,F.len,F.nd,λi b r hi hr=>?_,F.wid,F.out,F.low,?_⟩,c3.fK hb _,c4⟩
 ·have yZ:=dj hi;rw[cX (λe=>F.out (by rw[<-e];exact yZ))];exact c6 b _ (.inl yZ) (F.row i b r hi hr)
 ·rcases c2 with⟨q,-⟩|⟨q,b,q1,q2,q3,q4,q5⟩
  ·simp at q
  ·exact .inr ⟨q,b,q1,by rw[cX q4];exact q2,q3,q4,q5⟩
def yo.mid{H}{tb base w m}{B}{t}{cur}{l}(F:yo H tb base w m B t cur l)(hl:l.length=w)(hw:0<w):∃b,BB H tb base w m (B++[b]) (t++[l]):=by
 rcases F.cur with⟨rfl,-⟩|⟨q,b,q1,q2,q3,q4,q5⟩
 ·simp at hl;omega
 ·refine⟨b,?_,by simp[F.len],?_,λi c r hi hr=>?_,λr hr=>?_,?_,λc hc=>?_⟩
  ·rw[F.gX,q1,hl];unfold xD;rw[mw,dw,List.append_assoc];rfl
  ·rw[List.nodup_append];refine⟨F.nd,by simp,λx hx y hy=>?_⟩;rw[my] at hy;subst hy;rintro rfl;exact q3 hx
  ·rcases dW i B.length with aA|eg
   ·rw[sH aA] at hi;rw[sH (by rw[<-F.len];exact aA)] at hr;exact F.row i c r hi hr
   ·have:=(aS.1 hi).1;rw[dw] at this;have Pz:i=B.length:=(by simp at this;omega);subst Pz;rw[Gk] at hi;rw[F.len,Gk] at hr;injection hi with hi;injection hr with hr;subst hi;subst hr;exact q2
  ·rcases wR.1 hr with z|z
   ·exact F.wid r z
   ·rw[my] at z;rw[z];exact hl
  ·intro z;rcases wR.1 z with z|z
   ·exact F.out z
   ·rw[my] at z;exact q4 z.symm
  ·rcases wR.1 hc with z|z
   ·exact F.low c z
   ·rw[my] at z;rw[z];exact q5
def au4(h:aq)(x y:AV)(ae:List (List Int))(target:List Int)(hx:RL x ae)(hy:IL y target)(hr:ae.length<=1000)(ht:target.length<=1000)(hw:∀r∈ae,r.length=target.length):
 ∃r h',W2.call 179 [x,y] h=aa (r,h')/\∃tb B,r=.ret (.arr tb 0 target.length target.length)/\jX h' tb B (fV ae target) (ae.length+1)/\Ext h h'/\h.boxes.length<=tb/\∀b∈B,h.boxes.length<=b:=by
 obtain⟨kx0,sx,xs,rfl,u6,dN,eH⟩:=hx;obtain⟨ky,sy,rfl,lT⟩:=hy;have kx:=al.mk (aw u6 (aw eH (aw lT hw)));clear u6 eH lT hw;have mk:=amL h target.length ag .i64 .i64;have u23:=dQ;have u22:=ji;have u203:=GH;have z23:=il;have z3:=fP;have cS:=dD target;have K7:(xs.map λa=>[a]).length=ae.length:=by rw[bu];exact dN
 refine db rfl Tryz.func179 rfl ?_;refine br @FC ?_;refine bH.gen λe0 aF bB cU cN=>?_;have f0:e0.get 0=.list kx0 sx (xs.map λa=>[a]):=by rw[aF];exact gS
 have f5:e0.get 5=.arr h.boxes.length 0 target.length target.length:=by rw[aF];exact gS
 have f13:e0.get 13=.list ky sy (ints target):=by rw[aF];exact gS
 have f14:e0.get 14=.v (.int .i64 (target.length:Nat)):=by rw[aF];exact gS
 have f15:e0.get 15=.v (.int .i64 (0:Nat)):=by rw[aF];exact gR
 have fd:e0.defers=[]:=by rw[bB];exact gS
 clear aF bB cU cN mk;have tl:=S0 ae target;have M0:BB (h.push (a9 target.length (.list .nil 0 []))) h.boxes.length h.boxes.length (ae.length+1) target.length [] ((fV ae target).take 0):=by refine⟨by rw[aZ];simp[xD],rfl,.nil,λi b r hi=>by simp at hi,λr hr=>by simp at hr,by simp,λb hb=>by simp at hb⟩
 refine cz (λm e H=>∃(k:Nat) (B:List Nat),k<=target.length/\m=target.length - k/\B.length=k/\al (BB H h.boxes.length h.boxes.length (ae.length+1) target.length B ((fV ae target).take k))/\al (Ext h H)/\e.get 0=.list kx0 sx (xs.map λa=>[a])/\e.get 5=.arr h.boxes.length 0 target.length target.length/\e.get 13=.list ky sy (ints target)/\e.get 14=.v (.int .i64 (target.length:Nat))/\e.get 15=.v (.int .i64 (k:Nat))/\e.defers=[]) ?_ target.length _ _ ?_;rotate_left 1
 ·exact⟨0,[],cA _,rfl,rfl,⟨M0⟩,⟨.push _ _⟩,f0,f5,f13,f14,f15,fd⟩
 clear M0 f0 f5 f13 f14 f15 fd;rintro m e H ⟨k,B,hk,rfl,vS,kM,kX,g0,g5,g13,g14,g15,hd⟩;by_cases KL:k<target.length;rotate_left 1
 ·have:k=target.length:=by omega
  subst this;have T:=kM.out.Jk vS;rw[gm ag] at T;have kT:=al.mk T;clear T;refine br @FC ?_;exact⟨_,_,rfl,_,B,rfl,kT.out,kX.out,aJ _,kM.out.low⟩
 have bD:sy=1:=kx.out.2.2.1 (by intro q;rw[q] at KL;simp at KL);subst bD;have l0:=eE (H:=H) (s:=1) KL;have F0:=kM.out.half ag;have kF0:=al.mk F0;have hkI:(k:Int)<(target.length:Int):=by omega
 clear F0;refine bK @FC @bh ?_;refine bH.gen λe0 aF bB cU cN=>?_;have f0:e0.get 0=.list kx0 sx (xs.map λa=>[a]):=by rw[aF];simp only[gW,reduceIte,aO,aM];exact g0
 have f5:e0.get 5=.arr h.boxes.length 0 target.length target.length:=by rw[aF];simp only[gW,reduceIte,aO,aM];exact g5
 have f6:e0.get 6=.v (.int .i64 (k:Nat)):=by rw[aF];exact gS
 have f7:e0.get 7=.v (.int .i64 (ai target k)):=by rw[aF];exact gS
 have f13:e0.get 13=.list ky 1 (ints target):=by rw[aF];simp only[gW,reduceIte,aO,aM];exact g13
 have f14:e0.get 14=.v (.int .i64 (target.length:Nat)):=by rw[aF];simp only[gW,reduceIte,aO,aM];exact g14
 have f15:e0.get 15=.v (.int .i64 (k:Nat)):=by rw[aF];simp only[gW,reduceIte,aO,aM];exact g15
 have f20:e0.get 20=.list kx0 sx (xs.map λa=>[a]):=by rw[aF];exact gS
 have f21:e0.get 21=.v (.int .i64 (ae.length:Nat)):=by rw[aF];exact gS
 have f22:e0.get 22=.v (.int .i64 (0:Nat)):=by rw[aF];exact gR
 have fd:e0.defers=[]:=by rw[bB];simp only[gW,reduceIte,aO,aM];exact hd
 clear aF bB cU cN g0 g5 g13 g14 g15 hd l0;refine cz (λm e H=>∃(i:Nat) (cur:AV),i<=ae.length/\m=ae.length - i/\al (yo H h.boxes.length h.boxes.length (ae.length+1) target.length B ((fV ae target).take k) cur ((ae.take i).map λr=>ai r k))/\al (Ext h H)/\e.get 0=.list kx0 sx (xs.map λa=>[a])/\e.get 5=.arr h.boxes.length 0 target.length target.length/\e.get 6=.v (.int .i64 (k:Nat))/\e.get 7=.v (.int .i64 (ai target k))/\e.get 13=.list ky 1 (ints target)/\e.get 14=.v (.int .i64 (target.length:Nat))/\e.get 15=.v (.int .i64 (k:Nat))/\e.get 20=.list kx0 sx (xs.map λa=>[a])/\e.get 21=.v (.int .i64 (ae.length:Nat))/\e.get 22=.v (.int .i64 (i:Nat))/\e.defers=[]) ?_ ae.length _ _ ?_;rotate_left 1
 ·exact⟨0,_,cA _,rfl,kF0,kX,f0,f5,f6,f7,f13,f14,f15,f20,f21,f22,fd⟩
 clear f0 f5 f6 f7 f13 f14 f15 f20 f21 f22 fd kF0 kM kX;rintro m e2 H2 ⟨i,cur,hi,rfl,kF,kX,g0,g5,g6,g7,g13,g14,g15,g20,g21,g22,hd⟩;have lc:((ae.take i).map λr=>ai r k).length=i:=by rw[bu,eS];omega
 have qP:(xD (ae.length+1) B++cur::a9 (target.length - B.length - 1) (.list .nil 0 []))[k]?=aa cur:=by rw[<-vS];exact akj _ _ _ _
 have m1:=uw kF.out.gX qP;have Fb:=E9 (b:=h.boxes.length) (len:=target.length) (aD:=target.length) (k:=.i64) KL;clear qP;by_cases iD:i<ae.length
 ·obtain⟨a,ha⟩:∃a,xs[i]?=aa a:=⟨_,aR ag⟩;obtain⟨r,hr⟩:∃r,ae[i]?=aa r:=⟨_,aR iD⟩;have u6:sx=1:=kx.out.1 (by intro q;rw[q] at iD;simp at iD);subst u6;obtain⟨ka,sa,rfl,jt⟩:=kx.out.2.1 i a r ha hr;have cP:=kx.out.2.2.2 r (dj hr);have Qq:sa=1:=jt (by intro q;rw[q] at cP;simp at cP;omega);subst Qq;have l1:=lV (H:=H2) (s:=1) ha;have l2:=eE (H:=H2) (l:=r) (i:=k) (s:=1) ag;have xK:(ints r).length=target.length:=by rw[dD];exact cP
  obtain⟨H3,H4,cur',c1,c2,c3,c4,-⟩:=kF.out.more kX.out (aJ _) (ai r k) (by rw[lc];omega);have jc:((ae.take i).map λr=>ai r k)++[ai r k]=(ae.take (i+1)).map λr=>ai r k:=by rw[ft hr,mw];rfl
  rw[jc] at c3;rw[vS] at c2;have bl:=pI (ai r k);have kF2:=al.mk c3;have kX2:=al.mk c4;have KK:(i:Int)<(ae.length:Int):=by omega
  clear c3 c4 jc ha hr jt lc vS tl cP;refine bK @FC @bh ?_
  repeat' (first|simp(maxSteps:=999999)(disch:=first|exact dZ|fail)only[gW,reduceIte,aO,aM,FC,bh, *]|(refine dX ?_ ?_<;>(intro _;try omega))|refine ev Ak av ?_)
  exact⟨ae.length - (i+1),by omega,i+1,cur',by omega,rfl,kF2,by simp⟩
 ·have fF:i=ae.length:=by omega
  subst fF;obtain⟨H3,H4,cur',c1,c2,c3,c4,-⟩:=kF.out.more kX.out (aJ _) (ai target k) (by rw[lc];omega);rw[fC] at c3;have dU:(ae.map λr=>ai r k)++[ai target k]=((fV ae target)[k]' ag):=by unfold fV;rw[p9,Bv]
  rw[dU] at c3;obtain⟨b,M2⟩:=c3.mid (by rw[<-dU];simp) ag;rw[<-ft (aR (ag:k<(fV ae target).length))] at M2;have kM2:=al.mk M2;have kX2:=al.mk c4;have hBl:(B++[b]).length=k+1:=by rw[dw,vS];rfl
  rw[vS] at c2;have bl:=pI (ai target k);clear c3 c4 M2 dU lc vS tl;refine br @FC ?_;exact⟨target.length - (k+1),by omega,k+1,B++[b],by omega,rfl,hBl,kM2,by simp⟩
def RY:Tryz.f126.results.toList=[.tmp 4]:=av
def vp:Tryz.f167.results.toList=[.tmp 4]:=av
def arx:Tryz.f152.results.toList=[.tmp 4]:=av
def Mb:Tryz.f185.results.toList=[.tmp 4]:=av
def aaY:Tryz.f218.results.toList=[.tmp 2]:=av
def IX:Tryz.f200.results.toList=[]:=av
def aaU:Tryz.f178.results.toList=[]:=av
def alh(g:FuncId)(p:Int->Bool)(h:aq)(x:AV)(l:List Int)(hx:IL x l)(hl:l.length<=1000000)(hp:∀n∈l,W2.call g [im n] h=aa (.ret (.v (.bool (p n))),h)):
 ∃r h',W2.call 167 [x,.func (.func g) [] []] h=some (r,h')/\h'=h/\∃i:Int,r=.ret (im i)/\decide (0<=i)=l.any p:=by
 obtain⟨k,s,rfl,hs⟩:=hx;have kp:=al.mk hp;have ks:=al.mk hs;clear hp hs;have u23:=dQ;have z3:=fP;have cS:=dD l;refine db rfl Tryz.func167 rfl ?_;refine br @vp ?_;refine cz (λm e H=>∃i:Nat,i<=l.length/\m=l.length - i/\(l.take i).any p=az/\e.get 0=.list k s (ints l)/\e.get 1=.func (.func g) [] []/\e.get 7=.v (.int .i64 (l.length:Nat))/\e.get 8=.v (.int .i64 (i:Nat))/\e.defers=[]/\H=h) ?_ l.length _ _ ?_;rotate_left 1
 ·refine⟨0,cA _,rfl,by simp,?_,?_,?_,?_,?_,rfl⟩<;>exact gR
 rintro m e H ⟨i,hi,rfl,ha,g0,g1,g7,g8,hd,rfl⟩;have ka:=al.mk ha;clear ha;by_cases aA:i<l.length
 ·have bD:s=1:=ks.out (by intro q;rw[q] at aA;simp at aA);subst bD;have ld:=eE (H:=H) (s:=1) aA;have hv:l[i]?=aa (ai l i):=by rw[aR aA,fm aA]
  have hc:=kp.out (ai l i) (dj hv);have fx:(i:Int)<(l.length:Int):=by omega
  have lU:(l.take (i+1)).any p=p (ai l i):=by rw[ft hv,Ng,ka.out];simp
  have kt:=al.mk lU;have kh:=al.mk hv;clear hv lU;unfold im at hc;cases eL:p (ai l i) with
  |true=>rw[eL] at hc;have lq:l.any p=ah:=Gh.2 ⟨_,dj kh.out,eL⟩;have kan:=al.mk lq;clear lq eL;refine bA @vp @bh @lJ.{0} @jr.{0} ?_;exact⟨_,_,rfl,rfl,(i:Int),rfl,by rw[kan.out];simp⟩
  |false=>rw[eL] at hc;have kt2:(l.take (i+1)).any p=az:=kt.out.trans eL;clear eL;refine bA @vp @bh @lJ.{0} @jr.{0} ?_;exact⟨l.length - (i+1),by omega,i+1,by omega,rfl,kt2,by simp⟩
 ·have:i=l.length:=by omega
  subst this;have:=ka.out;rw[fC] at this;have kan:=al.mk this;clear this;refine br @vp ?_;exact⟨_,_,rfl,rfl,-1,rfl,by rw[kan.out];rfl⟩
def VD(g)(p)(h)(x)(l)(hx:IL x l)(hl:l.length<=1000000)(hp:∀n∈l,W2.call g [im n] h=aa (.ret (.v (.bool (p n))),h)):
 W2.call 126 [x,.func (.func g) [] []] h=aa (.ret (.v (.bool (l.any p))),h):=by
 obtain⟨r,h',c,rfl,i,rfl,hi⟩:=alh g p h x l hx hl hp;have pR:(0<=i)=(l.any p=ah):=by rw[<-hi];simp
 have Cq:decide (0<=i)=l.any p:=hi;unfold im at c;refine cJ rfl Tryz.func126 rfl ?_;clear hi pR;exact lP @RY
def ali(g:FuncId)(p:List Int->Bool)(h:aq)(x:AV)(l:List (List Int))(hx:RL x l)(hl:l.length<=1000000)(hp:∀a r,r∈l->IL a r->W2.call g [a] h=aa (.ret (.v (.bool (p r))),h)):
 ∃r h',W2.call 185 [x,.func (.func g) [] []] h=some (r,h')/\h'=h/\∃i:Int,r=.ret (im i)/\decide (0<=i)=l.any p:=by
 obtain⟨k,s,xs,rfl,hs,dN,eH⟩:=hx;have kxr:=al.mk eH;clear eH;have kp:=al.mk hp;have ks:=al.mk hs;clear hp hs;have u22:=ji;have z23:=il;have cS:(xs.map λa=>[a]).length=l.length:=by rw[bu];exact dN
 refine db rfl Tryz.func185 rfl ?_;refine br @Mb ?_;refine cz (λm e H=>∃i:Nat,i<=l.length/\m=l.length - i/\(l.take i).any p=az/\e.get 0=.list k s (xs.map λa=>[a])/\e.get 1=.func (.func g) [] []/\e.get 7=.v (.int .i64 (l.length:Nat))/\e.get 8=.v (.int .i64 (i:Nat))/\e.defers=[]/\H=h) ?_ l.length _ _ ?_;rotate_left 1
 ·refine⟨0,cA _,rfl,by simp,?_,?_,?_,?_,?_,rfl⟩<;>exact gR
 rintro m e H ⟨i,hi,rfl,ha,g0,g1,g7,g8,hd,rfl⟩;have ka:=al.mk ha;clear ha;by_cases aA:i<l.length
 ·have bD:s=1:=ks.out (by intro q;rw[q] at aA;simp at aA);subst bD;obtain⟨a,gh⟩:∃a,xs[i]?=aa a:=⟨_,aR ag⟩;obtain⟨r,hv⟩:∃r,l[i]?=aa r:=⟨_,aR aA⟩;have ld:=lV (H:=H) (s:=1) gh;have hc:=kp.out a r (dj hv) (kxr.out i a r gh hv);clear gh;have fx:(i:Int)<(l.length:Int):=by omega
  have lU:(l.take (i+1)).any p=p r:=by rw[ft hv,Ng,ka.out];simp
  have kt:=al.mk lU;have kh:=al.mk hv;clear hv lU;cases eL:p r with
  |true=>rw[eL] at hc;have lq:l.any p=ah:=Gh.2 ⟨_,dj kh.out,eL⟩;have kan:=al.mk lq;clear lq eL;refine bA @Mb @bh @lJ.{0} @jr.{0} ?_;exact⟨_,_,rfl,rfl,(i:Int),rfl,by rw[kan.out];simp⟩
  |false=>rw[eL] at hc;have kt2:(l.take (i+1)).any p=az:=kt.out.trans eL;clear eL;refine bA @Mb @bh @lJ.{0} @jr.{0} ?_;exact⟨l.length - (i+1),by omega,i+1,by omega,rfl,kt2,by simp⟩
 ·have:i=l.length:=by omega
  subst this;have:=ka.out;rw[fC] at this;have kan:=al.mk this;clear this;refine br @Mb ?_;exact⟨_,_,rfl,rfl,-1,rfl,by rw[kan.out];rfl⟩
def ahA(g)(p)(h)(x)(l)(hx:RL x l)(hl:l.length<=1000000)(hp:∀a r,r∈l->IL a r->W2.call g [a] h=aa (.ret (.v (.bool (p r))),h)):
 W2.call 152 [x,.func (.func g) [] []] h=aa (.ret (.v (.bool (l.any p))),h):=by
 obtain⟨r,h',c,rfl,i,rfl,hi⟩:=ali g p h x l hx hl hp;have pR:(0<=i)=(l.any p=ah):=by rw[<-hi];simp
 have Cq:decide (0<=i)=l.any p:=hi;unfold im at c;refine cJ rfl Tryz.func152 rfl ?_;clear hi pR;exact lP @arx
def nD(n:Int):Bool:=decide (n<0)||decide (1073741789<=n)
def anb(n:Int)(h:aq):W2.call 218 [im n] h=aa (.ret (.v (.bool (nD n))),h):=by
 unfold im nD;by_cases h0:n<0
 ·refine cJ rfl adW rfl ?_;have:decide (n<0)=ah:=by simp[h0]
  exact jl @aaY @Bool.true_or
 ·refine cJ rfl adW rfl ?_;have:decide (n<0)=az:=by simp[h0]
  exact jl @aaY @acx
def Lq(e:Int)(h:aq):W2.call 199 [.v (.bool ah),im e] h=aa (.ret (.tuple []),h):=by unfold im;refine cJ rfl Tryz.func199 rfl ?_;exact lP @arL
def ane{l:List Int}(h:∀x∈l,okF x):l.any nD=az:=by rw[acT];intro x hx;obtain⟨h1,h2⟩:=h x hx;have:Qi=1073741789:=rfl;unfold nD;simp;omega
def Vp(h:aq)(x:AV)(ae:List (List Int))(w:Nat)(hx:RL x ae)(hr:ae.length<=1000)(hw:∀r∈ae,r.length=w)(oC:w<=64)(bq:∀r∈ae,∀x∈r,okF x):∃h',W2.call 200 [x] h=aa (.ret (.tuple []),h')/\h'=h:=by
 obtain⟨k,s,xs,rfl,hs,dN,eH⟩:=hx;have kk:=al.mk (aw hs (aw eH (aw hw bq)));clear hs eH hw bq;have u23:=dQ;have u22:=ji;have z23:=il;have cS:(xs.map λa=>[a]).length=ae.length:=by rw[bu];exact dN
 have n2:=Lq 2;have n130:=Lq 130;unfold im at n2 n130;refine hY rfl Tryz.func200 rfl ?_;refine br @IX ?_;refine cz (λm e H=>∃i:Nat,i<=ae.length/\m=ae.length - i/\e.get 0=.list k s (xs.map λa=>[a])/\e.get 7=.list k s (xs.map λa=>[a])/\e.get 8=.v (.int .i64 (ae.length:Nat))/\e.get 9=.v (.int .i64 (i:Nat))/\e.defers=[]/\H=h) ?_ ae.length _ _ ?_;rotate_left 1
 ·refine⟨0,cA _,rfl,?_,?_,?_,?_,?_,rfl⟩<;>exact gR
 rintro m e H ⟨i,hi,rfl,g0,g7,g8,g9,hd,rfl⟩;by_cases aA:i<ae.length
 ·have bD:s=1:=kk.out.1 (by intro q;rw[q] at aA;simp at aA);subst bD;obtain⟨a,gh⟩:∃a,xs[i]?=aa a:=⟨_,aR ag⟩;obtain⟨r,hv⟩:∃r,ae[i]?=aa r:=⟨_,aR aA⟩;have ld:=lV (H:=H) (s:=1) gh;obtain⟨ka,sa,rfl,jt⟩:=kk.out.2.1 i a r gh hv;have cP:=kk.out.2.2.1 r (dj hv);have xK:(ints r).length=w:=by rw[dD];exact cP
  have fx:(i:Int)<(ae.length:Int):=by omega
  have hwd:decide ((w:Int)<=64)=ah:=by simp;omega
  clear gh hv jt cP;refine bK @IX @bh ?_;exact⟨ae.length - (i+1),by omega,i+1,by omega,rfl,by simp⟩
 ·refine br @IX ?_;refine bH.gen λe0 aF bB cU cN=>?_;have f0:e0.get 0=.list k s (xs.map λa=>[a]):=by rw[aF];simp only[gW,reduceIte,aO,aM];exact g0
  have f4:e0.get 4=.func (.func 218) [] []:=by rw[aF];exact gS
  have f18:e0.get 18=.list k s (xs.map λa=>[a]):=by rw[aF];exact gS
  have f19:e0.get 19=.v (.int .i64 (ae.length:Nat)):=by rw[aF];exact gS
  have f20:e0.get 20=.v (.int .i64 (0:Nat)):=by rw[aF];exact gR
  have fd:e0.defers=[]:=by rw[bB];simp only[gW,reduceIte,aO,aM];exact hd
  clear aF bB cU cN g0 g7 g8 g9 hd hi aA;refine cz (λm e H2=>∃i:Nat,i<=ae.length/\m=ae.length - i/\e.get 0=.list k s (xs.map λa=>[a])/\e.get 4=.func (.func 218) [] []/\e.get 18=.list k s (xs.map λa=>[a])/\e.get 19=.v (.int .i64 (ae.length:Nat))/\e.get 20=.v (.int .i64 (i:Nat))/\e.defers=[]/\H2=H) ?_ ae.length _ _ ?_;rotate_left 1
  ·exact⟨0,cA _,rfl,f0,f4,f18,f19,f20,fd,rfl⟩
  clear f0 f4 f18 f19 f20 fd;rintro m e H ⟨i,hi,rfl,g0,g4,g18,g19,g20,hd,rfl⟩;by_cases aA:i<ae.length
  ·have bD:s=1:=kk.out.1 (by intro q;rw[q] at aA;simp at aA);subst bD;obtain⟨a,gh⟩:∃a,xs[i]?=aa a:=⟨_,aR ag⟩;obtain⟨r,hv⟩:∃r,ae[i]?=aa r:=⟨_,aR aA⟩;obtain⟨a0,gu⟩:∃a,xs[0]?=aa a:=⟨_,aR ag⟩;obtain⟨r0,gv⟩:∃r,ae[0]?=aa r:=⟨_,aR ag⟩;have ld:=lV (H:=H) (s:=1) gh;have ld0:=lV (H:=H) (s:=1) gu;obtain⟨ka,sa,rfl,jt⟩:=kk.out.2.1 i a r gh hv;obtain⟨ka0,sa0,rfl,qp⟩:=kk.out.2.1 0 a0 r0 gu gv;have cP:=kk.out.2.2.1 r (dj hv);have um:=kk.out.2.2.1 r0 (dj gv);have cc:=VD 218 nD H (.list ka sa (ints r)) r ⟨_,_,rfl,jt⟩ ag (λn _=>anb n H);rw[ane (kk.out.2.2.2 r (dj hv))] at cc;have xK:(ints r).length=w:=(by rw[dD];exact cP);have Qk:(ints r0).length=w:=(by rw[dD];exact um);have fx:(i:Int)<(ae.length:Int):=(by omega);have AD:(0:Int)<(ae.length:Int):=(by omega);have z0:(0:Int).toNat=0:=rfl;clear gh hv jt cP gu gv qp um;refine bK @IX @bh ?_;exact⟨ae.length - (i+1),by omega,i+1,by omega,rfl,by simp⟩
  ·refine br @IX ?_;exact⟨_,rfl,rfl⟩
def FA:Tryz.f144.results.toList=[.tmp 4,.tmp 5,.cell 6 32]:=av
def arG:Tryz.f177.results.toList=[]:=av
def J2(x)(hx:x.ek=ah):gf ao 22 1 [(0,x)]=aa (.list .tight 1 [[x]]):=by cases x<;>first|(cases hx;done)|kernel_rfl
def IL.cell{x}{l}(h:IL x l):x.ek=ah:=by obtain⟨k,s,rfl,-⟩:=h;rfl
def Vg(b:Nat)(h:aq):W2.jY 177 [.ptr (.box b) 0] au h=aa (.ret (.tuple []),au,h):=by have u20:=Tryz.underlying20;refine ah0 Tryz.func177 rfl ?_;exact rN @arG @aft @and_self
def aiH(h:aq)(x y:AV)(ae:List (List Int))(target:List Int)(hx:RL x ae)(hy:IL y target)(hr:ae.length<=64)(hw:∀r∈ae,r.length=target.length)(oC:target.length<=64)(bq:∀r∈ae,∀x∈r,okF x)(oZ:∀x∈target,okF x):
 W2.call 178 [x,y] h=aa (.ret (.tuple []),h):=by
 obtain⟨h1,c1,e1⟩:=Vp h x ae target.length hx ag hw oC bq;rw[e1] at c1;clear e1 h1;have yV:RL (.list .tight 1 [[y]]) [target]:=⟨.tight,1,[y],rfl,λ_=>rfl,rfl,λi a r ha hr=>by
  cases i with
  |zero=>simp only[List.getElem?_cons_zero] at ha hr;injection ha with ha;injection hr with hr;subst ha;subst hr;exact hy
  |succ i=>simp at ha⟩
 obtain⟨h2,c2,e2⟩:=Vp h (.list .tight 1 [[y]]) [target] target.length yV bE bE oC (by simpa using oZ);rw[e2] at c2;clear e2 h2;have bl:=J2 y hy.cell;have n2:=Lq 2;have n130:=Lq 130;obtain⟨k,s,xs,rfl,hs,dN,eH⟩:=hx;obtain⟨ky,sy,rfl,lT⟩:=hy;have u23:=dQ;have u22:=ji;have z23:=il;have cS:(xs.map λa=>[a]).length=ae.length:=by rw[bu];exact dN
 have y8:=dD target;have hrI:decide ((ae.length:Int)<=64)=ah:=by simp;omega
 unfold im at n2 n130;clear yV bq oZ;refine cJ rfl Tryz.func178 rfl ?_;by_cases h0:ae.length=0
 ·have hq:decide ((ae.length:Int)=0)=ah:=by simp[h0]
  clear hw eH h0;exact lP @aaU
 ·have hq:decide ((ae.length:Int)=0)=az:=by simp[h0]
  obtain⟨a0,gu⟩:∃a,xs[0]?=aa a:=⟨_,aR ag⟩;obtain⟨r0,gv⟩:∃r,ae[0]?=aa r:=⟨_,aR ag⟩;have bD:s=1:=hs (by intro q;rw[q] at h0;simp at h0);subst bD;have ld0:=lV (H:=h) (s:=1) gu;obtain⟨ka0,sa0,rfl,qp⟩:=eH 0 a0 r0 gu gv;have um:=hw r0 (dj gv);have Qk:(ints r0).length=target.length:=by rw[dD];exact um
  have AD:(0:Int)<(ae.length:Int):=by omega
  have z0:(0:Int).toNat=0:=rfl;clear hw eH gu gv um hs;exact jl @aaU @bh
def yI:gI ao 32=aa az:=av
def Jj:dt ao 32=aa 1:=av
def acg:(gZ ao 32).bind AV.bP=aa [im 0]:=av
def Y9{H}{b}{x}(hb:H.boxes[b]?=aa [x]):aH ao Gt H 32 (.ptr (.box b) 0)=aa x:=by rw[mJ yI hb];rfl
def abD{H}{b}{x}{n}(hb:H.boxes[b]?=aa [x]):b7 ao H 32 (.ptr (.box b) 0) (.v (.int .i64 n))=aa (H.put b [.v (.int .i64 n)]):=fA (off:=0) (cs:=[x]) (xs:=[im n]) rfl Jj hb rfl (aJ 1)
def atk{b n k}(hk:k<=n):∃off,iN ao 203 (.arr b 0 n n) (aa (.v (.int .i64 (k:Nat)))) au au=aa (.arr b off (n - k) (n - k))/\(k<n->off=k):=by
 refine⟨if n=k then 0 else 0+k * 1,?_,λh=>by rw[aI ag];omega⟩;have e1:gK n au n=aa n:=rfl;have e3:gK n (aa (.v (.int .i64 (k:Nat)))) 0=aa k:=by show(if 0<=(k:Int)/\(k:Int)<=(n:Int) then aa (k:Int).toNat else au)=_;rw[aG ⟨ag,by omega⟩];rfl
 unfold iN;simp only[GH,il,e1,e3,Option.isSome_none,yn,Bool.false_eq_true,false_and,if_false];rfl
def alD{b off len aD n}{k}(hn:n<len):dH ao 203 (.arr b off len aD) (.v (.int k (n:Nat)))=aa (.ptr (.box b) (off+n)):=by rw[E6 GH il ag ag,dV,Nat.mul_one]
def ml(t:List (List Int))(pv:List Nat)(n j:Nat):List Int:=(pv.zipIdx.take j).foldl (λy p=>y.set p.1 (ai (t.getD p.2 []) n)) (a9 n 0)
def LH(t)(pv)(n j):(ml t pv n j).length=n:=by unfold ml;rw[G9 (λp=>ai (t.getD p.2 []) n),mM]
def aaq{t}{pv}{n j p}(h:pv[j]?=aa p):(ml t pv n j).set p (ai (t.getD j []) n)=ml t pv n (j+1):=by
 have hz:pv.zipIdx[j]?=aa (p,j):=by rw[ac5,h];simp
 unfold ml;rw[ft hz,oj];rfl
def aap(t)(pv)(n):ml t pv n pv.length=p7 (t,pv) n:=by unfold ml p7;rw[gm bE]
def acD(ae:List (List Int))(target:List Int)(h:aq)(r:eY)(h':aq):Prop:=
 Ext h h'/\((qk ae target=au/\r=.ret (.tuple [.list .nil 0 [],.v (.bool az),im 0]))∨∃l b,qk ae target=aa l/\l.length=ae.length/\r=.ret (.tuple [.arr b 0 ae.length ae.length,.v (.bool ah),im 0])/\h'.boxes[b]?=aa (l.map im))
def ahs(h:aq)(x y:AV)(ae:List (List Int))(target:List Int)(hx:RL x ae)(hy:IL y target)(hr:ae.length<=64)(hw:∀r∈ae,r.length=target.length)(oC:target.length<=64)(bq:∀r∈ae,∀x∈r,okF x)(oZ:∀x∈target,okF x)(ho:cG h=ah):
 ∃r h',W2.call 144 [x,y] h=aa (r,h')/\acD ae target h r h':=by
 have c1:=aiH (h.push [im 0]) x y ae target hx hy hr hw oC bq oZ;obtain⟨_,H2,c2,tb,B,rfl,T2,X2,lu,fT⟩:=au4 (h.push [im 0]) x y ae target hx hy ag ag hw;obtain⟨t1,t2⟩:=S1 bq oZ;have tl:=S0 ae target;obtain⟨_,H3,c3,tk,s3,B3,rfl,qV,T3,KB,G3⟩:=apf H2 tb B (fV ae target) (ae.length+1) ae.length T2 ag ag ag t2 (X2.ok ho);have jn:=apg (many:=ae.length) t1 t2 ag;obtain⟨R,V⟩:=IC t1 t2 (ag:ae.length<=ae.length+1);rw[jn] at qV T3 c3;rw[tl] at c3;have e1:qk ae target=if ((jg (fV ae target) ae.length).1.drop (jg (fV ae target) ae.length).2.length).all (λa=>decide (ai a ae.length=0)) then aa (p7 (jg (fV ae target) ae.length) ae.length) else au:=rfl
 have HC:(jg (fV ae target) ae.length).1.length=target.length:=by have:=(aau t1 t2 ae.length ag).2.1;rw[<-aat,jn] at this;omega
 have X3:Ext (h.push [im 0]) H3:=X2.Q7 (G3.mu.uE X2.tn) (λb hb=>by
  rcases iu.1 hb with q|q
  ·rw[q];exact lu
  ·exact fT b q)
 have b0:H3.boxes[h.boxes.length]?=aa [im 0]:=X3.box _ _ (aZ _ _);have X0:Ext h H3:=(Ext.push h [im 0]).trans X3;obtain⟨k,s,xs,rfl,hs,dN,eH⟩:=hx;obtain⟨ky,sy,rfl,lT⟩:=hy;have cS:(xs.map λa=>[a]).length=ae.length:=by rw[bu];exact dN
 have awC:=V.len;generalize bT:jg (fV ae target) ae.length=st at *
 obtain⟨t',pv⟩:=st;dsimp only at *
 have HU:=QF pv;have kk:=al.mk (aw T3 (aw V (aw e1 (aw X0 (aw b0 qV)))));clear T2 X2 lu fT t1 t2 tl jn R V e1 KB G3 X3 b0 X0 T3 hs dN eH lT bT qV bq oZ hw ho;have u23:=dQ;have u22:=ji;have u203:=GH;have z23:=il;have z32:=acg;obtain⟨off,nC,AX⟩:=atk (b:=tb) (ag:pv.length<=target.length);have khoff:=al.mk AX;clear AX;unfold im at *
 refine db rfl Tryz.func144 rfl ?_;refine br @FA ?_;refine bH.gen λe0 aF bB cU cN=>?_;have f6:e0.get 6=.ptr (.box h.boxes.length) 0:=by rw[aF];exact gS
 have f7:e0.get 7=.v (.int .i64 (ae.length:Nat)):=by rw[aF];exact gS
 have f8:e0.get 8=.arr tb 0 target.length target.length:=by rw[aF];exact gS
 have f9:e0.get 9=.list tk s3 (ints (cD pv)):=by rw[aF];exact gS
 have f28:e0.get 28=.arr tb off (target.length - pv.length) (target.length - pv.length):=by rw[aF];exact gS
 have f29:e0.get 29=.v (.int .i64 ((target.length - pv.length:Nat):Int)):=by rw[aF];exact gS
 have f30:e0.get 30=.v (.int .i64 (0:Nat)):=by rw[aF];exact gR
 have fd:e0.defers=[(177,[.ptr (.box h.boxes.length) 0])]:=by rw[bB];exact gS
 have fp:e0.cV=au:=by rw[cU];exact gS
 clear aF bB cU cN c1 c2 c3 nC;refine cz (λm e H=>∃j:Nat,j<=target.length - pv.length/\m=target.length - pv.length - j/\al (∀i,i<j->∀a,t'[pv.length+i]?=aa a->ai a ae.length=0)/\e.get 6=.ptr (.box h.boxes.length) 0/\e.get 7=.v (.int .i64 (ae.length:Nat))/\e.get 8=.arr tb 0 target.length target.length/\e.get 9=.list tk s3 (ints (cD pv))/\e.get 28=.arr tb off (target.length - pv.length) (target.length - pv.length)/\e.get 29=.v (.int .i64 ((target.length - pv.length:Nat):Int))/\e.get 30=.v (.int .i64 (j:Nat))/\e.defers=[(177,[.ptr (.box h.boxes.length) 0])]/\e.cV=au/\H=H3) ?_ (target.length - pv.length) _ _ ?_;rotate_left 1
 ·exact⟨0,cA _,rfl,⟨λi hi=>absurd hi (tN _)⟩,f6,f7,f8,f9,f28,f29,f30,fd,fp,rfl⟩
 clear f6 f7 f8 f9 f28 f29 f30 fd fp;rintro m e H3 ⟨j,hj,rfl,kz,g6,g7,g8,g9,g28,g29,g30,hd,hp,rfl⟩;obtain⟨T3,V,e1,X0,b0,qV⟩:=kk.out;have s6:=λn=>abD (n:=n) b0;by_cases aA:j<target.length - pv.length
 ·obtain⟨a,ha⟩:∃a,t'[pv.length+j]?=aa a:=⟨_,aR ag⟩;obtain⟨b,hb⟩:∃b,B3[pv.length+j]?=aa b:=⟨_,aR (by rw[T3.len];omega)⟩;have wa:=T3.wid a (dj ha);have xB:(B3.map λb=>AV.arr b 0 (ae.length+1) (ae.length+1))[off+j]?=aa (.arr b 0 (ae.length+1) (ae.length+1)):=by rw[khoff.out ag,ej,hb];rfl
  have m1:=uw T3.gX xB;have m2:=zw (T3.row _ _ _ hb ha) (xS (k:=ae.length) ag);have ix1:=alD (b:=tb) (off:=off) (aD:=target.length - pv.length) (k:=.i64) aA;have ix2:=qX (b:=b) (len:=ae.length+1) (aD:=ae.length+1) (k:=.i64) (ag:ae.length<ae.length+1);have fx:(j:Int)<((target.length - pv.length:Nat):Int):=by omega
  by_cases hz:ai a ae.length=0
  ·have kz2:al (∀i,i<j+1->∀a,t'[pv.length+i]?=aa a->ai a ae.length=0):=⟨λi hi a' nu=>by
    rcases dW i j with q|q
    ·exact kz.out i q a' nu
    ·rw[(ag:i=j),ha] at nu;injection nu with nu;rw[<-nu];exact hz⟩
   rw[hz] at m2;unfold im at *
   clear T3 V e1 X0 b0 qV s6 ha hb wa xB hz kz;refine br @FA ?_;exact⟨target.length - pv.length - (j+1),by omega,j+1,by omega,rfl,kz2,by simp⟩
  ·have e2:qk ae target=au:=(by rw[e1,aI];intro q;rw[ey] at q;have:=q a (dj (i:=j) (by rw[pD];exact ha));exact hz (of_decide_eq_true this));have ke:=al.mk e2;have kX:=al.mk X0;have kb:=al.mk b0;have l6:∀n,aH ao Gt (H3.put h.boxes.length [.v (.int .i64 n)]) 32 (.ptr (.box h.boxes.length) 0)=aa (.v (.int .i64 n)):=λn=>Y9 (eu (aS.1 b0).1);unfold im at *
   clear T3 V e1 X0 b0 qV ha hb wa xB kz e2
   repeat' (first|simp(maxSteps:=999999)(disch:=first|exact dZ|fail)only[gW,reduceIte,aO,aM,FA,S5 (Vg _ _), *]|refine dX ?_ ?_<;>(intro _;try omega))
   exact⟨_,_,rfl,kX.out.fK (aJ _) _,.inl ⟨ke.out,rfl⟩⟩
 ·have nS:j=target.length - pv.length:=by omega
  subst nS;have e2:qk ae target=aa (p7 (t',pv) ae.length):=by rw[e1,aG];rw[ey];intro a ha;obtain⟨i,hi⟩:=uJ ha;rw[pD] at hi;have cS:=(aS.1 hi).1;exact bQ (kz.out i ag a hi)
  rw[<-aap] at e2;have ke:=al.mk e2;have mk:=Bc H3 ae.length ag .i64 .i64;have oz:a9 ae.length (im 0)=(ml t' pv ae.length 0).map im:=by unfold ml;rw[fR,Gj,yy]
  rw[oz] at mk;clear e1 e2 oz kz b0 s6 X0 T3 V qV;unfold im at mk;refine br @FA ?_;refine bH.gen λe0 aF bB cU cN=>?_;have f4:e0.get 4=.arr H3.boxes.length 0 ae.length ae.length:=by rw[aF];exact gS
  have f6:e0.get 6=.ptr (.box h.boxes.length) 0:=by rw[aF];simp only[gW,reduceIte,aO,aM];exact g6
  have f7:e0.get 7=.v (.int .i64 (ae.length:Nat)):=by rw[aF];simp only[gW,reduceIte,aO,aM];exact g7
  have f8:e0.get 8=.arr tb 0 target.length target.length:=by rw[aF];simp only[gW,reduceIte,aO,aM];exact g8
  have f42:e0.get 42=.list tk s3 (ints (cD pv)):=by rw[aF];exact gS
  have f43:e0.get 43=.v (.int .i64 (pv.length:Nat)):=by rw[aF];exact gS
  have f44:e0.get 44=.v (.int .i64 (0:Nat)):=by rw[aF];exact gR
  have fd:e0.defers=[(177,[.ptr (.box h.boxes.length) 0])]:=by rw[bB];simp only[gW,reduceIte,aO,aM];exact hd
  have fp:e0.cV=au:=by rw[cU];simp only[gW,reduceIte,aO,aM];exact hp
  clear aF bB cU cN g6 g7 g8 g9 g28 g29 g30 hd hp mk;refine cz (λm e H=>∃j:Nat,j<=pv.length/\m=pv.length - j/\e.get 4=.arr H3.boxes.length 0 ae.length ae.length/\e.get 6=.ptr (.box h.boxes.length) 0/\e.get 7=.v (.int .i64 (ae.length:Nat))/\e.get 8=.arr tb 0 target.length target.length/\e.get 42=.list tk s3 (ints (cD pv))/\e.get 43=.v (.int .i64 (pv.length:Nat))/\e.get 44=.v (.int .i64 (j:Nat))/\e.defers=[(177,[.ptr (.box h.boxes.length) 0])]/\e.cV=au/\H=H3.push ((ml t' pv ae.length j).map im)) ?_ pv.length _ _ ?_;rotate_left 1
  ·exact⟨0,cA _,rfl,f4,f6,f7,f8,f42,f43,f44,fd,fp,rfl⟩
  clear f4 f6 f7 f8 f42 f43 f44 fd fp;rintro m e H ⟨j,hj,rfl,g4,g6,g7,g8,g42,g43,g44,hd,hp,rfl⟩;obtain⟨T3,V,-,X0,b0,qV⟩:=kk.out;by_cases aA:j<pv.length
  ·obtain⟨p,eL⟩:∃p,pv[j]?=aa p:=⟨_,aR aA⟩;have y9:=V.lt j p eL;have bD:s3=1:=by
    rcases qV with q|⟨q,-⟩
    ·exact q
    ·exfalso;unfold cD at q;rw[Gp] at q;rw[q] at aA;exact tN _ aA
   subst bD;obtain⟨a,ha⟩:∃a,t'[j]?=aa a:=⟨_,aR ag⟩;obtain⟨b,hb⟩:∃b,B3[j]?=aa b:=⟨_,aR (by rw[T3.len];omega)⟩;have wa:=T3.wid a (dj ha);have xB:(B3.map λb=>AV.arr b 0 (ae.length+1) (ae.length+1))[j]?=aa (.arr b 0 (ae.length+1) (ae.length+1)):=(by rw[ej,hb];rfl);have P9:ai (cD pv) j=(p:Int):=(by have:(cD pv)[j]?=aa (p:Int):=(by unfold cD;rw[ej,eL];rfl);unfold ai;rw[ez,this];rfl);have l0:=eE (H:=H3.push ((ml t' pv ae.length j).map im)) (l:=cD pv) (i:=j) (s:=1) (by unfold cD;rw[bu];exact aA);rw[P9] at l0;have m1:=uw (H:=H3.push ((ml t' pv ae.length j).map im)) (aY T3.gX) xB;have m2:=zw (H:=H3.push ((ml t' pv ae.length j).map im)) (aY (T3.row _ _ _ hb ha)) (xS (k:=ae.length) ag);have ix1:=E9 (b:=tb) (len:=target.length) (aD:=target.length) (k:=.i64) (ag:j<target.length);have ix2:=qX (b:=b) (len:=ae.length+1) (aD:=ae.length+1) (k:=.i64) (ag:ae.length<ae.length+1);have ix3:=qX (b:=H3.boxes.length) (len:=ae.length) (aD:=ae.length) (k:=.i64) y9;have sk:=zJ (H:=H3.push ((ml t' pv ae.length j).map im)) (b:=H3.boxes.length) (r:=ml t' pv ae.length j) (k:=p) (x:=ai a ae.length) (aZ _ _) (by rw[LH];exact y9);have gD:t'.getD j []=a:=(by rw[ez,ha];rfl);rw[pc,<-gD,aaq eL,gD] at sk;have fx:(j:Int)<(pv.length:Int):=(by omega);have z3:=fP;unfold im at *
   clear T3 V X0 b0 qV ha hb wa xB gD P9 eL kk ke;refine bK @FA @bh ?_;exact⟨pv.length - (j+1),by omega,j+1,by omega,rfl,by simp⟩
  ·have nS:j=pv.length:=(by omega);subst nS;have b1:(H3.push ((ml t' pv ae.length pv.length).map im)).boxes[h.boxes.length]?=aa [im 0]:=aY b0;have s6:=λn=>abD (n:=n) b1;have PT:=(aS.1 b1).1;have l6:∀n,aH ao Gt ((H3.push ((ml t' pv ae.length pv.length).map im)).put h.boxes.length [.v (.int .i64 n)]) 32 (.ptr (.box h.boxes.length) 0)=aa (.v (.int .i64 n)):=λn=>Y9 (eu PT);have bG:H3.boxes.length≠h.boxes.length:=(by have:=(aS.1 b0).1;omega);have kX:=al.mk X0;clear T3 V X0 b0 b1 qV PT
   repeat' (first|simp(maxSteps:=999999)(disch:=first|exact dZ|fail)only[gW,reduceIte,aO,aM,FA,S5 (Vg _ _), *]|refine dX ?_ ?_<;>(intro _;try omega))
   exact⟨_,_,rfl,(kX.out.trans (.push _ _)).fK (aJ _) _,.inr ⟨_,_,ke.out,LH _ _ _ _,rfl,(cX bG).trans (aZ _ _)⟩⟩
def aaP:Tryz.f154.results.toList=[.tmp 6]:=av
def arz:Tryz.f155.results.toList=[.tmp 2]:=av
def arw:Tryz.f151.results.toList=[.tmp 2]:=av
def ary:Tryz.f153.results.toList=[.tmp 2]:=av
def yb:Tryz.f97.results.toList=[.tmp 2]:=av
def aca(n a b)(h):W2.call 154 [im n,im a,im b] h=aa (.ret (.v (.bool (decide (a<=n)&&decide (n<=b)))),h):=by
 unfold im;by_cases h0:a<=n
 ·have:decide (a<=n)=ah:=by simp[h0]
  refine cJ rfl adP rfl ?_;exact jl @aaP @Bool.true_and
 ·have:decide (a<=n)=az:=by simp[h0]
  refine cJ rfl adP rfl ?_;exact jl @aaP @yn
def wx(n:Int):Bool:=decide (0<=n)&&decide (n<=63)
def Z1(n)(h):W2.call 155 [im n] h=aa (.ret (.v (.bool (wx n))),h):=by
 have w:=aca n 0 63 h;unfold wx;unfold im at *
 refine cJ rfl Tryz.func155 rfl ?_;exact lP @arz
def amq(a)(r)(ha:IL a r)(h):W2.call 151 [a] h=aa (.ret (.v (.bool (decide (64<r.length)))),h):=by
 obtain⟨k,s,rfl,-⟩:=ha;have u23:=dQ;have hl:=dD r;have hd:decide (64<r.length)=decide ((64:Int)<(r.length:Int)):=by rw[decide_eq_decide];omega
 rw[hd];refine cJ rfl Tryz.func151 rfl ?_;exact lP @arw
def am9(n)(h):W2.call 153 [im n] h=aa (.ret (.v (.bool (!bX n))),h):=by
 have w:=aca n 0 1073741788 h;have e:bX n=(decide (0<=n)&&decide (n<=1073741788)):=by unfold bX Qi;congr 1;rw[decide_eq_decide];omega
 rw[e];unfold im at *
 refine cJ rfl Tryz.func153 rfl ?_;exact lP @ary
def NU:gI ao 22=aa az:=av
def yG:gI ao 25=aa ah:=av
def dE{b}:gg ao 25 (.ptr (.box b) 0) 0=aa (.ptr (.box b) 0):=av
def eQ{b}:gg ao 25 (.ptr (.box b) 0) 1=aa (.ptr (.box b) 1):=av
def rZ{H}{b}{x y}(hb:H.boxes[b]?=aa [x,y]):aH ao Gt H 22 (.ptr (.box b) 0)=aa x:=by rw[mJ NU hb];rfl
def Ff{H}{b}{x y}(hb:H.boxes[b]?=aa [x,y]):aH ao Gt H 23 (.ptr (.box b) 1)=aa y:=by rw[mJ kU hb];rfl
def tV(ae:List (List Int))(owners:List Int)(i:Nat):Bool:= !(ae.getD i []).isEmpty&&decide ((ae.getD i []).length=(ae.getD 0 []).length)&&(decide (0<=ai owners i)&&decide (ai owners i<=63))&&(ae.getD i []).all bX
def Vt(h:aq)(x y:AV)(ae:List (List Int))(owners:List Int)(hx:RL x ae)(hy:IL y owners):
 ∃h',W2.call 97 [.agg [x,y]] h=aa (.ret (.v (.int .i64 (cW ae owners))),h')/\h'=h.push [x,y]:=by
 have c1:=λ(hl:ae.length<=64)=>ahA 151 (λr=>decide (64<r.length)) (h.push [x,y]) x ae hx ag (λa r _ ha=>amq a r ha _);obtain⟨k,s,xs,rfl,hs,dN,eH⟩:=hx;obtain⟨ky,sy,rfl,lT⟩:=hy;have kk:=al.mk (aw hs (aw eH lT));clear hs eH lT;have u23:=dQ;have u22:=ji;have z23:=il;have z3:=fP;have cS:(xs.map λa=>[a]).length=ae.length:=by rw[bu];exact dN
 have tq:=dD owners;have b0:(h.push [.list k s (xs.map λa=>[a]),.list ky sy (ints owners)]).boxes[h.boxes.length]?=aa [.list k s (xs.map λa=>[a]),.list ky sy (ints owners)]:=aZ _ _;have l0:=rZ b0;have l1:=Ff b0;have bx:(AV.agg [.list k s (xs.map λa=>[a]),.list ky sy (ints owners)]).bP=aa [.list k s (xs.map λa=>[a]),.list ky sy (ints owners)]:=rfl;clear b0;unfold cW;refine hY rfl Tryz.func97 rfl ?_;by_cases h1:64<ae.length
 ·have hq:decide ((64:Int)<(ae.length:Int))=ah:=by simp;omega
  rw[aG (by simp[h1])];clear c1;generalize hH:h.push [.list k s (xs.map λa=>[a]),.list ky sy (ints owners)]=H at *
  refine bA @yb @dE @eQ (aw @bg @hH) ?_;exact⟨_,rfl,rfl⟩
 have hq:decide ((64:Int)<(ae.length:Int))=az:=by simp;omega
 have c2:=c1 ag;have fj:decide (64<ae.length)=az:=by simp[h1]
 rw[fj,acx];clear c1 fj;cases h2:ae.any λr=>decide (64<r.length) with
 |true=>rw[h2] at c2;rw[aG rfl];clear h2;refine bA @yb @dE @eQ @bg ?_;exact⟨_,rfl,rfl⟩|false=>
  rw[h2] at c2;rw[aI bE];by_cases h3:ae.length=owners.length;rotate_left 1
  ·rw[aG h3];clear h2;have hn:¬((ae.length:Int)=(owners.length:Int)):=(by omega);refine bA @yb @dE @eQ @bg ?_;exact⟨_,rfl,rfl⟩
  rw[aI (by simpa using h3)];have xu:=al.mk h2;have hn:(ae.length:Int)=(owners.length:Int):=by omega
  have kn:=al.mk h3;clear h2 h3;obtain⟨H,hH⟩:∃H,h.push [.list k s (xs.map λa=>[a]),.list ky sy (ints owners)]=H:=⟨_,rfl⟩;rw[hH] at l0 l1 c2;rw[hH];generalize ij:(if ((bM ae.length).all λi=> !(ae.getD i []).isEmpty&&decide ((ae.getD i []).length=(ae.getD 0 []).length)&&(decide (0<=ai owners i)&&decide (ai owners i<=63))&&(ae.getD i []).all bX)=ah then (0:Int) else 230)=res;have kres:al (res=if ((bM ae.length).all (tV ae owners))=ah then (0:Int) else 230):=⟨ij.symm⟩;have kH:=al.mk hH;clear ij hn;have eO:ae.length<=64:=by omega
  have EJ:(owners.length:Int)=(ae.length:Int):=by have:=kn.out;omega
  refine bA @yb @dE @eQ (aw @bg @hH) ?_;refine bH.gen λe0 aF bB cU cN=>?_;have f1:e0.get 1=.ptr (.box h.boxes.length) 0:=by rw[aF];exact gS
  have f25:e0.get 25=.list k s (xs.map λa=>[a]):=by rw[aF];exact gS
  have f26:e0.get 26=.v (.int .i64 (ae.length:Nat)):=by rw[aF];exact gS
  have f27:e0.get 27=.v (.int .i64 (0:Nat)):=by rw[aF];exact gR
  have fd:e0.defers=[]:=by rw[bB];exact gS
  clear aF bB cU cN hH bx c2 hq h1;refine cz (λm e H2=>∃i:Nat,i<=ae.length/\m=ae.length - i/\al (∀j,j<i->tV ae owners j=ah)/\e.get 1=.ptr (.box h.boxes.length) 0/\e.get 25=.list k s (xs.map λa=>[a])/\e.get 26=.v (.int .i64 (ae.length:Nat))/\e.get 27=.v (.int .i64 (i:Nat))/\e.defers=[]/\H2=H) ?_ ae.length _ _ ?_;rotate_left 1
  ·exact⟨0,cA _,rfl,⟨λj hj=>absurd hj (tN _)⟩,f1,f25,f26,f27,fd,rfl⟩
  clear f1 f25 f26 f27 fd;rintro m e H2 ⟨i,hi,rfl,kf,g1,g25,g26,g27,hd,WJ⟩;rw[<-WJ] at l0 l1 kH ⊢;clear WJ;by_cases aA:i<ae.length;rotate_left 1
  ·have fF:i=ae.length:=(by omega);subst fF;have h0:res=0:=(by rw[kres.out,aG];rw[ey];intro j hj;exact kf.out j (fQ.1 hj));have k0:=al.mk h0;clear h0;refine br @yb ?_;exact⟨_,by rw[k0.out],rfl⟩
  have bD:s=1:=kk.out.1 (by intro q;rw[q] at aA;simp at aA);subst bD;have ny:sy=1:=kk.out.2.2 (by intro q;have h0:=kn.out;rw[q,kQ] at h0;omega);subst ny;obtain⟨a,gh⟩:∃a,xs[i]?=aa a:=⟨_,aR ag⟩;obtain⟨r,hv⟩:∃r,ae[i]?=aa r:=⟨_,aR aA⟩;obtain⟨a0,gu⟩:∃a,xs[0]?=aa a:=⟨_,aR ag⟩;obtain⟨r0,gv⟩:∃r,ae[0]?=aa r:=⟨_,aR ag⟩;have ld:=lV (H:=H2) (s:=1) gh;have ld0:=lV (H:=H2) (s:=1) gu;have y8:=kk.out.2.1 i a r gh hv;obtain⟨ka,sa,rfl,jt⟩:=y8;obtain⟨ka0,sa0,rfl,qp⟩:=kk.out.2.1 0 a0 r0 gu gv;have cP:=dD r;have um:=dD r0;have ldo:=eE (H:=H2) (l:=owners) (i:=i) (s:=1) (by have:=kn.out;omega);have Xe:r.length<=64:=by have:=xu.out;rw[acT] at this;have:=this r (dj hv);simpa using this
  have cc:=VD 153 (λn=> !bX n) H2 (.list ka sa (ints r)) r ⟨_,_,rfl,jt⟩ ag (λn _=>am9 n H2);have cp:=Z1 (ai owners i) H2;have xE:tV ae owners i=(!r.isEmpty&&decide (r.length=r0.length)&&wx (ai owners i)&&r.all bX):=by unfold tV wx;have g1:ae.getD i []=r:=(by rw[ez,hv];rfl);have g2:ae.getD 0 []=r0:=(by rw[ez,gv];rfl);rw[g1,g2]
  have lq:(r.any λn=> !bX n)= !(r.all bX):=by rw[List.any_eq_not_all_not];simp
  rw[lq] at cc;have fy:=al.mk xE;have bad:tV ae owners i=az->res=230:=by intro q;rw[kres.out,aI];intro z;rw[ey] at z;have:=z i (fQ.2 aA);rw[q] at this;cases this
  have kbad:=al.mk bad;have fx:(i:Int)<(ae.length:Int):=by omega
  have AD:(0:Int)<(ae.length:Int):=by omega
  have z0:(0:Int).toNat=0:=rfl;clear xE bad lq Xe gh hv jt gu gv qp;unfold im at *
  generalize ai owners i=o at *
  by_cases e1:r.length=0
  ·have tv:decide ((r.length:Int)=0)=ah:=(by simp[e1]);have hb:res=230:=kbad.out (by rw[fy.out,List.length_eq_zero_iff.1 e1];rfl);have kb:=al.mk hb;clear hb e1 cc cp;refine bA @yb @dE @eQ @bh ?_;exact⟨_,by rw[kb.out],rfl⟩
  have tv:decide ((r.length:Int)=0)=az:=by simp[e1]
  have oU:r.isEmpty=az:=by cases r with|nil=>exact absurd rfl e1|cons _ _=>rfl
  by_cases e2:r.length=r0.length;rotate_left 1
  ·have rV:decide ((r.length:Int)=(r0.length:Int))=az:=(by simp;omega);have hb:res=230:=kbad.out (by rw[fy.out,oU,cE e2];rfl);have kb:=al.mk hb;clear hb e1 e2 oU cc cp;refine bA @yb @dE @eQ @bh ?_;exact⟨_,by rw[kb.out],rfl⟩
  have rV:decide ((r.length:Int)=(r0.length:Int))=ah:=by simp;omega
  cases e3:wx o with
  |false=>have hb:res=230:=kbad.out (by rw[fy.out,e3];simp);have kb:=al.mk hb;rw[e3] at cp;clear hb e1 e2 oU cc e3;refine bA @yb @dE @eQ @bh ?_;exact⟨_,by rw[kb.out],rfl⟩
  |true=>
   rw[e3] at cp;cases e4:r.all bX with
   |false=>have hb:res=230:=kbad.out (by rw[fy.out,e4];simp);have kb:=al.mk hb;rw[e4] at cc;clear hb e1 e2 oU e3 e4;refine bA @yb @dE @eQ @bh ?_;exact⟨_,by rw[kb.out],rfl⟩
   |true=>
    rw[e4] at cc;have kf2:al (∀j,j<i+1->tV ae owners j=ah):=⟨λj hj=>by
     rcases dW j i with q|q
     ·exact kf.out j q
     ·rw[(ag:j=i),fy.out,oU,bQ e2,e3,e4];rfl⟩
    clear e1 e2 oU e3 e4 fy kf;refine bA @yb @dE @eQ @bh ?_;exact⟨ae.length - (i+1),by omega,i+1,by omega,rfl,kf2,by simp⟩
def FG:Tryz.f198.results.toList=[.tmp 4,.tmp 5]:=av
def arO:Tryz.f216.results.toList=[.tmp 4]:=av
def arP:Tryz.f217.results.toList=[.tmp 2]:=av
def arS:Tryz.f226.results.toList=[.tmp 2]:=av
def Zz(n)(h):W2.call 226 [im n] h=aa (.ret (.v (.bool az)),h):=by
 unfold im;refine cJ rfl Tryz.func226 rfl ?_
 repeat' (first|simp(maxSteps:=999999)(disch:=first|exact dZ|fail)only[gW,reduceIte,aO,aM,arS,ne_eq,not_true_eq_false,decide_false, *]|refine dX ?_ ?_<;>(intro _;try omega))
def amU(n)(h):W2.call 217 [im n] h=aa (.ret (.v (.bool az)),h):=by
 unfold im;refine cJ rfl Tryz.func217 rfl ?_
 repeat' (first|simp(maxSteps:=999999)(disch:=first|exact dZ|fail)only[gW,reduceIte,aO,aM,arP,ne_eq,not_true_eq_false,decide_false, *]|refine dX ?_ ?_<;>(intro _;try omega))
def ama(a b)(h):W2.call 216 [im a,im b] h=aa (.ret (.v (.bool (decide (a<b)))),h):=by
 have n1:=Zz a h;have n2:=Zz b h;unfold im at *
 refine cJ rfl Tryz.func216 rfl ?_;exact lP @arO
def VG(n)(h):nL ao h 179 3 (.v (.int .u64 n))=aa (.v (.int .i64 (IntKind.i64.wrap n)),h):=av
def abj{t}{x y}{n}:cY ao .shr t x y (.v (.int .u64 (n:Nat))) (.v (.int .u64 1))=aa (.v (.int .u64 ((n/2:Nat):Int))):=by rw[BP aV];congr 3;show((n:Nat):Int).fdiv (2^1)=_;rw[Int.fdiv_eq_ediv_of_nonneg _ aV];simp
def avF{n}(h:n<18446744073709551616):IntKind.u64.wrap (n:Nat)=(n:Nat):=by show((n:Nat):Int).emod 18446744073709551616=_;exact Int.emod_eq_of_lt ag ag
def Jr(ar:List Int):Prop:=∀i j:Nat,i<j->j<ar.length->ai ar i<ai ar j
def GP{l}{i}(h:i<l.length):ai l i∈l:=by rw[fm h];exact iW h
def Zs{l}{x}(h:x∈l):∃i,i<l.length/\ai l i=x:=by obtain⟨i,hi,rfl⟩:=ac6 h;exact⟨i,hi,fm hi⟩
def asS(h:aq)(x:AV)(ar:List Int)(o:Int)(hx:IL x ar)(hs:Jr ar)(hl:ar.length<=1000000):
 ∃r h',W2.call 198 [x,im o] h=aa (r,h')/\h'=h/\∃i:Int,r=.ret (.tuple [im i,.v (.bool (ar.contains o))]):=by
 obtain⟨k,s,rfl,dL⟩:=hx;have kk:=al.mk (aw dL hs);clear dL hs;have u23:=dQ;have z3:=fP;have cS:=dD ar;have iE:=λn=>amU n h;unfold im at *
 refine db rfl Tryz.func198 rfl ?_;refine br @FG ?_;refine bH.gen λe0 aF bB cU cN=>?_;have f0:e0.get 0=.list k s (ints ar):=by rw[aF];exact gS
 have f1:e0.get 1=.v (.int .i64 o):=by rw[aF];exact gS
 have f6:e0.get 6=.v (.int .i64 (ar.length:Nat)):=by rw[aF];exact gS
 have f7:e0.get 7=.v (.int .i64 (0:Nat)):=by rw[aF];exact gR
 have f8:e0.get 8=.v (.int .i64 (ar.length:Nat)):=by rw[aF];exact gS
 have fd:e0.defers=[]:=by rw[bB];exact gS
 clear aF bB cU cN;refine cz (λm e H=>∃lo hi:Nat,lo<=hi/\hi<=ar.length/\m=hi - lo/\al ((∀j,j<lo->ai ar j<o)/\∀j,hi<=j->j<ar.length->o<=ai ar j)/\e.get 0=.list k s (ints ar)/\e.get 1=.v (.int .i64 o)/\e.get 6=.v (.int .i64 (ar.length:Nat))/\e.get 7=.v (.int .i64 (lo:Nat))/\e.get 8=.v (.int .i64 (hi:Nat))/\e.defers=[]/\H=h) ?_ ar.length _ _ ?_;rotate_left 1
 ·exact⟨0,ar.length,cA _,aJ _,rfl,⟨λj hj=>absurd hj (tN _),λj h1 h2=>by omega⟩,f0,f1,f6,f7,f8,fd,rfl⟩
 clear f0 f1 f6 f7 f8 fd;rintro m e H ⟨lo,hi,h1,h2,rfl,kI,g0,g1,g6,g7,g8,hd,rfl⟩;by_cases aA:lo<hi
 ·have bD:s=1:=kk.out.1 (by intro q;rw[q,kQ] at h2;omega);subst bD;obtain⟨md,CE⟩:∃md:Nat,(lo+hi)/2=md:=⟨_,rfl⟩;have ld:=eE (H:=H) (l:=ar) (i:=md) (s:=1) ag;have ls:=ama (ai ar md) o H;have fx:(lo:Int)<(hi:Int):=by omega
  have AG:(lo:Int)+(hi:Int)=((lo+hi:Nat):Int):=by omega
  have hw1:IntKind.u64.wrap ((lo+hi:Nat):Int)=((lo+hi:Nat):Int):=avF ag;have oC:IntKind.i64.wrap (((lo+hi)/2:Nat):Int)=((md:Nat):Int):=by rw[CE];exact fN ag ag
  have awu:(md:Int)<(ar.length:Int):=by omega
  unfold im at ls;by_cases hc:ai ar md<o
  ·have Hu:decide (ai ar md<o)=ah:=(by simp[hc]);rw[Hu] at ls;have kI2:al ((∀j,j<md+1->ai ar j<o)/\∀j,hi<=j->j<ar.length->o<=ai ar j):=⟨λj hj=>by
    rcases dW j md with q|q
    ·exact acJ (kk.out.2 j md q ag) hc
    ·rw[(ag:j=md)];exact hc,kI.out.2⟩
   have khm:=al.mk CE;clear hc Hu CE;refine bA @FG @bh @uQ (aw @VG @abj) ?_;have:=khm.out;exact⟨hi - (md+1),by omega,md+1,hi,by omega,h2,rfl,kI2,aU,aU,aU,by simp,rfl,aU,aU⟩
  ·have Hu:decide (ai ar md<o)=az:=(by simp[hc]);rw[Hu] at ls;have kI2:al ((∀j,j<lo->ai ar j<o)/\∀j,md<=j->j<ar.length->o<=ai ar j):=⟨kI.out.1,λj hj XI=>by
    rcases dW md j with q|q
    ·have:=kk.out.2 md j q XI;omega
    ·rw[(ag:j=md)];omega⟩
   have khm:=al.mk CE;clear hc Hu CE;refine bA @FG @bh @uQ (aw @VG @abj) ?_;have:=khm.out;exact⟨md - lo,by omega,lo,md,by omega,by omega,rfl,kI2,aU,aU,aU,rfl,by simp,aU,aU⟩
 ·have eO:lo=hi:=by omega
  subst eO;have ja:∀j,j<ar.length->ai ar j=o->j=lo:=by
   intro j hj he;rcases Nat.lt_trichotomy j lo with q|q|q
   ·have:=kI.out.1 j q;omega
   ·exact q
   ·have h3:=kk.out.2 lo j q hj;have h4:=kI.out.2 lo (aJ _) ag;omega
  by_cases iD:lo<ar.length
  ·have bD:s=1:=kk.out.1 (by intro q;rw[q,kQ] at iD;omega);subst bD;have ld:=eE (H:=H) (l:=ar) (i:=lo) (s:=1) iD;have fx:(lo:Int)<(ar.length:Int):=(by omega);have hdI:decide ((lo:Int)<(ar.length:Int))=ah:=(by simp[iD]);by_cases hv:ai ar lo=o
   ·have hc:ar.contains o=ah:=(by rw[DT,bQ (by rw[<-hv];exact GP iD)]);have kc:=al.mk hc;have fj:decide (ai ar lo=o)=ah:=(by simp[hv]);clear hc hv ja;refine bK @FG @bh ?_;exact⟨_,_,rfl,rfl,_,by rw[kc.out]⟩
   ·have hc:ar.contains o=az:=(by rw[DT,cE];intro q;obtain⟨j,j1,j2⟩:=Zs q;have:=ja j j1 j2;subst this;exact hv j2);have kc:=al.mk hc;have fj:decide (ai ar lo=o)=az:=(by simp[hv]);clear hc hv ja;refine bK @FG @bh ?_;exact⟨_,_,rfl,rfl,_,by rw[kc.out]⟩
  ·have hc:ar.contains o=az:=(by rw[DT,cE];intro q;obtain⟨j,j1,j2⟩:=Zs q;have:=ja j j1 j2;omega);have kc:=al.mk hc;have eO:lo=ar.length:=(by omega);subst eO;have hdI:decide ((ar.length:Int)<(ar.length:Int))=az:=(by simp);clear hc ja;refine bK @FG @bh ?_;exact⟨_,_,rfl,rfl,_,by rw[kc.out]⟩
def arF:Tryz.f176.results.toList=[.tmp 4]:=av
def FF:Tryz.f197.results.toList=[]:=av
def anw(h:aq)(x y z:AV)(bx:(AV.agg [x,y]).bP=aa [x,y])(hz:z.bP=aa [z]):W2.call 176 [.agg [x,y],z] h=aa (.ret (.func (.func 197) [] [.ptr (.box h.boxes.length) 0,.ptr (.box (h.boxes.length+1)) 0]),(h.push [x,y]).push [z]):=by refine cJ rfl Tryz.func176 rfl ?_;exact rN @arF @bg @cH
def anx(l pb wb:Nat)(k0:Tok)(s0:Nat)(xs:List AV)(y z:AV)(ae:List (List Int))(owners ar:List Int)(Inv:Nat->aq->Prop)
 (hy:IL y owners) (hz:IL z ar) (dN:xs.length=ae.length) (tq:owners.length=ae.length) (vZ:ae≠[]->s0=1) (Hn:Jr ar) (ju:ar.length<=1000000) (cP:ae.length<=1000000)
 (h1:∀k H,Inv k H->H.boxes[pb]?=aa [.list k0 s0 (xs.map λa=>[a]),y]/\H.boxes[wb]?=aa [z])
 (hR:∀k a H,k<ae.length->xs[k]?=aa a->ar.contains (ai owners k)=ah->Inv k H->∃H',W2.round l [im (k:Nat),a] H=aa (.ret (.v (.bool ah)),H')/\Inv (k+1) H')
 (hS:∀k H,k<ae.length->ar.contains (ai owners k)=az->Inv k H->Inv (k+1) H)
 (H0:aq) (h0:Inv 0 H0):∃H',W2.call 197 [.yield l,.ptr (.box pb) 0,.ptr (.box wb) 0] H0=aa (.ret (.tuple []),H')/\Inv ae.length H':=by
 have kk:=al.mk (aw h1 (aw hR (aw hS (aw h0 (aw vZ (aw Hn hz))))));obtain⟨b1,b2⟩:=h1 0 H0 h0;have l1:=rZ b1;obtain⟨ky,sy,rfl,lT⟩:=hy;have ksy:=al.mk lT;clear h1 hR hS h0 vZ Hn hz b1 b2 lT;have u23:=dQ;have u22:=ji;have z3:=fP;have z23:=il;have cS:(xs.map λa=>[a]).length=ae.length:=by rw[bu];exact dN
 have y8:(ints owners).length=ae.length:=by rw[dD];exact tq
 refine hY rfl Tryz.func197 rfl ?_;refine cQ @FF @dE @eQ ?_;refine cz (λm e H=>∃k:Nat,k<=ae.length/\m=ae.length - k/\al (Inv k H)/\e.get 0=.yield l/\e.get 1=.ptr (.box pb) 0/\e.get 2=.ptr (.box wb) 0/\e.get 9=.list k0 s0 (xs.map λa=>[a])/\e.get 10=.v (.int .i64 (ae.length:Nat))/\e.get 11=.v (.int .i64 (k:Nat))/\e.defers=[]) ?_ ae.length _ _ ?_;rotate_left 1
 ·refine⟨0,cA _,rfl,⟨kk.out.2.2.2.1⟩,?_,?_,?_,?_,?_,?_,?_⟩<;>exact gR
 clear l1;rintro m e H ⟨k,hk,rfl,kI,g0,g1,g2,g9,g10,g11,hd⟩;by_cases aA:k<ae.length;rotate_left 1
 ·have:k=ae.length:=by omega
  subst this;refine br @FF ?_;exact⟨_,rfl,kI.out⟩
 obtain⟨b1,b2⟩:=kk.out.1 k H kI.out;have bD:s0=1:=kk.out.2.2.2.2.1 (by intro q;rw[q,kQ] at aA;omega);subst bD;have ny:sy=1:=ksy.out (by intro q;rw[q,kQ] at tq;omega);subst ny;obtain⟨a,ha⟩:∃a,xs[k]?=aa a:=⟨_,aR ag⟩;have ld:=lV (H:=H) (s:=1) ha;have lo:=eE (H:=H) (l:=owners) (i:=k) (s:=1) ag;have l1:=Ff b1;have l2:=vd b2;obtain⟨_,H2,cs,e2,i,rfl⟩:=asS H z ar (ai owners k) kk.out.2.2.2.2.2.2 kk.out.2.2.2.2.2.1 ju;rw[e2] at cs;clear e2 b1 b2;have fx:(k:Int)<(ae.length:Int):=by omega
 cases hc:ar.contains (ai owners k) with
 |true=>
  obtain⟨H',r1,r2⟩:=kk.out.2.1 k a H aA ha hc kI.out;rw[hc] at cs;have kI2:=al.mk r2;clear r2 ha hc kI;unfold im at *
  refine bA @FF @dE @eQ @bh ?_;refine ev Ak av ?_;refine bA @FF @dE @eQ (aw @bh @Aj) ?_;exact⟨ae.length - (k+1),by omega,k+1,by omega,rfl,kI2,by simp⟩
 |false=>
  have kI2:=al.mk (kk.out.2.2.1 k H aA hc kI.out);rw[hc] at cs;clear ha hc kI;unfold im at *
  refine bA @FF @dE @eQ @bh ?_;refine ev Ak av ?_;refine bA @FF @dE @eQ (aw @bh @Aj) ?_;exact⟨ae.length - (k+1),by omega,k+1,by omega,rfl,kI2,by simp⟩
structure BM(h H:aq)(t1 t2:Tok):Prop where
 c1:dm h.tn H t1
 c2:dm h.tn H t2
 ne:∀a,t1=.free a->t2≠ .free a
 ok:cG H=ah
 ext:Ext h H
def GW{n0}{H}{t k}(hk:dm n0 H k)(bG:∀a,t=.free a->k≠ .free a):dm n0 (H.app t) k:=by
 rcases hk with q|q|⟨m,rfl,q1,q2⟩
 ·exact .inl q
 ·exact .inr (.inl q)
 ·refine .inr (.inr ⟨m,rfl,q1,?_⟩);have aA:=uM q2;unfold alive at *
  simp only[bC,zR,DT,decide_eq_false_iff_not,decide_eq_true_eq] at *
  refine⟨by rw[D9];omega,?_⟩;cases t with
  |free a=>
   intro hm;rcases iu.1 hm with e|e
   ·exact bG a rfl (by rw[e])
   ·exact q2.2 e
  |_=>exact q2.2
def BM.app{h H}{t1 t2}(w:BM h H t1 t2):dm h.tn (H.app t1) t2/\BM h ((H.app t1).app t2) (.free H.tn) (.free (H.app t1).tn):=by
 have hn:=w.ext.tn;have g1:=Grown.one (n0:=h.tn) w.c1 w.ok hn;have c2:=GW w.c2 w.ne;have g2:=Grown.one (n0:=h.tn) c2 g1.ok (fw hn g1.tn);refine⟨c2,?_,g2.can,?_,g2.ok,g2.ext (g1.ext w.ext (aJ _)) (aJ _)⟩
 ·refine GW g1.can λa ha he=>?_;injection he with he;subst he;rcases c2 with q|q|⟨m,q,-,q2⟩
  ·rw[q] at ha;cases ha
  ·rw[q] at ha;cases ha
  ·rw[q] at ha;injection ha with ha;subst ha;rcases w.c2 with z|z|⟨m2,z,-,z2⟩
   ·rw[z] at q;cases q
   ·rw[z] at q;cases q
   ·rw[z] at q;injection q with q;have:=uM z2;omega
 ·intro a ha he;injection ha with ha;injection he with he;rw[D9] at he;omega
def BM.put{h H}{t1 t2}(w:BM h H t1 t2){b}(hb:h.boxes.length<=b)(cs):BM h (H.put b cs) t1 t2:=⟨w.c1,w.c2,w.ne,w.ok,w.ext.fK hb cs⟩
def x7:Tryz.f143.results.toList=[.cell 4 22,.cell 5 23,.tmp 6,.tmp 7]:=av
def avR:(gZ ao 22).bind AV.bP=aa [.list .nil 0 []]:=av
def avS:(gZ ao 23).bind AV.bP=aa [.list .nil 0 []]:=av
def auF:dt ao 22=aa 1:=av
def Uy{H}{k}{n0 sz}{es}{x}(hl:es.length<1000000)(hs:sz=1∨(es=[]/\k=.nil))(hk:dm n0 H k):
 gN ao H #[22,22] (.list k sz (es.map λa=>[a])) (.list .tight 1 [[x]])=aa (.list (.free H.tn) 1 ((es++[x]).map λa=>[a]),H.app k):=by
 obtain⟨i,q1,q2,q3,q4⟩:=La;have hb:=qG (ag:es.length+1<=1000000) q3;have:=GO (t0:=22) (t1:=22) (n0:=n0) (i:=i) (sz:=sz) (es:=es.map λa=>[a]) (new:=[[x]]) (x:=.list .tight 1 [[x]]) ji (.inl ⟨_,ji⟩) q1 ag (by rw[q2];exact q4) (by rw[q2];rfl) bE
  (by simp only[bu,iP,kQ,qb];omega) (by simp only[bu,iP,kQ];omega) (hs.imp (λq=>q.trans q2.symm) λq=>⟨by rw[q.1];rfl,q.2⟩) hk
 rw[q2] at this;rw[mw];exact this
def iU(xs:List AV)(owners ar:List Int)(k:Nat):List AV:=((bM k).filter λi=>ar.contains (ai owners i)).map λi=>xs.getD i default
def fk(owners ar:List Int)(k:Nat):List Nat:=(bM k).filter λi=>ar.contains (ai owners i)
def Z8{owners ar}{k}(h:ar.contains (ai owners k)=ah):fk owners ar (k+1)=fk owners ar k++[k]:=by unfold fk;rw[om,DV,Gi,aG h];rfl
def Z7{owners ar}{k}(h:ar.contains (ai owners k)=az):fk owners ar (k+1)=fk owners ar k:=by unfold fk;rw[om,DV,Gi,aI (by rw[h];simp)];simp
def Z6{xs}{owners ar}{k}{a}(h:ar.contains (ai owners k)=ah)(ha:xs[k]?=aa a):iU xs owners ar (k+1)=iU xs owners ar k++[a]:=by
 have e:xs.getD k default=a:=by rw[ez,ha];rfl
 unfold iU;rw[om,DV,Gi,aG h,List.filter_nil,mw,eC,List.map_nil,e]
def Z5{xs}{owners ar}{k}(h:ar.contains (ai owners k)=az):iU xs owners ar (k+1)=iU xs owners ar k:=by unfold iU;rw[om,DV,Gi,aI (by rw[h];simp)];simp
def Z4{xs}{owners ar}{k}:(iU xs owners ar k).length<=k:=by unfold iU;rw[bu];exact fw (Gm _ _) bE
def Z0:∀(ar:List Int) (cZ:Int),fJ cZ ar=ah->(∀i,i<ar.length->cZ<ai ar i)/\Jr ar:=by
 intro ar
 induction ar with
 |nil=>exactλ_ _=>⟨λi hi=>absurd hi (tN _),λi j _ hj=>absurd hj (tN _)⟩|cons n l ih=>
  intro cZ h;unfold fJ at h;simp only[bC,decide_eq_true_eq] at h;obtain⟨i1,i2⟩:=ih n h.2;refine⟨λi hi=>?_,λi j mE hj=>?_⟩
  ·cases i with|zero=>exact h.1.1|succ i=>exact acJ h.1.1 (i1 i (by simpa using hi))
  ·cases j with
   |zero=>omega|succ j=>
    cases i with|zero=>exact i1 j (by simpa using hj)|succ i=>exact i2 i j ag (by simpa using hj)
def Lg{H}{b}{x}(hb:H.boxes[b]?=aa [x]):aH ao Gt H 22 (.ptr (.box b) 0)=aa x:=by rw[mJ NU hb];rfl
def SM{H}{b}{x}{k}{s}{es}(hb:H.boxes[b]?=aa [x]):b7 ao H 22 (.ptr (.box b) 0) (.list k s es)=aa (H.put b [.list k s es]):=fA (off:=0) (cs:=[x]) (xs:=[.list k s es]) rfl auF hb rfl (aJ 1)
def MA{H}{b}{x}{k}{s}{es}(hb:H.boxes[b]?=aa [x]):b7 ao H 23 (.ptr (.box b) 0) (.list k s es)=aa (H.put b [.list k s es]):=fA (off:=0) (cs:=[x]) (xs:=[.list k s es]) rfl il hb rfl (aJ 1)
def FU:dt ao 25=aa 2:=av
def vh{H}{b}{x y}(hb:H.boxes[b]?=aa [x,y]):aH ao Gt H 25 (.ptr (.box b) 0)=aa (.agg [x,y]):=by rw[iL yG FU hb (aJ 2)];rfl
def aeX{ar}(h:Jr ar)(h0:∀i,i<ar.length-> -1<ai ar i):∀i:Nat,i<ar.length->(i:Int)<=ai ar i:=by
 intro i
 induction i with
 |zero=>intro hi;have:=h0 0 hi;omega|succ i ih=>intro hi;have h1:=ih ag;have h2:=h i (i+1) ag hi;omega
def anY:∀(ar:List Int) (cZ:Int),fJ cZ ar=ah->∀i,i<ar.length->ai ar i<=63:=by
 intro ar
 induction ar with
 |nil=>exactλ_ _ i hi=>absurd hi (tN _)|cons n l ih=>
  intro cZ h i hi;unfold fJ at h;simp only[bC,decide_eq_true_eq] at h;cases i with|zero=>exact h.1.2|succ i=>exact ih n h.2 i (by simpa using hi)
def aeW{ar}(h:fJ (-1) ar=ah):ar.length<=64:=by
 obtain⟨h1,h2⟩:=Z0 ar (-1) h;rcases dW 64 ar.length with q|q
 ·have h3:=aeX h2 h1 64 q;have h4:=anY ar (-1) h 64 q;omega
 ·exact q
def I9(k)(s)(l):fc (.list k s (ints l)) (.list k s (ints l))=ah:=by
 have h:rm (ints l) (ints l)=ah:=by
  induction l with
  |nil=>simp[ints,rm]|cons n l ih=>have:ints (n::l)=[.v (.int .i64 n)]::ints l:=rfl;rw[this];simp[rm,pg,fc,lX,ih]
 rw[fc,h,Bool.and_true];cases k<;>simp[yd]
def U2{H:aq}{l}{r}{t}:(H.busy l r).app t=(H.app t).busy l r:=by cases t<;>rfl
def aiR{H:aq}{l}{r}{t1 t2}{b1 b2}{c1 c2}:({boxes:=(((((H.busy l r).app t1).app t2).put b1 c1).put b2 c2).boxes,loops:=H.loops,tn:=(((((H.busy l r).app t1).app t2).put b1 c1).put b2 c2).tn,dead:=(((((H.busy l r).app t1).app t2).put b1 c1).put b2 c2).dead}:aq)=(((H.app t1).app t2).put b1 c1).put b2 c2:=by cases t1<;>cases t2<;>rfl
def JO(h:aq)(L:List iI)(b1 b2 b3 b4 b5:Nat)(ta xy zz:List AV)(xs:List AV)(owners ar:List Int)(k:Nat)(H:aq):Prop:=
 ∃t1 s1 t2 s2,H.loops=L/\H.boxes[b1]?=aa [.list t1 s1 ((iU xs owners ar k).map λa=>[a])]/\H.boxes[b2]?=aa [.list t2 s2 (ints (cD (fk owners ar k)))]/\(s1=1∨(iU xs owners ar k=[]/\t1=.nil))/\(s2=1∨(cD (fk owners ar k)=[]/\t2=.nil))/\BM h H t1 t2/\H.boxes[b3]?=aa ta/\H.boxes[b4]?=aa xy/\H.boxes[b5]?=aa zz
def aoU(l)(k:Nat):cD (l++[k])=cD l++[(k:Int)]:=by unfold cD;simp
def an0{owners ar}{k}:(cD (fk owners ar k)).length<=k:=by unfold cD fk;rw[bu];exact fw (Gm _ _) bE
def TT(xs:List AV)(ae:List (List Int))(owners ar:List Int)(h:aq)(r:eY)(h':aq):Prop:=
 Ext h h'/\if cW ae owners≠0 then r=.ret (.tuple [.list .nil 0 [],.list .nil 0 [],.list .nil 0 [],.v (.int .i64 (cW ae owners))])
  else if fJ (-1) ar=az then r=.ret (.tuple [.list .nil 0 [],.list .nil 0 [],.list .nil 0 [],.v (.int .i64 1)])
  else ∃k1 s1 k2 s2 tb,r=.ret (.tuple [.list k1 s1 ((iU xs owners ar ae.length).map λa=>[a]),.list k2 s2 (ints (cD (fk owners ar ae.length))),.arr tb 0 (bJ ae) (bJ ae),.v (.int .i64 0)])/\(s1=1∨(iU xs owners ar ae.length=[]/\k1=.nil))/\(s2=1∨(cD (fk owners ar ae.length)=[]/\k2=.nil))/\h'.boxes[tb]?=aa ((fU (bJ ae)).map im)
def aoV(h:aq)(k0:Tok)(s0:Nat)(xs:List AV)(y z:AV)(ae:List (List Int))(owners ar:List Int)(hx:RL (.list k0 s0 (xs.map λa=>[a])) ae)(dN:xs.length=ae.length)(hy:IL y owners)(hz:IL z ar)(ju:ar.length<=1099511627776)(ho:cG h=ah):
 ∃r h',W2.call 143 [.agg [.list k0 s0 (xs.map λa=>[a]),y],z] h=aa (r,h')/\TT xs ae owners ar h r h':=by
 obtain⟨H1,c97,e1⟩:=Vt (((h.push [.list k0 s0 (xs.map λa=>[a]),y]).push [.list .nil 0 []]).push [.list .nil 0 []]) _ y ae owners hx hy;have kyz:=al.mk (aw hx (aw hy (aw hz ho)));have bx:(AV.agg [.list k0 s0 (xs.map λa=>[a]),y]).bP=aa [.list k0 s0 (xs.map λa=>[a]),y]:=by obtain⟨ky,sy,rfl,-⟩:=hy;rfl
 have X1:Ext h H1:=by rw[e1];exact(((Ext.push _ _).trans (.push _ _)).trans (.push _ _)).trans (.push _ _)
 have p0:H1.boxes[h.boxes.length]?=aa [.list k0 s0 (xs.map λa=>[a]),y]:=by rw[e1];exact aY (aY (aY (aZ _ _)))
 have p1:H1.boxes[h.boxes.length+1]?=aa [.list .nil 0 []]:=by rw[e1];exact aY (aY (nt (by rw[cH])))
 have p2:H1.boxes[h.boxes.length+1+1]?=aa [.list .nil 0 []]:=by rw[e1];exact aY (nt (by rw[cH,cH]))
 have fY:H1.boxes.length=h.boxes.length+4:=by rw[e1];simp only[cH]
 have wj:cG H1=ah:=X1.ok ho;have l0:aH ao Gt (((h.push [.list k0 s0 (xs.map λa=>[a]),y]).push [.list .nil 0 []]).push [.list .nil 0 []]) 25 (.ptr (.box h.boxes.length) 0)=aa (.agg [.list k0 s0 (xs.map λa=>[a]),y]):=vh (aY (aY (aZ _ _)));have tn1:H1.tn=h.tn:=by rw[e1];rfl
 have kX:=al.mk (aw X1 (aw wj (aw fY tn1)));have z22:=avR;have z23:=avS;have kp:=al.mk (aw p0 (aw p1 p2));have s4:=λ(k:Tok) s es=>SM (k:=k) (s:=s) (es:=es) p1;have KO:=(aS.1 p1).1;have rQ:=(aS.1 p2).1;clear e1 X1 p0 fY wj tn1 hx hy ho;unfold TT;refine db rfl Tryz.func143 rfl ?_;generalize CM:cW ae owners=pe at *
 by_cases CT:pe=0;rotate_left 1
 ·have s5:b7 ao (H1.put (h.boxes.length+1) [.list .nil 0 []]) 23 (.ptr (.box (h.boxes.length+1+1)) 0) (.list .nil 0 [])=aa ((H1.put (h.boxes.length+1) [.list .nil 0 []]).put (h.boxes.length+1+1) [.list .nil 0 []]):=MA (by rw[cX ag];exact p2);have m1:aH ao Gt ((H1.put (h.boxes.length+1) [.list .nil 0 []]).put (h.boxes.length+1+1) [.list .nil 0 []]) 22 (.ptr (.box (h.boxes.length+1)) 0)=aa (.list .nil 0 []):=Lg (by rw[cX ag];exact eu KO);have m2:aH ao Gt ((H1.put (h.boxes.length+1) [.list .nil 0 []]).put (h.boxes.length+1+1) [.list .nil 0 []]) 23 (.ptr (.box (h.boxes.length+1+1)) 0)=aa (.list .nil 0 []):=vd (eu (by rw[mj];exact rQ));have Xu:decide (pe=0)=az:=by simp[CT]
  clear p1 p2 hz KO rQ;refine cQ @x7 @bg @cH ?_;exact⟨_,_,rfl,(kX.out.1.fK ag _).fK ag _,by rw[aG CT]⟩
 ·subst CT;obtain⟨kz,sz,rfl,dL⟩:=kyz.out.2.2.1;have ksz:=al.mk dL;clear dL hz;have u23:=dQ;have z3':=fP;have awL:=dD ar;have kpe:=al.mk CM;clear CM;refine cQ @x7 @bg @cH ?_;refine bH.gen λe0 aF bB cU cN=>?_;have f1:e0.get 1=.list kz sz (ints ar):=by rw[aF];exact gS
  have f2:e0.get 2=.ptr (.box h.boxes.length) 0:=by rw[aF];exact gS
  have f4:e0.get 4=.ptr (.box (h.boxes.length+1)) 0:=by rw[aF];simp only[gW,reduceIte,aO,aM,cH]
  have f5:e0.get 5=.ptr (.box (h.boxes.length+1+1)) 0:=by rw[aF];simp only[gW,reduceIte,aO,aM,cH]
  have f8:e0.get 8=.v (.int .i64 (-1)):=by rw[aF];exact gS
  have f19:e0.get 19=.list kz sz (ints ar):=by rw[aF];exact gS
  have f20:e0.get 20=.v (.int .i64 (ar.length:Nat)):=by rw[aF];exact gS
  have f21:e0.get 21=.v (.int .i64 (0:Nat)):=by rw[aF];exact gR
  have fd:e0.defers=[]:=by rw[bB];exact gS
  clear aF bB cU cN l0 c97;refine cz (λm e H=>∃(i:Nat) (cZ:Int),i<=ar.length/\m=ar.length - i/\ -1<=cZ/\al (fJ cZ (ar.drop i)=fJ (-1) ar)/\e.get 1=.list kz sz (ints ar)/\e.get 2=.ptr (.box h.boxes.length) 0/\e.get 4=.ptr (.box (h.boxes.length+1)) 0/\e.get 5=.ptr (.box (h.boxes.length+1+1)) 0/\e.get 8=.v (.int .i64 cZ)/\e.get 19=.list kz sz (ints ar)/\e.get 20=.v (.int .i64 (ar.length:Nat))/\e.get 21=.v (.int .i64 (i:Nat))/\e.defers=[]/\H=H1) ?_ ar.length _ _ ?_;rotate_left 1
  ·exact⟨0,-1,cA _,rfl,Na _,⟨rfl⟩,f1,f2,f4,f5,f8,f19,f20,f21,fd,rfl⟩
  clear f1 f2 f4 f5 f8 f19 f20 f21 fd;rintro m e H1 ⟨i,cZ,hi,rfl,mf,kP,g1,g2,g4,g5,g8,g19,g20,g21,hd,rfl⟩;by_cases aA:i<ar.length
  ·have bD:sz=1:=ksz.out (by intro q;rw[q,kQ] at aA;omega);subst bD;have ld:=eE (H:=H1) (l:=ar) (s:=1) aA;have cp:=Z1 (ai ar i) H1;have fx:(i:Int)<(ar.length:Int):=(by omega);have pQ:ar.drop i=ai ar i::ar.drop (i+1):=(by rw[fm aA];exact Bu aA);have rT:=kP.out;rw[pQ,fJ] at rT;have s5:b7 ao (H1.put (h.boxes.length+1) [.list .nil 0 []]) 23 (.ptr (.box (h.boxes.length+1+1)) 0) (.list .nil 0 [])=aa ((H1.put (h.boxes.length+1) [.list .nil 0 []]).put (h.boxes.length+1+1) [.list .nil 0 []]):=MA (by rw[cX ag];exact p2);have m1:aH ao Gt ((H1.put (h.boxes.length+1) [.list .nil 0 []]).put (h.boxes.length+1+1) [.list .nil 0 []]) 22 (.ptr (.box (h.boxes.length+1)) 0)=aa (.list .nil 0 []):=Lg (by rw[cX ag];exact eu KO);have m2:aH ao Gt ((H1.put (h.boxes.length+1) [.list .nil 0 []]).put (h.boxes.length+1+1) [.list .nil 0 []]) 23 (.ptr (.box (h.boxes.length+1+1)) 0)=aa (.list .nil 0 []):=vd (eu (by rw[mj];exact rQ));unfold im wx at *
   generalize ai ar i=n at *
   by_cases h1:0<=n/\n<=63
   ·have fj:(decide (0<=n)&&decide (n<=63))=ah:=(by simp[h1.1,h1.2]);rw[fj] at cp;by_cases h2:n<=cZ
    ·have ie:decide (n<=cZ)=ah:=(by simp[h2]);have hf:fJ (-1) ar=az:=(by rw[<-rT];simp;omega);have kf:=al.mk hf;clear rT hf pQ p1 p2 h2 h1 kP;refine bK @x7 @bh ?_;exact⟨_,_,rfl,(kX.out.1.fK ag _).fK ag _,by rw[aI (by simp[kpe.out]),aG kf.out]⟩
    ·have ie:decide (n<=cZ)=az:=(by simp;omega);have kP2:al (fJ n (ar.drop (i+1))=fJ (-1) ar):=⟨by rw[<-rT,bQ (ag:cZ<n),bQ h1.2];rfl⟩;have h3: -1<=n:=(by omega);clear rT pQ p1 p2 h2 h1 kP s4 s5 m1 m2;refine bK @x7 @bh ?_;exact⟨ar.length - (i+1),by omega,i+1,n,by omega,rfl,h3,kP2,by simp⟩
   ·have fj:(decide (0<=n)&&decide (n<=63))=az:=(by simp only[acw,decide_eq_false_iff_not];omega);rw[fj] at cp;have hf:fJ (-1) ar=az:=(by rw[<-rT];simp only[acw,decide_eq_false_iff_not];omega);have kf:=al.mk hf;clear rT hf pQ p1 p2 h1 kP;refine bK @x7 @bh ?_;exact⟨_,_,rfl,(kX.out.1.fK ag _).fK ag _,by rw[aI (by simp[kpe.out]),aG kf.out]⟩
  ·have fF:i=ar.length:=(by omega);subst fF;have hf:fJ (-1) ar=ah:=(by rw[<-kP.out,qF (aJ _)];rfl);have kf:=al.mk hf;clear hf kP;obtain⟨o1,o2,o3,o4⟩:=rk kpe.out;obtain⟨n1,n2⟩:=sU kpe.out;have Hn:=(Z0 ar (-1) kf.out).2;have awM:=aeW kf.out;have ko:=al.mk (aw o3 Hn);have yV:(ae≠[]->s0=1)/\∀(i:Nat) (a:AV) (r:List Int),xs[i]?=aa a->ae[i]?=aa r->IL a r:=(by obtain⟨k',s',xs',he,CO,-,hh⟩:=kyz.out.1;injection he with _ hse he;have:=(Np (λx y h=>by injection h)).1 he;subst this;subst hse;exact⟨CO,hh⟩);have kRL:=al.mk yV;have ko1:=al.mk o1;have l22:aH ao Gt H1 22 (.ptr (.box h.boxes.length) 0)=aa (.list k0 s0 (xs.map λa=>[a])):=rZ kp.out.1;have u22:=ji;have cS:(xs.map λa=>[a]).length=ae.length:=(by rw[bu];exact dN);have mk:=Bc H1 (bJ ae) ag .i64 .i64;have oz:a9 (bJ ae) (im 0)=(a9 (bJ ae) (0:Int)).map im:=(by rw[yy]);rw[oz] at mk;have sk:=zJ (H:=H1.push ((a9 (bJ ae) (0:Int)).map im)) (b:=H1.boxes.length) (r:=a9 (bJ ae) (0:Int)) (k:=0) (x:=1) (aZ _ _) (by rw[mM];exact n1);have v8:(a9 (bJ ae) (0:Int)).set 0 1=fU (bJ ae):=(by obtain⟨c,hc⟩:∃c,bJ ae=c+1:=⟨bJ ae - 1,by omega⟩;rw[hc];unfold fU;rw[Bz];rfl);rw[pc,v8] at sk;have ix:dH ao 23 (.arr H1.boxes.length 0 (bJ ae) (bJ ae)) (.v (.int .i64 0))=aa (.ptr (.box H1.boxes.length) 0):=qX (n:=0) (k:=.i64) n1;have l25:aH ao Gt (H1.push ((fU (bJ ae)).map im)) 25 (.ptr (.box h.boxes.length) 0)=aa (.agg [.list k0 s0 (xs.map λa=>[a]),y]):=vh (aY kp.out.1);have ow:=anw (H1.push ((fU (bJ ae)).map im)) (.list k0 s0 (xs.map λa=>[a])) y (.list kz sz (ints ar)) bx rfl;have kmk:=al.mk (aw p1 p2);have hcz:((0:Nat):Int)=0:=rfl;clear v8 oz Hn o3 o4 o1 yV p1 p2 s4 KO rQ;unfold im at *
   have Xm:(ae.length=0->bJ ae=1)/\∀r0,ae[0]?=aa r0->r0.length=bJ ae:=(by refine⟨λq=>by unfold bJ;rw[aG q],λr0 q=>?_⟩;exact(ko.out.1 r0 (dj q)).1);have kcols:=al.mk Xm;clear Xm;generalize bJ ae=cw at *
   have two:ae.length=0∨0<ae.length:=(by omega);rcases two with cN|cN
   case' inl=>
    have KE:=kcols.out.1 cN;have gX:¬((0:Int)<(ae.length:Int)):=(by omega);have mk':zx ao H1 23 (.v (.int .i64 1)) (.v (.int .i64 1))=aa (.arr H1.boxes.length 0 cw cw,H1.push ((a9 cw (0:Int)).map λn=>.v (.int .i64 n))):=(by have:=mk;rw[show((cw:Nat):Int)=1 by omega] at this;exact this);clear cN mk KE
    repeat' (first|simp(maxSteps:=999999)(disch:=first|exact dZ|fail)only[gW,reduceIte,aO,aM,x7,dE,eQ,bh, *]|refine dX ?_ ?_<;>(intro _;try omega))
   case' inr=>
    obtain⟨a0,gu⟩:∃a,xs[0]?=aa a:=⟨_,aR ag⟩;obtain⟨r0,gv⟩:∃r,ae[0]?=aa r:=⟨_,aR ag⟩;have bD:s0=1:=kRL.out.1 (by intro q;rw[q,kQ] at cN;omega);have ixr:dH ao 22 (.list k0 s0 (xs.map λa=>[a])) (.v (.int .i64 0))=aa (.elem 1 (xs.map λa=>[a]) 0 0):=(by rw[bD];exact bh u22 il (Na _) (by rw[cS];omega));clear bD;have ld0:=lV (H:=H1) (s:=1) gu;obtain⟨ka0,sa0,rfl,-⟩:=kRL.out.2 0 a0 r0 gu gv;have cP:(ints r0).length=cw:=(by rw[dD];exact kcols.out.2 r0 gv);have gX:(0:Int)<(ae.length:Int):=(by omega);have z0:(0:Int).toNat=0:=rfl;have z23':=il;clear gu gv
    repeat' (first|simp(maxSteps:=999999)(disch:=first|exact dZ|fail)only[gW,reduceIte,aO,aM,x7,dE,eQ,bh, *]|refine dX ?_ ?_<;>(intro _;try omega))
   all_goals
    refine bH.gen λe4 gF qm uY tx=>?_;have f4:e4.get 4=.ptr (.box (h.boxes.length+1)) 0:=(by rw[gF];simp only[gW,reduceIte,aO,aM];exact g4);have f5:e4.get 5=.ptr (.box (h.boxes.length+1+1)) 0:=(by rw[gF];simp only[gW,reduceIte,aO,aM];exact g5);have f6:e4.get 6=.arr H1.boxes.length 0 cw cw:=(by rw[gF];exact gS);have f50:e4.get 50=.func (.func 197) [] [.ptr (.box (H1.push ((fU cw).map λn=>.v (.int .i64 n))).boxes.length) 0,.ptr (.box ((H1.push ((fU cw).map λn=>.v (.int .i64 n))).boxes.length+1)) 0]:=(by rw[gF];exact gS);have fd:e4.defers=[]:=(by rw[qm];simp only[gW,reduceIte,aO,aM];exact hd);clear gF qm uY tx g1 g2 g4 g5 g8 g19 g20 g21 hd;refine Dk (by rw[Aw];exact f50) λrec w1 w2 w3 w4 w5 w6=>?_;obtain⟨x1,wj,fY,tn1⟩:=kX.out;obtain⟨p0,p1,p2⟩:=kp.out;have X3:Ext h (((H1.push ((fU cw).map im)).push [.list k0 s0 (xs.map λa=>[a]),y]).push [.list kz sz (ints ar)]):=((x1.trans (.push _ _)).trans (.push _ _)).trans (.push _ _);have b0:(((H1.push ((fU cw).map im)).push [.list k0 s0 (xs.map λa=>[a]),y]).push [.list kz sz (ints ar)]).boxes[H1.boxes.length]?=aa ((fU cw).map im):=aY (aY (aZ _ _));have b1:(((H1.push ((fU cw).map im)).push [.list k0 s0 (xs.map λa=>[a]),y]).push [.list kz sz (ints ar)]).boxes[h.boxes.length+1]?=aa [.list .nil 0 []]:=aY (aY (aY p1));have b2:(((H1.push ((fU cw).map im)).push [.list k0 s0 (xs.map λa=>[a]),y]).push [.list kz sz (ints ar)]).boxes[h.boxes.length+1+1]?=aa [.list .nil 0 []]:=aY (aY (aY p2));have b3:(((H1.push ((fU cw).map im)).push [.list k0 s0 (xs.map λa=>[a]),y]).push [.list kz sz (ints ar)]).boxes[H1.boxes.length+1]?=aa [.list k0 s0 (xs.map λa=>[a]),y]:=aY (nt (by rw[cH]));have b4:(((H1.push ((fU cw).map im)).push [.list k0 s0 (xs.map λa=>[a]),y]).push [.list kz sz (ints ar)]).boxes[H1.boxes.length+1+1]?=aa [.list kz sz (ints ar)]:=nt (by rw[cH,cH]);have ok3:cG (((H1.push ((fU cw).map im)).push [.list k0 s0 (xs.map λa=>[a]),y]).push [.list kz sz (ints ar)])=ah:=wj;have dG:(((H1.push ((fU cw).map im)).push [.list k0 s0 (xs.map λa=>[a]),y]).push [.list kz sz (ints ar)]).loops.length=H1.loops.length:=rfl;have Ev:h.loops.length<=H1.loops.length:=x1.Fi;rw[cH] at f50;unfold im at *
    rw[cH];generalize ((H1.push ((fU cw).map λn=>AV.v (.int .i64 n))).push [.list k0 s0 (xs.map λa=>[a]),y]).push [.list kz sz (ints ar)]=H3 at *
    have awf:h.boxes.length+1<H3.boxes.length:=(aS.1 b1).1;have awg:h.boxes.length+1+1<H3.boxes.length:=(aS.1 b2).1;have gY:(H3.loop rec).loops[H1.loops.length]?=aa rec:=(by rw[<-dG];exact @C8 H3 rec);have feed:=anx H1.loops.length (H1.boxes.length+1) (H1.boxes.length+1+1) k0 s0 xs y (.list kz sz (ints ar)) ae owners ar
     (JO h (H3.loop rec).loops (h.boxes.length+1) (h.boxes.length+1+1) H1.boxes.length (H1.boxes.length+1) (H1.boxes.length+1+1) ((fU cw).map λn=>.v (.int .i64 n)) [.list k0 s0 (xs.map λa=>[a]),y] [.list kz sz (ints ar)] xs owners ar)
     kyz.out.2.1 kyz.out.2.2.1 dN ko1.out.symm kRL.out.1 ko.out.2 ag ag
     (λk H q=>by obtain⟨_,_,_,_,_,_,_,_,_,_,_,q1,q2⟩:=q;exact⟨q1,q2⟩)
     ?_
     (λk H _ hc q=>by
      unfold JO at *
      rw[Z5 hc,Z7 hc];exact q)
     (H3.loop rec) ⟨.nil,0,.nil,0,rfl,b1,b2,.inr ⟨rfl,rfl⟩,.inr ⟨rfl,rfl⟩,⟨.inl rfl,.inl rfl,λa q=>(nomatch q),ok3,X3.trans ((Fr.A6 (bn:=H3.boxes.length) (l0:=H3.loops.length) (n0:=H3.tn) H3 rec).ext (aJ _) (aJ _) (aJ _))⟩,b0,b3,b4⟩
    rotate_left 1
    ·rintro k a H hk Ck hc ⟨t1,s1,t2,s2,i1,i2,i3,i4,i5,i6,i7,i8,i9⟩;have uW:H.loops[H1.loops.length]?=aa rec:=(by rw[i1];exact gY);have w:=i6;have q0:(H.busy H1.loops.length rec).boxes=H.boxes:=rfl;have e22:=λhc=>Z6 (xs:=xs) (owners:=owners) (ar:=ar) (k:=k) (a:=a) hc Ck;have e23:=Z8 (owners:=owners) (ar:=ar) (k:=k) hc;have wA:=w.app;refine II (Post:=JO h (H3.loop rec).loops (h.boxes.length+1) (h.boxes.length+1+1) H1.boxes.length (H1.boxes.length+1) (H1.boxes.length+1+1) ((fU cw).map λn=>.v (.int .i64 n)) [.list k0 s0 (xs.map λa=>[a]),y] [.list kz sz (ints ar)] xs owners ar (k+1)) uW (by rw[w2];rfl) w5 w6 ?_;have r1:∀t,(nH H1.loops.length rec [im (k:Nat),a]).get t=if 52=t then a else if 51=t then im (k:Nat) else e4.get t:=λt=>IG w2 w1
     have d1:(nH H1.loops.length rec [im (k:Nat),a]).defers=[]:=rfl;obtain⟨K,hK⟩:∃K,H.busy H1.loops.length rec=K:=⟨_,rfl⟩;have kc1:dm h.tn K t1:=(by rw[<-hK];exact w.c1);have kc2:dm h.tn (K.app t1) t2:=(by rw[<-hK,U2];exact wA.1);have kb1:K.boxes[h.boxes.length+1]?=aa [.list t1 s1 ((iU xs owners ar k).map λa=>[a])]:=(by rw[<-hK];exact i2);have kb2:(K.app t1).boxes[h.boxes.length+1+1]?=aa [.list t2 s2 (ints (cD (fk owners ar k)))]:=(by rw[ec,<-hK];exact i3);have kb22:K.boxes[h.boxes.length+1+1]?=aa [.list t2 s2 (ints (cD (fk owners ar k)))]:=(by rw[<-hK];exact i3);have pl1:=Z4 (xs:=xs) (owners:=owners) (ar:=ar) (k:=k);have pl2:=an0 (owners:=owners) (ar:=ar) (k:=k);have ap1:=Uy (x:=a) (ag:(iU xs owners ar k).length<1000000) i4 kc1;have ap2:=tQ (x:=(k:Int)) (show(cD (fk owners ar k)).length<1099511627776 by omega) i5 kc2;rw[<-e22 hc] at ap1;rw[<-aoU,<-e23] at ap2;have lA:=Lg kb1;have lB:=vd kb2;have lB0:=vd kb22;have sA:=SM (H:=(K.app t1).app t2) (b:=h.boxes.length+1) (k:=.free K.tn) (s:=1) (es:=(iU xs owners ar (k+1)).map λa=>[a]) (by rw[ec,ec];exact kb1);have sB:=MA (H:=((K.app t1).app t2).put (h.boxes.length+1) [.list (.free K.tn) 1 ((iU xs owners ar (k+1)).map λa=>[a])]) (b:=h.boxes.length+1+1) (k:=.free (K.app t1).tn) (s:=1) (es:=ints (cD (fk owners ar (k+1)))) (by rw[cX ag,ec];exact kb2);have blA:gf ao 22 1 [(0,a)]=aa (.list .tight 1 [[a]]):=(by obtain⟨r',gj⟩:∃r',ae[k]?=aa r':=⟨_,aR hk⟩;exact J2 a (kRL.out.2 k a r' Ck gj).cell);have blB:=pI (k:Int);have svs:=I9 t2 s2 (cD (fk owners ar k));have fy:al (JO h (H3.loop rec).loops (h.boxes.length+1) (h.boxes.length+1+1) H1.boxes.length (H1.boxes.length+1) (H1.boxes.length+1+1) ((fU cw).map λn=>.v (.int .i64 n)) [.list k0 s0 (xs.map λa=>[a]),y] [.list kz sz (ints ar)] xs owners ar (k+1) ((((H.app t1).app t2).put (h.boxes.length+1) [.list (.free H.tn) 1 ((iU xs owners ar (k+1)).map λa=>[a])]).put (h.boxes.length+1+1) [.list (.free (H.app t1).tn) 1 (ints (cD (fk owners ar (k+1))))])):=by
      have oX:=(aS.1 i2).1;have jT:=(aS.1 i3).1;refine⟨_,1,_,1,?_,?_,?_,.inl rfl,.inl rfl,(wA.2.put ag _).put ag _,?_,?_,?_⟩
      ·show((H.app t1).app t2).loops=_;rw[w9,w9];exact i1
      ·rw[cX ag];exact eu (by rw[ec,ec];exact oX)
      ·exact eu (by rw[mj,ec,ec];exact jT)
      ·rw[cX ag,cX ag,ec,ec];exact i7
      ·rw[cX ag,cX ag,ec,ec];exact i8
      ·rw[cX ag,cX ag,ec,ec];exact i9
     clear i1 i2 i3 i4 i5 i6 i7 i8 i9 w wA q0 e22 e23 b0 b1 b2 b3 b4 kb1 kb2 kb22 pl1 pl2 hc Ck kc1 kc2 X3 ok3 dG p0 p1 p2 x1 wj f50;rw[hK];unfold im at *
     rw[w3,w4];refine yS ?_;refine⟨aU,aU,?_⟩;refine bH.gen λe2 jC ie oy ER=>?_;have q4:e2.get 4=.ptr (.box (h.boxes.length+1)) 0:=(by rw[jC];simp only[gW,reduceIte,aO,aM,r1];exact f4);have q5:e2.get 5=.ptr (.box (h.boxes.length+1+1)) 0:=(by rw[jC];simp only[gW,reduceIte,aO,aM,r1];exact f5);have q12:e2.get 12=.v (.int .i64 k):=(by rw[jC];simp only[gW,reduceIte,aO,aM,r1]);have q13:e2.get 13=a:=(by rw[jC];simp only[gW,reduceIte,aO,aM,r1]);clear jC ie oy ER r1 d1 w1 w2 w3 w4 w5 w6;refine yS ?_;refine ng [(3,4)] Ak av (λp hp=>?_) ?_
     ·simp only[my] at hp;subst hp;refine sw (x:=.ptr (.box (h.boxes.length+1+1)) 0) (v:=.list t2 s2 (ints (cD (fk owners ar k)))) av rfl rfl rfl av (svs) ?_ ?_<;>(simp only[hU,fR];exact jl @jr.{0} @and_self)
     refine yS ?_;have kf2:=fy.out;rw[fY] at kf2;refine⟨aU,?_,?_⟩
     ·show((K.app t1).app t2).loops=_;rw[w9,w9]
     ·rw[<-hK,aiR,U2];exact kf2
    ·obtain⟨Hf,c1,t1,s1,t2,s2,i1,i2,i3,i4,i5,i6,i7,i8,i9⟩:=feed;rw[dG];refine⟨_,_,c1,rec,by rw[i1];exact gY,by rw[w5];decide,.inl ⟨w6,?_⟩⟩;have hf1:=(aS.1 i2).1;have AM:=(aS.1 i3).1;have q1:(Hf.eW H1.loops.length {rec with state:=.exhausted}).boxes[h.boxes.length+1]?=aa [.list t1 s1 ((iU xs owners ar ae.length).map λa=>[a])]:=i2;have q2:(Hf.eW H1.loops.length {rec with state:=.exhausted}).boxes[h.boxes.length+1+1]?=aa [.list t2 s2 (ints (cD (fk owners ar ae.length)))]:=i3;have q7:(Hf.eW H1.loops.length {rec with state:=.exhausted}).boxes[H1.boxes.length]?=aa ((fU cw).map λn=>.v (.int .i64 n)):=i7;have XF:Ext h (Hf.eW H1.loops.length {rec with state:=.exhausted}):=((Fr.Db (bn:=h.boxes.length) (l0:=h.loops.length) (n0:=h.tn) i6.ext (aJ _)).trans (.eW Ev _)).ext (aJ _) (aJ _) (aJ _);generalize Hf.eW H1.loops.length {rec with state:=.exhausted}=HF at *
     have hg1:=(aS.1 q1).1;have EA:=(aS.1 q2).1;have lA:=Lg q1;have lB:=vd q2;have sA:=SM (k:=t1) (s:=s1) (es:=(iU xs owners ar ae.length).map λa=>[a]) q1;have lB2:aH ao Gt (HF.put (h.boxes.length+1) [.list t1 s1 ((iU xs owners ar ae.length).map λa=>[a])]) 23 (.ptr (.box (h.boxes.length+1+1)) 0)=aa (.list t2 s2 (ints (cD (fk owners ar ae.length)))):=vd (by rw[cX ag];exact q2);have sB:=MA (H:=HF.put (h.boxes.length+1) [.list t1 s1 ((iU xs owners ar ae.length).map λa=>[a])]) (b:=h.boxes.length+1+1) (k:=t2) (s:=s2) (es:=ints (cD (fk owners ar ae.length))) (by rw[cX ag];exact q2);have eA:=nb q1;have eB:=nb (h:=HF) q2;rw[eA] at sA sB lB2;rw[eB] at sB;have svs:=I9 t2 s2 (cD (fk owners ar ae.length));have fy:=al.mk (aw XF (aw i4 (aw i5 q7)));clear q1 q2 q7 XF i1 i2 i3 i4 i5 i6 i7 i8 i9 c1 b0 b1 b2 b3 b4 X3 ok3 dG p0 p1 p2 x1 wj f50 gY w1 w2 w3 w4 w5 w6 eA eB;refine br @x7 ?_;refine ng [(1,3)] Ak av (λp hp=>?_) ?_
     ·simp only[my] at hp;subst hp;refine wL (x:=.ptr (.box (h.boxes.length+1+1)) 0) (v:=.list t2 s2 (ints (cD (fk owners ar ae.length)))) av rfl rfl rfl av (svs) ?_ ?_<;>(simp only[hU,fR];exact jl @x7 @and_self)
     refine br @x7 ?_;exact⟨_,_,rfl,fy.out.1,by rw[aI (by simp[kpe.out]),aI (by simp[kf.out])];exact⟨_,_,_,_,_,rfl,fy.out.2.1,fy.out.2.2.1,by rw[<-fY];exact fy.out.2.2.2⟩⟩
def IL.hold{x}{l}(h:IL x l):IL (aC x) l/\aK 0 0 0 (aC x)=ah:=by obtain⟨k,s,rfl,hs⟩:=h;rw[aC,KW];exact⟨⟨bO k,s,rfl,hs⟩,by rw[aK,fh,nq];rfl⟩
def CJ:∀xs:List AV,fa (xs.map λa=>[a])=(xs.map aC).map λa=>[a]
 | []=>rfl
 |x::xs=>by rw[eC,fa,CJ xs];rfl
def yQ:∀xs:List AV,(∀a∈xs,aK 0 0 0 a=ah)->gQ 0 0 0 (xs.map λa=>[a])=ah
 | [],_=>rfl
 |x::xs,h=>by rw[eC,gQ,yQ xs λa ha=>h a (fE _ ha),aP,h x fW];rfl
def RL.hold{k}{s}{xs:List AV}{ae}(h:RL (.list k s (xs.map λa=>[a])) ae):
 RL (.list (bO k) s ((xs.map aC).map λa=>[a])) ae/\∀a∈xs.map aC,aK 0 0 0 a=ah:=by
 obtain⟨k',s',xs',he,hs,hl,hr⟩:=h;injection he with e1 e2 e3;have e4:=(Np (λx y h=>by injection h)).1 e3;subst e1;subst e2;subst e4;refine⟨⟨bO k,s,xs.map aC,rfl,hs,by rw[bu];exact hl,λi a r ha gj=>?_⟩,λa ha=>?_⟩
 ·rw[ej] at ha;cases hx:xs[i]? with
  |none=>rw[hx] at ha;cases ha
  |some b=>rw[hx] at ha;injection ha with ha;rw[<-ha];exact(hr i b r hx gj).hold.1
 ·obtain⟨b,hb,rfl⟩:=jP.1 ha;obtain⟨i,hi⟩:=uJ hb;have cS:=(aS.1 hi).1;exact(hr i b _ hi (aR (by rw[<-hl];exact cS))).hold.2
def L3:List FuncId:=[28,29,30,46,65,66,69,78,82,94,97,118,119,120,121,123,132,138,140,143,144,146,194,201]
noncomputable def RC:FuncId->Option (List AV->aq->Option (AV × aq)):=qJ W2 L3
noncomputable abbrev W3:=whole ao Gt RC
def U8:qE RC L3:=yM
section
variable (a b n x:Int)
def aeg:∀h,W3.call 28 [im a,im b] h=aa (.ret (im (cd a b)),h):=bm (L:=L3) rfl rfl rfl (Uo a b _) rfl rfl
def amR:∀h,W3.call 29 [im a,im b] h=aa (.ret (im (cR a b)),h):=bm (L:=L3) rfl rfl rfl (Q5 a b _) rfl rfl
def avm:∀h,W3.call 46 [im x] h=aa (.ret (.v (.bool (bI x))),h):=bm (L:=L3) rfl rfl rfl (avl x _) rfl rfl
def aju:∀h,W3.call 69 [im a,im b] h=aa (.ret (.tuple [im (jk a b),im (nP a b)]),h):=bm (L:=L3) rfl rfl rfl (ajt a b _) rfl rfl
def ajz:∀h,W3.call 30 [im a,im n] h=aa (.ret (.tuple [im (eR a n),im (mS a)]),h):=bm (L:=L3) rfl rfl rfl (ajy a n _) rfl rfl
def aao:∀h,W3.call 65 [im a,im b] h=aa (.ret (im (cd a b)),h):=bm (L:=L3) rfl rfl rfl (ao0 a b _) rfl rfl
def aqM:∀h,W3.call 66 [im a,im b] h=aa (.ret (im (cR a b)),h):=bm (L:=L3) rfl rfl rfl (aqL a b _) rfl rfl
def ap5:∀h,W3.call 194 [im n] h=aa (.ret (.tuple [im (if fmod n=0 then 0 else eK n),im (if fmod n=0 then 90 else 0)]),h):=bm (L:=L3) rfl rfl rfl (ap3 n _) rfl rfl
def asC:∀h,W3.call 94 [im x] h=aa (.ret (.v (.bool (bI x))),h):=bm (L:=L3) rfl rfl rfl (asB x _) rfl rfl
def apC:∀h,W3.call 140 [im a,im b] h=aa (.ret (.tuple [im (jk a b),im (nP a b)]),h):=bm (L:=L3) rfl rfl rfl (apB a b _) rfl rfl
def apI:∀h,W3.call 132 [im a,im n] h=aa (.ret (.tuple [im (eR a n),im (mS a)]),h):=bm (L:=L3) rfl rfl rfl (apH a n _) rfl rfl
def apW:∀h,W3.call 120 [im n] h=aa (.ret (.agg (aL 1 n [] .nil 0 [])),h):=bm (L:=L3) rfl rfl rfl (apV n _) rfl rfl
end
def RL.form{x}{ae}(h:RL x ae):∃(k:Tok) (s:Nat) (xs:List AV),x=.list k s (xs.map λa=>[a])/\xs.length=ae.length:=by obtain⟨k,s,xs,he,-,hl,-⟩:=h;exact⟨k,s,xs,he,hl⟩
def RL.fZ{x}{ae}(h:RL x ae):RL (aC x) ae/\aK 0 0 0 (aC x)=ah:=by obtain⟨k,s,xs,rfl,-⟩:=h.form;obtain⟨h1,h2⟩:=h.hold;rw[aC,CJ];exact⟨h1,by rw[aK,fh,yQ _ h2];rfl⟩
def agX(x y)(ae)(owners)(hx:RL x ae)(hy:IL y owners):∀h,W3.call 97 [.agg [x,y]] h=aa (.ret (.v (.int .i64 (cW ae owners))),h):=by obtain⟨h1,h2⟩:=hx.fZ;obtain⟨h3,h4⟩:=hy.hold;obtain⟨h',hc,-⟩:=Vt ⟨[],[],0,[]⟩ (aC x) (aC y) ae owners h1 h3;exact bm (L:=L3) (b9:=[.agg [aC x,aC y]]) rfl rfl (by simp[aP,aK,h2,h4]) hc rfl rfl
def Wc(l):(l.map im).map (λc=>[c])=ints l:=by unfold ints;rw[List.map_map];rfl
def CW{h}{b n}{l}(hb:h.boxes[b]?=aa (l.map im))(hn:l.length=n):gH h (.arr b 0 n n)=.list .held 1 (ints l):=by subst hn;rw[gH,hb];simp only;rw[aG (by rw[bu];omega),List.drop_zero,gm (by rw[bu];exact aJ _),Wc]
def ahr(x y)(ae)(target)(hx:RL x ae)(hy:IL y target)(hr:ae.length<=64)(hw:∀r∈ae,r.length=target.length)(oC:target.length<=64)(bq:∀r∈ae,∀x∈r,okF x)(oZ:∀x∈target,okF x):
 (qk ae target=au/\∀h,W3.call 144 [x,y] h=aa (.ret (.tuple [.list .nil 0 [],.v (.bool az),im 0]),h))∨∃l,qk ae target=aa l/\l.length=ae.length/\∀h,W3.call 144 [x,y] h=aa (.ret (.tuple [.list .held 1 (ints l),.v (.bool ah),im 0]),h):=by
 obtain⟨h1,h2⟩:=hx.fZ;obtain⟨h3,h4⟩:=hy.hold;obtain⟨r,h',hc,-,⟨e1,rfl⟩|⟨l,b,e1,e2,rfl,e3⟩⟩:=ahs ⟨[],[],0,[]⟩ (aC x) (aC y) ae target h1 h3 hr hw oC bq oZ rfl
 ·exact .inl ⟨e1,bm (L:=L3) (b9:=[aC x,aC y]) rfl rfl (by simp[aP,h2,h4]) hc rfl rfl⟩
 ·refine .inr ⟨l,e1,e2,bm (L:=L3) (b9:=[aC x,aC y]) rfl rfl (by simp[aP,h2,h4]) hc ?_ (by simp[aK,aP,nq,sD,im])⟩;rw[gH,ur,CW e3 e2];rfl
def Ru{xs}{owners ar}{n i:Nat}{a}(h:(iU xs owners ar n)[i]?=aa a):∃j,(fk owners ar n)[i]?=aa j/\j<n/\a=xs.getD j default:=by
 unfold iU at h;rw[ej] at h;cases hj:((bM n).filter λi=>ar.contains (ai owners i))[i]? with
 |none=>rw[hj] at h;cases h
 |some j=>rw[hj] at h;injection h with h;exact⟨j,hj,fQ.1 (vG.1 (dj hj)).1,h.symm⟩
def aoW(k0)(s0)(xs:List AV)(y z)(ae)(owners ar)(hx:RL (.list k0 s0 (xs.map λa=>[a])) ae)(hy:IL y owners)(hz:IL z ar)(ju:ar.length<=1099511627776):
 (cW ae owners≠0/\∀h,W3.call 143 [.agg [.list k0 s0 (xs.map λa=>[a]),y],z] h=aa (.ret (.tuple [.list .nil 0 [],.list .nil 0 [],.list .nil 0 [],.v (.int .i64 (cW ae owners))]),h))∨
 (cW ae owners=0/\fJ (-1) ar=az/\∀h,W3.call 143 [.agg [.list k0 s0 (xs.map λa=>[a]),y],z] h=aa (.ret (.tuple [.list .nil 0 [],.list .nil 0 [],.list .nil 0 [],.v (.int .i64 1)]),h))∨
 (cW ae owners=0/\fJ (-1) ar=ah/\∃X A,RL X ((eI owners ar).map λi=>ae.getD i [])/\IL A (cD (eI owners ar))/\∀h,W3.call 143 [.agg [.list k0 s0 (xs.map λa=>[a]),y],z] h=aa (.ret (.tuple [X,A,.list .held 1 (ints (fU (bJ ae))),.v (.int .i64 0)]),h)):=by
 obtain⟨h1,h2⟩:=hx.hold;obtain⟨h3,h4⟩:=hy.hold;obtain⟨h5,h6⟩:=hz.hold;have dN:(xs.map aC).length=ae.length:=by obtain⟨_,_,xs',he,-,hl,-⟩:=h1;injection he with _ _ e3;have e4:=(Np (λx y h=>by injection h)).1 e3;rw[e4];exact hl
 have ea:bN [.agg [.list k0 s0 (xs.map λa=>[a]),y],z]=[.agg [.list (bO k0) s0 ((xs.map aC).map λa=>[a]),aC y],aC z]:=by rw[bN,aC,bN,bN,bN,aC,CJ];rfl
 have ef:aP 0 0 0 [.agg [.list (bO k0) s0 ((xs.map aC).map λa=>[a]),aC y],aC z]=ah:=by have hf:=yQ _ h2;rw[aP,aK,aP,aP,aP,aP,aK,fh,hf,h4,h6];rfl
 obtain⟨r,h',hc,-,hp⟩:=aoV ⟨[],[],0,[]⟩ (bO k0) s0 (xs.map aC) (aC y) (aC z) ae owners ar h1 dN h3 h5 ju rfl;by_cases q1:cW ae owners≠0
 ·rw[aG q1] at hp;subst hp;exact .inl ⟨q1,bm (L:=L3) rfl ea ef hc rfl rfl⟩
 ·rw[aI q1] at hp;have q1':cW ae owners=0:=Jz.1 q1;cases q2:fJ (-1) ar with
  |false=>rw[aG q2] at hp;subst hp;exact .inr (.inl ⟨q1',rfl,bm (L:=L3) rfl ea ef hc rfl rfl⟩)|true=>
   rw[aI (by rw[q2];simp)] at hp;obtain⟨k1,s1,k2,s2,tb,rfl,e1,e2,e3⟩:=hp;obtain⟨o1,-,-,-⟩:=rk q1';have hN:fk owners ar ae.length=eI owners ar:=(by unfold fk eI;rw[o1]);obtain⟨n1,-⟩:=sU q1';have uo:(fU (bJ ae)).length=bJ ae:=(by unfold fU;simp;omega);refine .inr (.inr ⟨q1',rfl,.list (bO k1) s1 ((iU (xs.map aC) owners ar ae.length).map λa=>[a]),.list (bO k2) s2 (ints (cD (eI owners ar))),⟨_,_,_,rfl,λbG=>?_,?_,λi a r ha hr=>?_⟩,⟨_,_,rfl,λbG=>?_⟩,bm (L:=L3) rfl ea ef hc ?_ ?_⟩)
   ·rcases e1 with q|⟨q,-⟩
    ·exact q
    ·exfalso;apply bG;rw[<-hN];unfold iU at q;unfold fk;rw[Gp] at q;rw[q];rfl
   ·rw[bu,<-hN];unfold iU fk;rw[bu]
   ·obtain⟨j,j1,j2,rfl⟩:=Ru ha;rw[hN] at j1;rw[ej,j1] at hr;injection hr with hr;subst hr;obtain⟨_,_,xs',he,-,hl,hh⟩:=h1;injection he with _ _ e5;have e4:=(Np (λx y h=>by injection h)).1 e5;subst e4;refine hh j _ _ ?_ ?_
    ·rw[ez,aR ag];rfl
    ·show ae[j]?=aa (ae.getD j []);rw[ez,aR j2];rfl
   ·rcases e2 with q|⟨q,-⟩
    ·exact q
    ·rw[hN] at q;exact absurd q bG
   ·rw[gH,ur,ur,ur,CW e3 uo,hN];rfl
   ·have nR:gQ 0 0 0 ((iU (xs.map aC) owners ar ae.length).map λa=>[a])=ah:=yQ _ λa ha=>(by obtain⟨i,hi⟩:=uJ ha;obtain⟨j,-,j2,rfl⟩:=Ru hi;refine h2 _ ?_;rw[ez,aR ag];exact iW _);cases k1<;>cases k2<;>simp[aK,aP,bO,nq,nR,sD]
def FL:Tryz.f76.results.toList=[.tmp 4,.tmp 5,.tmp 6]:=av
def nh(n:Nat)(at_:List Nat)(l:List Int)(j:Nat):List Int:=(at_.zipIdx.take j).foldl (λy p=>y.set p.1 (ai l p.2)) (a9 n 0)
def Mw{n j}{at_}{l}:(nh n at_ l j).length=n:=by unfold nh;rw[G9 (λp=>ai l p.2),mM]
def abv{n j p}{at_}{l}(h:at_[j]?=aa p):(nh n at_ l j).set p (ai l j)=nh n at_ l (j+1):=by
 have hz:at_.zipIdx[j]?=aa (p,j):=by rw[ac5,h];simp
 unfold nh;rw[ft hz,oj];rfl
def Mv{n}{at_}{l}:nh n at_ l at_.length=su n at_ l:=by unfold nh su;rw[gm bE]
def aan{l}{j p:Nat}(h:l[j]?=aa p):ai (cD l) j=(p:Int):=by
 have:(cD l)[j]?=aa (p:Int):=by unfold cD;rw[ej,h];rfl
 unfold ai;rw[ez,this];rfl
def Tc(ae:List (List Int))(owners ar:List Int)(h:aq)(r:eY)(h':aq):Prop:=
 Ext h h'/\((∃e,fL ae owners ar=([],az,e)/\r=.ret (.tuple [.list .nil 0 [],.v (.bool az),.v (.int .i64 e)]))∨∃l b,fL ae owners ar=(l,ah,0)/\l.length=ae.length/\r=.ret (.tuple [.arr b 0 ae.length ae.length,.v (.bool ah),.v (.int .i64 0)])/\h'.boxes[b]?=aa (l.map im))
def aee(h:aq)(k0:Tok)(s0:Nat)(xs:List AV)(y z:AV)(ae:List (List Int))(owners ar:List Int)(hx:RL (.list k0 s0 (xs.map λa=>[a])) ae)(hy:IL y owners)(hz:IL z ar)(ju:ar.length<=1099511627776):
 ∃r h',W3.call 76 [.agg [.list k0 s0 (xs.map λa=>[a]),y],z] h=aa (r,h')/\Tc ae owners ar h r h':=by
 have hq:=aoW k0 s0 xs y z ae owners ar hx hy hz ju;obtain⟨_,_,xs',he,dN⟩:=hx.form;have K7:(xs.map λa=>[a]).length=ae.length:=by injection he with _ _ e5;rw[e5,bu];exact dN
 have bx:(AV.agg [.list k0 s0 (xs.map λa=>[a]),y]).bP=aa [.list k0 s0 (xs.map λa=>[a]),y]:=by obtain⟨ky,sy,rfl,-⟩:=hy;rfl
 have b0:(h.push [.list k0 s0 (xs.map λa=>[a]),y]).boxes[h.boxes.length]?=aa [.list k0 s0 (xs.map λa=>[a]),y]:=aZ _ _;have l25:=vh b0;have l22:=rZ b0;have u23:=dQ;have u22:=ji;have z3:=fP;clear he dN hx hy hz b0;unfold Tc;have eA:fL ae owners ar=if cW ae owners≠0 then ([],az,cW ae owners) else if !fJ (-1) ar then ([],az,1) else match qk ((eI owners ar).map λi=>ae.getD i []) (fU (bJ ae)) with|none=>([],az,0)|some l=>(su ae.length (eI owners ar) l,ah,0):=rfl
 refine db rfl Tryz.func76 rfl ?_;rcases hq with⟨q1,c⟩|⟨q1,q2,c⟩|⟨q1,q2,X,A,hX,hA,c⟩
 ·rw[aG q1] at eA;generalize cW ae owners=pe at *
  have Xu:decide (pe=0)=az:=by simp[q1]
  have ke:=al.mk eA;clear eA q1;refine bK @FL @bg ?_;exact⟨_,_,rfl,.push _ _,.inl ⟨pe,ke.out,rfl⟩⟩
 ·rw[aI (by simp[q1]),aG (by rw[q2];rfl)] at eA;have ke:=al.mk eA;clear eA q1 q2;refine bK @FL @bg ?_;exact⟨_,_,rfl,.push _ _,.inl ⟨1,ke.out,rfl⟩⟩
 ·rw[aI (by simp[q1]),aI (by rw[q2];simp)] at eA;obtain⟨o1,o2,o3,-⟩:=rk q1;obtain⟨n1,n2⟩:=sU q1;have uo:(fU (bJ ae)).length=bJ ae:=by unfold fU;simp;omega
  have AZ:∀i∈eI owners ar,i<ae.length:=λi hi=>by unfold eI at hi;rw[o1];exact fQ.1 (vG.1 hi).1
  have hlen:(eI owners ar).length<=64:=by unfold eI;exact fw (Gm _ _) (by rw[List.length_range];omega)
  have dU:∀r∈(eI owners ar).map λi=>ae.getD i [],r∈ae:=λr hr=>by obtain⟨i,hi,rfl⟩:=jP.1 hr;have:=AZ i hi;rw[ez,aR this];exact iW _
  have vW:=ahr X (.list .held 1 (ints (fU (bJ ae)))) _ (fU (bJ ae)) hX ⟨_,_,rfl,λ_=>rfl⟩ (by rw[bu];exact hlen) (λr hr=>by rw[uo];exact(o3 r (dU r hr)).1) (by rw[uo];exact n2) (λr hr=>(o3 r (dU r hr)).2.2.2) (λx hx=>by
   unfold fU at hx;rcases iu.1 hx with rfl|hx
   ·exact⟨aV,by decide⟩
   ·rw[List.eq_of_mem_replicate hx];exact⟨aV,by decide⟩)
  rcases vW with⟨e1,c2⟩|⟨l,e1,e2,c2⟩
  ·rw[e1] at eA;have ke:=al.mk eA;unfold im at c2;clear eA q1 q2 e1 dU AZ o3;refine bK @FL @bg ?_;exact⟨_,_,rfl,.push _ _,.inl ⟨0,ke.out,rfl⟩⟩
  ·rw[e1] at eA;have ke:=al.mk eA;have mk:=Bc (h.push [.list k0 s0 (xs.map λa=>[a]),y]) ae.length ag .i64 .i64;have oz:a9 ae.length (im 0)=(nh ae.length (eI owners ar) l 0).map im:=(by unfold nh;rw[fR,Gj,yy]);rw[oz] at mk;rw[bu] at e2;have ko:=al.mk AZ;obtain⟨ka,sa,rfl,jt⟩:=hA;have ksa:=al.mk jt;have eG:=QF (eI owners ar);have dG:=dD l;clear eA q1 q2 e1 dU AZ o3 oz hX jt;unfold im at c2 mk;generalize eI owners ar=ow at *
   clear o1;refine cQ @FL @bg @dE ?_;refine bH.gen λe0 aF bB cU cN=>?_;have f4:e0.get 4=.arr (h.boxes.length+1) 0 ae.length ae.length:=(by rw[aF];simp only[gW,reduceIte,aO,aM,cH]);have f10:e0.get 10=.list .held 1 (ints l):=(by rw[aF];exact gS);have f42:e0.get 42=.list ka sa (ints (cD ow)):=(by rw[aF];exact gS);have f43:e0.get 43=.v (.int .i64 (ow.length:Nat)):=(by rw[aF];exact gS);have f44:e0.get 44=.v (.int .i64 (0:Nat)):=(by rw[aF];exact gR);have fd:e0.defers=[]:=(by rw[bB];exact gS);clear aF bB cU cN mk c c2 l25 l22;have fY:(h.push [.list k0 s0 (xs.map λa=>[a]),y]).boxes.length=h.boxes.length+1:=cH _ _;have X1:Ext h (h.push [.list k0 s0 (xs.map λa=>[a]),y]):=.push _ _;generalize h.push [.list k0 s0 (xs.map λa=>[a]),y]=H1 at *
   have kX:=al.mk (aw X1 fY);clear X1;refine cz (λm e H=>∃j:Nat,j<=ow.length/\m=ow.length - j/\e.get 4=.arr (h.boxes.length+1) 0 ae.length ae.length/\e.get 10=.list .held 1 (ints l)/\e.get 42=.list ka sa (ints (cD ow))/\e.get 43=.v (.int .i64 (ow.length:Nat))/\e.get 44=.v (.int .i64 (j:Nat))/\e.defers=[]/\H=H1.push ((nh ae.length ow l j).map im)) ?_ ow.length _ _ ?_;rotate_left 1
   ·exact⟨0,cA _,rfl,f4,f10,f42,f43,f44,fd,rfl⟩
   clear f4 f10 f42 f43 f44 fd;rintro m e H ⟨j,hj,rfl,g4,g10,g42,g43,g44,hd,rfl⟩;by_cases aA:j<ow.length
   ·obtain⟨p,eL⟩:∃p,ow[j]?=aa p:=⟨_,aR aA⟩;have y9:=ko.out p (dj eL);have bD:sa=1:=ksa.out (by intro q;unfold cD at q;rw[Gp] at q;rw[q] at aA;exact tN _ aA);subst bD;have l0:=eE (H:=H1.push ((nh ae.length ow l j).map im)) (l:=cD ow) (i:=j) (s:=1) (by unfold cD;rw[bu];exact aA);rw[aan eL] at l0;have l1:=eE (H:=H1.push ((nh ae.length ow l j).map im)) (l:=l) (i:=j) (s:=1) ag;have ix3:=qX (b:=h.boxes.length+1) (len:=ae.length) (aD:=ae.length) (k:=.i64) y9;have sk:=zJ (H:=H1.push ((nh ae.length ow l j).map im)) (b:=H1.boxes.length) (r:=nh ae.length ow l j) (k:=p) (x:=ai l j) (aZ _ _) (by rw[Mw];exact y9);rw[pc,abv eL,fY] at sk;have fx:(j:Int)<(ow.length:Int):=(by omega);unfold im at *
    clear eL fY;refine bK @FL @bh ?_;exact⟨ow.length - (j+1),by omega,j+1,by omega,rfl,by simp⟩
   ·have nS:j=ow.length:=(by omega);subst nS;refine br @FL ?_;refine⟨_,_,rfl,kX.out.1.trans (.push _ _),.inr ⟨_,h.boxes.length+1,ke.out,?_,rfl,?_⟩⟩
    ·rw[<-Mv,Mw]
    ·rw[<-Mv];exact nt kX.out.2.symm
def IS(H:aq)(x:AV)(l:List Int):Prop:=IL x l∨∃b,x=.arr b 0 l.length l.length/\H.boxes[b]?=aa (l.map im)
def IS.mono{H H'}{x}{l}(s:IS H x l)(m:∀(c:Nat) cs,H.boxes[c]?=aa cs->H'.boxes[c]?=aa cs):IS H' x l:=by
 rcases s with q|⟨b,q1,q2⟩
 ·exact .inl q
 ·exact .inr ⟨b,q1,m _ _ q2⟩
def IS.len{H}{x}{l}(s:IS H x l):dM ao 23 x=aa (.v (.int .i64 (l.length:Nat))):=by
 rcases s with⟨k,z,rfl,-⟩|⟨b,rfl,-⟩
 ·rw[QW dQ,dD]
 ·rw[QV dQ]
def IS.at{H:aq}{x:AV}{l:List Int}(s:IS H x l){i:Nat}(hi:i<l.length):∃a,dH ao 23 x (.v (.int .i64 (i:Nat)))=aa a/\∀H':aq,IS H' x l->aH ao Gt H' 3 a=aa (.v (.int .i64 (ai l i))):=by
 rcases s with⟨k,z,rfl,hz⟩|⟨b,rfl,hb⟩
 ·have:z=1:=hz (by intro q;rw[q] at hi;exact tN _ hi);subst this;have q:=bh (t:=23) (k:=k) (kk:=.i64) (sz:=1) (es:=ints l) (a:=((i:Nat):Int)) dQ fP ag (by rw[dD];omega);rw[dV] at q;exact⟨_,q,λH' _=>eE hi⟩
 ·refine⟨.ptr (.box b) i,qX (b:=b) (len:=l.length) (aD:=l.length) (n:=i) (k:=.i64) hi,λH' s'=>?_⟩;rcases s' with⟨k,z,e,-⟩|⟨b',e,iB⟩
  ·cases e
  ·injection e with e1;subst e1;exact zw iB (xS hi)
def Mc:Tryz.f196.results.toList=[.tmp 6]:=av
def arK:Tryz.f195.results.toList=[.tmp 4]:=av
def Zi(h:aq)(x y:AV)(a own:List Int)(n:Int)(hx:IS h x a)(hy:IS h y own)(hl:own.length=a.length)(hw:a.length<=1000000):
 ∃r h',W3.call 196 [x,y,im n] h=aa (r,h')/\Ext h h'/\r=.ret (.arr h.boxes.length 0 a.length a.length)/\h'.boxes[h.boxes.length]?=aa ((je n a own).map im):=by
 have mk:=Bc h a.length hw .i64 .i64;have kk:=al.mk (aw hx hy);have lx:=hx.len;have oz:a9 a.length (im 0)=(lN (λj=>jZ n (ai a j) (ai own j)) (a9 a.length 0) 0 0).map im:=by rw[VF,yy]
 rw[oz] at mk;unfold im at mk;clear hx hy oz;refine db rfl Tryz.func196 rfl ?_;unfold im;refine br @Mc ?_;refine bH.gen λe0 aF bB cU cN=>?_;have f0:e0.get 0=x:=by rw[aF];exact gS
 have f1:e0.get 1=y:=by rw[aF];exact gS
 have f2:e0.get 2=.v (.int .i64 n):=by rw[aF];exact gS
 have f7:e0.get 7=.arr h.boxes.length 0 a.length a.length:=by rw[aF];exact gS
 have f8:e0.get 8=.v (.int .i64 (0:Nat)):=by rw[aF];exact gR
 have fd:e0.defers=[]:=by rw[bB];exact gS
 clear aF bB cU cN mk;refine cz (λm e H=>∃k:Nat,k<=a.length/\m=a.length - k/\e.get 0=x/\e.get 1=y/\e.get 2=.v (.int .i64 n)/\e.get 7=.arr h.boxes.length 0 a.length a.length/\e.get 8=.v (.int .i64 (k:Nat))/\e.defers=[]/\H=h.push ((lN (λj=>jZ n (ai a j) (ai own j)) (a9 a.length 0) 0 k).map im)) ?_ a.length _ _ ?_;rotate_left 1
 ·exact⟨0,cA _,rfl,f0,f1,f2,f7,f8,fd,rfl⟩
 clear f0 f1 f2 f7 f8 fd;rintro m e H ⟨k,hk,rfl,g0,g1,g2,g7,g8,hd,rfl⟩;by_cases aA:k<a.length
 ·obtain⟨ax,i1,i2⟩:=kk.out.1.at aA;obtain⟨ay,j1,j2⟩:=kk.out.2.at (ag:k<own.length);have l1:=i2 (h.push ((lN (λj=>jZ n (ai a j) (ai own j)) (a9 a.length 0) 0 k).map im)) (kk.out.1.mono λ_ _ q=>aY q);have l2:=j2 (h.push ((lN (λj=>jZ n (ai a j) (ai own j)) (a9 a.length 0) 0 k).map im)) (kk.out.2.mono λ_ _ q=>aY q);have c1:=λh=>aqM n (ai own k) h;have c2:=λh=>aao (ai a k) (0 - cR n (ai own k)) h;have fl:jZ n (ai a k) (ai own k)=cd (ai a k) (0 - cR n (ai own k)):=by rw[Tt];rfl
  have fz:=zy (G8 n (ai own k));have cP:(a9 a.length (0:Int)).length=a.length:=mM;have sk:=zJ (H:=h.push ((lN (λj=>jZ n (ai a j) (ai own j)) (a9 a.length 0) 0 k).map im)) (b:=h.boxes.length) (r:=lN (λj=>jZ n (ai a j) (ai own j)) (a9 a.length 0) 0 k) (k:=k) (x:=jZ n (ai a k) (ai own k)) (aZ _ _) (by rw[sV,cP];exact aA);have cs:=VE (f:=λj=>jZ n (ai a j) (ai own j)) (a:=a9 a.length 0) (cA k) (by rw[cP];exact aA);rw[pc,cs,fl] at sk;have ix:=qX (b:=h.boxes.length) (len:=a.length) (aD:=a.length) (k:=.i64) aA;have fx:(k:Int)<(a.length:Int):=by omega
  clear i2 j2 cs fl;generalize cR n (ai own k)=z at *
  unfold im at *
  refine br @Mc ?_;refine ev U8 av ?_;refine br @Mc ?_;exact⟨a.length - (k+1),by omega,k+1,by omega,rfl,by simp⟩
 ·have:k=a.length:=by omega
  subst this;refine br @Mc ?_;refine⟨_,_,rfl,.push _ _,rfl,?_⟩;rw[aZ];congr 2;refine xX (by rw[sV,we hl.symm,mM]) λj hj=>?_;rw[sV,mM] at hj;rw[Ei (by rw[mM];exact hj),aG ⟨cA _,hj⟩,xc hl.symm hj]
def auX(h:aq)(x:AV)(a:List Int)(n:Int)(hx:IS h x a)(hw:a.length<=1000000)(hn:0<=n/\n<=9223372036854775807):
 ∃r h',W3.call 195 [x,im n] h=aa (r,h')/\Ext h h'/\∃b,r=.ret (.arr b 0 a.length a.length)/\h'.boxes[b]?=aa ((scaleB a n).map im):=by
 have mk:=Bc h a.length hw .i64 .i64;have lx:=hx.len;have hz:(h.push (a9 a.length (im 0))).boxes[h.boxes.length]?=aa ((a9 a.length (0:Int)).map im):=by rw[aZ,yy]
 have mH:(a9 a.length (0:Int)).length=a.length:=mM;obtain⟨r,h',c,X,rfl,hb⟩:=Zi (h.push (a9 a.length (im 0))) (.arr h.boxes.length 0 a.length a.length) x (a9 a.length 0) a (0 - n) (.inr ⟨h.boxes.length,by rw[mH],hz⟩) (hx.mono λ_ _ q=>aY q) mH.symm (by rw[mH];exact hw);rw[mH] at c;rw[Tt] at hb;have kk:=al.mk (aw X hb);clear hx hz mH X hb;unfold im at c mk ⊢;refine db rfl Tryz.func195 rfl ?_;refine br @arK ?_;exact⟨_,_,rfl,(Ext.push _ _).trans kk.out.1,_,rfl,kk.out.2⟩
def IW:Tryz.f193.results.toList=[.tmp 2]:=av
def ZK(h:aq)(x:AV)(l:List Int)(hx:IL x l)(hl:l.length<=1000000):∃r h',W3.call 193 [x] h=aa (r,h')/\h'=h/\r=.ret (.v (.bool (l.all bX))):=by
 obtain⟨k,s,rfl,hs⟩:=hx;have ks:=al.mk hs;clear hs;have u23:=dQ;have z3:=fP;have cS:=dD l;refine db rfl Tryz.func193 rfl ?_;refine br @IW ?_;refine cz (λm e H=>∃i:Nat,i<=l.length/\m=l.length - i/\al ((l.take i).all bX=ah)/\e.get 0=.list k s (ints l)/\e.get 3=.v (.int .i64 (i:Nat))/\e.defers=[]/\H=h) ?_ l.length _ _ ?_;rotate_left 1
 ·refine⟨0,cA _,rfl,⟨bE⟩,?_,?_,?_,rfl⟩<;>exact gR
 rintro m e H ⟨i,hi,rfl,ka,g0,g3,hd,rfl⟩;by_cases aA:i<l.length
 ·have bD:s=1:=ks.out (by intro q;rw[q] at aA;simp at aA);subst bD;have ld:=eE (H:=H) (s:=1) aA;have hv:l[i]?=aa (ai l i):=by rw[aR aA,fm aA]
  have fx:(i:Int)<(l.length:Int):=by omega
  have lU:(l.take (i+1)).all bX=bX (ai l i):=by rw[ft hv,List.all_append,ka.out];simp
  have qn:=dj hv;have kt:=al.mk (aw lU qn);have hq:bX (ai l i)=(decide (0<=ai l i)&&decide (ai l i<1073741789)):=rfl;clear hv lU qn;generalize ai l i=n at *
  by_cases c1:n<0
  ·have fj:decide (n<0)=ah:=(by simp[c1]);have hf:l.all bX=az:=(by rw[DS];exact⟨n,kt.out.2,by rw[hq];simp;omega⟩);have kf:=al.mk hf;clear hf hq c1;refine bK @IW @bh ?_;exact⟨_,_,rfl,rfl,by rw[kf.out]⟩
  ·have fj:decide (n<0)=az:=(by simp[c1]);by_cases c2:1073741789<=n
   ·have ie:decide (1073741789<=n)=ah:=(by simp[c2]);have hf:l.all bX=az:=(by rw[DS];exact⟨n,kt.out.2,by rw[hq];simp;omega⟩);have kf:=al.mk hf;clear hf hq c1 c2;refine bK @IW @bh ?_;exact⟨_,_,rfl,rfl,by rw[kf.out]⟩
   ·have ie:decide (1073741789<=n)=az:=(by simp;omega);have kt2:al ((l.take (i+1)).all bX=ah):=⟨by rw[kt.out.1,hq];simp;omega⟩;clear hq c1 c2;refine bK @IW @bh ?_;exact⟨l.length - (i+1),by omega,i+1,by omega,rfl,kt2,by simp⟩
 ·have:i=l.length:=by omega
  subst this;have:=ka.out;rw[fC] at this;have kan:=al.mk this;clear this;refine br @IW ?_;exact⟨_,_,rfl,rfl,by rw[kan.out]⟩
def FE:Tryz.f192.results.toList=[.tmp 2]:=av
def YM{l:List Int}(h:∀x∈l,okF x):l.all bX=ah:=by rw[ey];intro x hx;obtain⟨h1,h2⟩:=h x hx;unfold bX;simp[h1,h2]
def ao8(h:aq)(x:AV)(ae:List (List Int))(w:Nat)(hx:RL x ae)(hr:ae.length<=64)(hw:∀r∈ae,r.length=w)(oC:w<=64)(bq:∀r∈ae,∀x∈r,okF x):∃h',W3.call 192 [x] h=aa (.ret (.v (.int .i64 0)),h')/\h'=h:=by
 obtain⟨k,s,xs,rfl,hs,dN,eH⟩:=hx;have kk:=al.mk (aw hs (aw eH (aw hw bq)));clear hs eH hw bq;have u23:=dQ;have u22:=ji;have z23:=il;have cS:(xs.map λa=>[a]).length=ae.length:=by rw[bu];exact dN
 have KA:¬((64:Int)<(ae.length:Int)):=by omega
 refine hY rfl Tryz.func192 rfl ?_;refine br @FE ?_;refine cz (λm e H=>∃i:Nat,i<=ae.length/\m=ae.length - i/\e.get 0=.list k s (xs.map λa=>[a])/\e.get 3=.v (.int .i64 (i:Nat))/\e.defers=[]/\H=h) ?_ ae.length _ _ ?_;rotate_left 1
 ·refine⟨0,cA _,rfl,?_,?_,?_,rfl⟩<;>exact gR
 rintro m e H ⟨i,hi,rfl,g0,g3,hd,rfl⟩;by_cases aA:i<ae.length
 ·have bD:s=1:=kk.out.1 (by intro q;rw[q] at aA;simp at aA);subst bD;obtain⟨a,gh⟩:∃a,xs[i]?=aa a:=⟨_,aR ag⟩;obtain⟨r,hv⟩:∃r,ae[i]?=aa r:=⟨_,aR aA⟩;have ld:=lV (H:=H) (s:=1) gh;obtain⟨ka,sa,rfl,jt⟩:=kk.out.2.1 i a r gh hv;have cP:=kk.out.2.2.1 r (dj hv);have xK:(ints r).length=w:=by rw[dD];exact cP
  have fx:(i:Int)<(ae.length:Int):=by omega
  have hwd:¬((64:Int)<(w:Int)):=by omega
  clear gh hv jt cP;refine bK @FE @bh ?_;exact⟨ae.length - (i+1),by omega,i+1,by omega,rfl,by simp⟩
 ·refine br @FE ?_;refine bH.gen λe0 aF bB cU cN=>?_;have f0:e0.get 0=.list k s (xs.map λa=>[a]):=by rw[aF];simp only[gW,reduceIte,aO,aM];exact g0
  have f4:e0.get 4=.v (.int .i64 (0:Nat)):=by rw[aF];exact gR
  have fd:e0.defers=[]:=by rw[bB];simp only[gW,reduceIte,aO,aM];exact hd
  clear aF bB cU cN g0 g3 hd hi aA;refine cz (λm e H2=>∃i:Nat,i<=ae.length/\m=ae.length - i/\e.get 0=.list k s (xs.map λa=>[a])/\e.get 4=.v (.int .i64 (i:Nat))/\e.defers=[]/\H2=H) ?_ ae.length _ _ ?_;rotate_left 1
  ·exact⟨0,cA _,rfl,f0,f4,fd,rfl⟩
  clear f0 f4 fd;rintro m e H ⟨i,hi,rfl,g0,g4,hd,rfl⟩;by_cases aA:i<ae.length
  ·have bD:s=1:=kk.out.1 (by intro q;rw[q] at aA;simp at aA);subst bD;obtain⟨a,gh⟩:∃a,xs[i]?=aa a:=⟨_,aR ag⟩;obtain⟨r,hv⟩:∃r,ae[i]?=aa r:=⟨_,aR aA⟩;obtain⟨a0,gu⟩:∃a,xs[0]?=aa a:=⟨_,aR ag⟩;obtain⟨r0,gv⟩:∃r,ae[0]?=aa r:=⟨_,aR ag⟩;have ld:=lV (H:=H) (s:=1) gh;have ld0:=lV (H:=H) (s:=1) gu;obtain⟨ka,sa,rfl,jt⟩:=kk.out.2.1 i a r gh hv;obtain⟨ka0,sa0,rfl,qp⟩:=kk.out.2.1 0 a0 r0 gu gv;have cP:=kk.out.2.2.1 r (dj hv);have um:=kk.out.2.2.1 r0 (dj gv);obtain⟨_,H5,cc,e5,rfl⟩:=ZK H (.list ka sa (ints r)) r ⟨_,_,rfl,jt⟩ ag;rw[e5,YM (kk.out.2.2.2 r (dj hv))] at cc;have xK:(ints r).length=w:=(by rw[dD];exact cP);have Qk:(ints r0).length=w:=(by rw[dD];exact um);have fx:(i:Int)<(ae.length:Int):=(by omega);have AD:(0:Int)<(ae.length:Int):=(by omega);have z0:(0:Int).toNat=0:=rfl;have Hy:decide ((w:Int)=(w:Int))=ah:=(by simp);clear gh hv jt cP gu gv qp um e5;refine bK @FE @bh ?_;refine ev U8 av ?_;refine bK @FE @bh ?_;exact⟨ae.length - (i+1),by omega,i+1,by omega,rfl,by simp⟩
  ·refine br @FE ?_;exact⟨_,rfl,rfl⟩
def aaT:Tryz.f172.results.toList=[.tmp 4]:=av
def apr(h:aq)(x y:AV)(ae:List (List Int))(target:List Int)(hx:RL x ae)(hy:IL y target)(hr:ae.length<=64)(hw:∀r∈ae,r.length=target.length)(oC:target.length<=64)(bq:∀r∈ae,∀x∈r,okF x)(oZ:∀x∈target,okF x):
 W3.call 172 [x,y] h=aa (.ret (.v (.int .i64 0)),h):=by
 obtain⟨h1,c1,e1⟩:=ao8 h x ae target.length hx hr hw oC bq;rw[e1] at c1;obtain⟨_,h2,c2,e2,rfl⟩:=ZK h y target hy ag;rw[e2,YM oZ] at c2;clear e1 e2 h1 h2;obtain⟨k,s,xs,rfl,hs,dN,eH⟩:=hx;obtain⟨ky,sy,rfl,lT⟩:=hy;have u23:=dQ;have u22:=ji;have z23:=il;have cS:(xs.map λa=>[a]).length=ae.length:=by rw[bu];exact dN
 have y8:=dD target;have KA:¬((64:Int)<(target.length:Int)):=by omega
 clear bq oZ;refine cJ rfl Tryz.func172 rfl ?_;by_cases h0:ae.length=0
 ·have hq:decide ((0:Int)<(ae.length:Int))=az:=cE ag;clear hw eH h0;exact lP @aaT
 ·have hq:decide ((0:Int)<(ae.length:Int))=ah:=bQ ag;obtain⟨a0,gu⟩:∃a,xs[0]?=aa a:=⟨_,aR ag⟩;obtain⟨r0,gv⟩:∃r,ae[0]?=aa r:=⟨_,aR ag⟩;have bD:s=1:=hs (by intro q;rw[q] at h0;simp at h0);subst bD;have ld0:=lV (H:=h) (s:=1) gu;obtain⟨ka0,sa0,rfl,qp⟩:=eH 0 a0 r0 gu gv;have um:=hw r0 (dj gv);have Qk:(ints r0).length=target.length:=by rw[dD];exact um
  have AD:(0:Int)<(ae.length:Int):=by omega
  have z0:(0:Int).toNat=0:=rfl;have Hy:decide ((target.length:Int)=(target.length:Int))=ah:=by simp
  clear hw eH gu gv um hs h0;exact jl @aaT @bh
def L4:List FuncId:=[28,29,30,46,65,66,69,76,78,82,94,97,118,119,120,121,123,132,138,140,146,172,194,195,196,201]
noncomputable def Fx:FuncId->Option (List AV->aq->Option (AV × aq)):=qJ W3 L4
noncomputable abbrev W4:=whole ao Gt Fx
def xj:qE Fx L4:=yM
section
variable (a b n x:Int)
def Up:∀h,W4.call 28 [im a,im b] h=aa (.ret (im (cd a b)),h):=bm (L:=L4) rfl rfl rfl (aeg a b _) rfl rfl
def Zw:∀h,W4.call 29 [im a,im b] h=aa (.ret (im (cR a b)),h):=bm (L:=L4) rfl rfl rfl (amR a b _) rfl rfl
def ab6:∀h,W4.call 46 [im x] h=aa (.ret (.v (.bool (bI x))),h):=bm (L:=L4) rfl rfl rfl (avm x _) rfl rfl
def ajv:∀h,W4.call 69 [im a,im b] h=aa (.ret (.tuple [im (jk a b),im (nP a b)]),h):=bm (L:=L4) rfl rfl rfl (aju a b _) rfl rfl
def OQ:∀h,W4.call 30 [im a,im n] h=aa (.ret (.tuple [im (eR a n),im (mS a)]),h):=bm (L:=L4) rfl rfl rfl (ajz a n _) rfl rfl
def ao1:∀h,W4.call 65 [im a,im b] h=aa (.ret (im (cd a b)),h):=bm (L:=L4) rfl rfl rfl (aao a b _) rfl rfl
def ap6:∀h,W4.call 194 [im n] h=aa (.ret (.tuple [im (if fmod n=0 then 0 else eK n),im (if fmod n=0 then 90 else 0)]),h):=bm (L:=L4) rfl rfl rfl (ap5 n _) rfl rfl
def asD:∀h,W4.call 94 [im x] h=aa (.ret (.v (.bool (bI x))),h):=bm (L:=L4) rfl rfl rfl (asC x _) rfl rfl
def apD:∀h,W4.call 140 [im a,im b] h=aa (.ret (.tuple [im (jk a b),im (nP a b)]),h):=bm (L:=L4) rfl rfl rfl (apC a b _) rfl rfl
def apJ:∀h,W4.call 132 [im a,im n] h=aa (.ret (.tuple [im (eR a n),im (mS a)]),h):=bm (L:=L4) rfl rfl rfl (apI a n _) rfl rfl
def apX:∀h,W4.call 120 [im n] h=aa (.ret (.agg (aL 1 n [] .nil 0 [])),h):=bm (L:=L4) rfl rfl rfl (apW n _) rfl rfl
end
def amb(x y)(a own)(n)(hx:IL x a)(hy:IL y own)(hl:own.length=a.length)(hw:a.length<=1000000):∀h,W4.call 196 [x,y,im n] h=aa (.ret (.list .held 1 (ints (je n a own))),h):=by obtain⟨h1,h2⟩:=hx.hold;obtain⟨h3,h4⟩:=hy.hold;obtain⟨r,h',hc,-,rfl,hb⟩:=Zi ⟨[],[],0,[]⟩ (aC x) (aC y) a own n (.inl h1) (.inl h3) hl hw;exact bm (L:=L4) (b9:=[aC x,aC y,im n]) rfl rfl (by simp[aP,h2,h4,aK,im]) hc (CW hb (we hl.symm)) (by simp[aK,nq,sD])
def abe(a)(n):(scaleB a n).length=a.length:=by unfold scaleB;rw[we (by rw[mM]),mM]
def auY(x)(a)(n)(hx:IL x a)(hw:a.length<=1000000)(hn:0<=n/\n<=9223372036854775807):∀h,W4.call 195 [x,im n] h=aa (.ret (.list .held 1 (ints (scaleB a n))),h):=by obtain⟨h1,h2⟩:=hx.hold;obtain⟨r,h',hc,-,b,rfl,hb⟩:=auX ⟨[],[],0,[]⟩ (aC x) a n (.inl h1) hw hn;exact bm (L:=L4) (b9:=[aC x,im n]) rfl rfl (by simp[aP,h2,aK,im]) hc (CW hb (abe a n)) (by simp[aK,nq,sD])
def aeb(k0)(s0)(xs:List AV)(y z)(ae)(owners ar)(hx:RL (.list k0 s0 (xs.map λa=>[a])) ae)(hy:IL y owners)(hz:IL z ar)(ju:ar.length<=1099511627776):
 (∃e,fL ae owners ar=([],az,e)/\∀h,W4.call 76 [.agg [.list k0 s0 (xs.map λa=>[a]),y],z] h=aa (.ret (.tuple [.list .nil 0 [],.v (.bool az),.v (.int .i64 e)]),h))∨
 ∃l,fL ae owners ar=(l,ah,0)/\l.length=ae.length/\∀h,W4.call 76 [.agg [.list k0 s0 (xs.map λa=>[a]),y],z] h=aa (.ret (.tuple [.list .held 1 (ints l),.v (.bool ah),.v (.int .i64 0)]),h):=by
 obtain⟨h1,h2⟩:=hx.hold;obtain⟨h3,h4⟩:=hy.hold;obtain⟨h5,h6⟩:=hz.hold;have ea:bN [.agg [.list k0 s0 (xs.map λa=>[a]),y],z]=[.agg [.list (bO k0) s0 ((xs.map aC).map λa=>[a]),aC y],aC z]:=by rw[bN,aC,bN,bN,bN,aC,CJ];rfl
 have ef:aP 0 0 0 [.agg [.list (bO k0) s0 ((xs.map aC).map λa=>[a]),aC y],aC z]=ah:=by have hf:=yQ _ h2;rw[aP,aK,aP,aP,aP,aP,aK,fh,hf,h4,h6];rfl
 obtain⟨r,h',hc,-,⟨e,e1,rfl⟩|⟨l,b,e1,e2,rfl,e3⟩⟩:=aee ⟨[],[],0,[]⟩ (bO k0) s0 (xs.map aC) (aC y) (aC z) ae owners ar h1 h3 h5 ju
 ·exact .inl ⟨e,e1,bm (L:=L4) rfl ea ef hc rfl rfl⟩
 ·refine .inr ⟨l,e1,e2,bm (L:=L4) rfl ea ef hc ?_ (by simp[aK,aP,nq,sD])⟩;rw[gH,ur,CW e3 e2];rfl
def aps(x y)(ae)(target)(hx:RL x ae)(hy:IL y target)(hr:ae.length<=64)(hw:∀r∈ae,r.length=target.length)(oC:target.length<=64)(bq:∀r∈ae,∀x∈r,okF x)(oZ:∀x∈target,okF x):
 ∀h,W4.call 172 [x,y] h=aa (.ret (.v (.int .i64 0)),h):=by
 obtain⟨h1,h2⟩:=hx.fZ;obtain⟨h3,h4⟩:=hy.hold;exact bm (L:=L4) (b9:=[aC x,aC y]) rfl rfl (by simp[aP,h2,h4]) (apr ⟨[],[],0,[]⟩ (aC x) (aC y) ae target h1 h3 hr hw oC bq oZ) rfl rfl
def LW:Tryz.f137.results.toList=[.tmp 4]:=av
def ajV(h:aq)(x:AV)(l:List Int)(n:Int)(hx:IL x l)(hl:l.length<=1099511627776):∃r h',W4.call 137 [x,im n] h=aa (r,h')/\h'=h/\r=.ret (.v (.bool (l.contains n))):=by
 obtain⟨k,s,rfl,hs⟩:=hx;have ks:=al.mk hs;clear hs;have u23:=dQ;have z3:=fP;have cS:=dD l;unfold im;refine db rfl Tryz.func137 rfl ?_;refine br @LW ?_;refine cz (λm e H=>∃i:Nat,i<=l.length/\m=l.length - i/\al ((l.take i).contains n=az)/\e.get 0=.list k s (ints l)/\e.get 1=.v (.int .i64 n)/\e.get 5=.v (.int .i64 (i:Nat))/\e.defers=[]/\H=h) ?_ l.length _ _ ?_;rotate_left 1
 ·refine⟨0,cA _,rfl,⟨bE⟩,?_,?_,?_,?_,rfl⟩<;>exact gR
 rintro m e H ⟨i,hi,rfl,ka,g0,g1,g5,hd,rfl⟩;by_cases aA:i<l.length
 ·have bD:s=1:=ks.out (by intro q;rw[q] at aA;simp at aA);subst bD;have ld:=eE (H:=H) (s:=1) aA;have hv:l[i]?=aa (ai l i):=by rw[aR aA,fm aA]
  have fx:(i:Int)<(l.length:Int):=by omega
  have kv:=al.mk hv;clear hv;by_cases hc:ai l i=n
  ·have fj:decide (ai l i=n)=ah:=(by simp[hc]);have hf:l.contains n=ah:=(by rw[DT,bQ];rw[<-hc];exact dj kv.out);have kf:=al.mk hf;clear hf;have khc:=al.mk hc;generalize ai l i=v at *
   clear hc
   repeat' (first|simp(maxSteps:=999999)(disch:=first|exact dZ|fail)only[gW,reduceIte,aO,aM,LW,bh, *]|refine dX ?_ ?_<;>(intro _;try omega))
   all_goals first|exact⟨_,_,rfl,rfl,by rw[kf.out]⟩|exact absurd khc.out (by assumption)
  ·have fj:decide (ai l i=n)=az:=(by simp[hc]);have kt2:al ((l.take (i+1)).contains n=az):=⟨by
    have:=ka.out;rw[ft kv.out];rw[DT,decide_eq_false_iff_not] at *
    rw[wR,not_or];exact⟨this,by rw[my];exactλq=>hc q.symm⟩⟩
   repeat' (first|simp(maxSteps:=999999)(disch:=first|exact dZ|fail)only[gW,reduceIte,aO,aM,LW,bh, *]|refine dX ?_ ?_<;>(intro _;try omega))
   all_goals exact⟨l.length - (i+1),by omega,i+1,by omega,rfl,kt2,by simp⟩
 ·have:i=l.length:=by omega
  subst this;have:=ka.out;rw[fC] at this;have kan:=al.mk this;clear this;refine br @LW ?_;exact⟨_,_,rfl,rfl,by rw[kan.out]⟩
def aru:Tryz.f135.results.toList=[.tmp 2]:=av
def auM(h:aq)(n:Nat)(h1:0<n)(h2:n<=1000000):W4.call 135 [im (n:Nat)] h=aa (.ret (.arr h.boxes.length 0 n n),h.push ((fU n).map im)):=by
 have mk:=Bc h n h2 .i64 .i64;have oz:a9 n (im 0)=(a9 n (0:Int)).map im:=by rw[yy]
 rw[oz] at mk;have sk:=zJ (H:=h.push ((a9 n (0:Int)).map im)) (b:=h.boxes.length) (r:=a9 n (0:Int)) (k:=0) (x:=1) (aZ _ _) (by rw[mM];exact h1);have v8:(a9 n (0:Int)).set 0 1=fU n:=by obtain⟨c,rfl⟩:∃c,n=c+1:=⟨n - 1,by omega⟩;unfold fU;rw[Bz];rfl
 rw[pc,v8] at sk;have ix:dH ao 23 (.arr h.boxes.length 0 n n) (.v (.int .i64 0))=aa (.ptr (.box h.boxes.length) 0):=qX (n:=0) (k:=.i64) h1;clear oz v8;unfold im at *
 refine cJ rfl Tryz.func135 rfl ?_;exact lP @aru
def aaL:Tryz.f136.results.toList=[.tmp 2]:=av
def ahm(h:aq)(x y:AV)(ae:List (List Int))(owners:List Int)(hx:RL x ae)(hy:IL y owners):∃h',W4.call 136 [.agg [x,y]] h=aa (.ret (.v (.int .i64 (bJ ae:Nat))),h')/\h'=h.push [x,y]:=by
 obtain⟨k,s,xs,rfl,hs,dN,eH⟩:=hx;have bx:(AV.agg [.list k s (xs.map λa=>[a]),y]).bP=aa [.list k s (xs.map λa=>[a]),y]:=by obtain⟨ky,sy,rfl,-⟩:=hy;rfl
 have l0:=rZ (aZ h [.list k s (xs.map λa=>[a]),y]);have u23:=dQ;have u22:=ji;have z23:=il;have cS:(xs.map λa=>[a]).length=ae.length:=by rw[bu];exact dN
 refine hY rfl Tryz.func136 rfl ?_;by_cases h0:ae.length=0
 ·have hq:(ae.length:Int)=0:=by omega
  have hc:bJ ae=1:=by unfold bJ;rw[aG h0]
  rw[hc];clear h0 eH hs dN hc;refine cQ @aaL @bg @dE ?_;exact⟨_,rfl,rfl⟩
 ·have hq:¬((ae.length:Int)=0):=by omega
  obtain⟨a0,gu⟩:∃a,xs[0]?=aa a:=⟨_,aR ag⟩;obtain⟨r0,gv⟩:∃r,ae[0]?=aa r:=⟨_,aR ag⟩;have bD:s=1:=hs (by intro q;rw[q] at h0;simp at h0);subst bD;have ld0:=lV (H:=h.push [.list k 1 (xs.map λa=>[a]),y]) (s:=1) gu;obtain⟨ka0,sa0,rfl,qp⟩:=eH 0 a0 r0 gu gv;have hc:bJ ae=r0.length:=by unfold bJ;rw[aI h0,ez,gv];rfl
  rw[hc];have cP:=dD r0;have AD:(0:Int)<(ae.length:Int):=by omega
  have z0:(0:Int).toNat=0:=rfl;clear h0 eH hs dN hc gu gv qp;refine bA @aaL @bg @dE @bh ?_;exact⟨_,rfl,rfl⟩
def vw:Tryz.f93.results.toList=[.tmp 2]:=av
def anW(h:aq)(x:AV)(l:List Int)(hx:IL x l)(hl:l.length<=9223372036854775807):∃r h',W4.call 93 [x] h=aa (r,h')/\h'=h/\r=.ret (.v (.bool (fJ (-1) l))):=by
 obtain⟨k,s,rfl,hs⟩:=hx;have ks:=al.mk hs;clear hs;have u23:=dQ;have z3:=fP;have cS:=dD l;refine db rfl Tryz.func93 rfl ?_;refine br @vw ?_;refine cz (λm e H=>∃(i:Nat) (cZ:Int),i<=l.length/\m=l.length - i/\al (fJ cZ (l.drop i)=fJ (-1) l)/\ -1<=cZ/\al (i=0->cZ= -1)/\al (0<i->ai l (i - 1)=cZ)/\e.get 0=.list k s (ints l)/\e.get 3=.v (.int .i64 (i:Nat))/\e.defers=[]/\H=h) ?_ l.length _ _ ?_;rotate_left 1
 ·refine⟨0,-1,cA _,rfl,⟨rfl⟩,Na _,⟨λ_=>rfl⟩,⟨λq=>absurd q (GB _)⟩,?_,?_,?_,rfl⟩<;>exact gR
 rintro m e H ⟨i,cZ,hi,rfl,kP,mf,k0,k1,g0,g3,hd,rfl⟩;by_cases aA:i<l.length;rotate_left 1
 ·have:i=l.length:=by omega
  subst this;have hf:fJ (-1) l=ah:=by rw[<-kP.out,qF (aJ _)];rfl
  have kf:=al.mk hf;clear hf;refine br @vw ?_;exact⟨_,_,rfl,rfl,by rw[kf.out]⟩
 have bD:s=1:=ks.out (by intro q;rw[q] at aA;simp at aA);subst bD;have ld:=eE (H:=H) (s:=1) aA;have fx:(i:Int)<(l.length:Int):=by omega
 have pQ:l.drop i=ai l i::l.drop (i+1):=by rw[fm aA];exact Bu aA
 have rT:=kP.out;rw[pQ,fJ] at rT;have kpf:=al.mk rT;clear rT pQ;by_cases c1:ai l i<0
 ·have fj:decide (ai l i<0)=ah:=by simp[c1]
  have hf:fJ (-1) l=az:=by rw[<-kpf.out];simp;omega
  have kf:=al.mk hf;clear hf c1;refine bK @vw @bh ?_;refine ev xj av ?_;refine bK @vw @bh ?_;exact⟨_,_,rfl,rfl,by rw[kf.out]⟩
 have fj:decide (ai l i<0)=az:=by simp[c1]
 by_cases c2:64<=ai l i
 ·have ie:decide (64<=ai l i)=ah:=by simp[c2]
  have hf:fJ (-1) l=az:=by rw[<-kpf.out];simp;omega
  have kf:=al.mk hf;clear hf c1 c2;refine bK @vw @bh ?_;refine ev xj av ?_;refine bK @vw @bh ?_;exact⟨_,_,rfl,rfl,by rw[kf.out]⟩
 have ie:decide (64<=ai l i)=az:=by simp;omega
 by_cases Pw:i=0
 ·subst Pw;have AU:=k0.out rfl;have kP2:al (fJ (ai l 0) (l.drop (0+1))=fJ (-1) l):=⟨by rw[<-kpf.out,bQ (ag:cZ<ai l 0),bQ (ag:ai l 0<=63)];rfl⟩;have CG: -1<=ai l 0:=by omega
  have kk1:al (0<0+1->ai l (0+1 - 1)=ai l 0):=⟨λ_=>rfl⟩;clear c1 c2 AU kpf;refine bK @vw @bh ?_;refine ev xj av ?_;refine bK @vw @bh ?_;exact⟨l.length - 1,by omega,0+1,ai l 0,by omega,rfl,kP2,CG,⟨λq=>absurd q ag⟩,kk1,by simp⟩
 ·have EE:=k1.out ag;have ld1:=eE (H:=H) (l:=l) (i:=i - 1) (s:=1) ag;rw[EE] at ld1;have KX:decide ((0:Int)<(i:Int))=ah:=bQ ag;have jK:(i:Int) - 1=((i - 1:Nat):Int):=by omega
  have akK:((i - 1:Nat):Int)<(l.length:Int):=by omega
  by_cases c3:ai l i<=cZ
  ·have uf:decide (ai l i<=cZ)=ah:=(by simp[c3]);have hf:fJ (-1) l=az:=(by rw[<-kpf.out];simp;omega);have kf:=al.mk hf;clear hf c1 c2 c3 EE;refine bK @vw @bh ?_;refine ev xj av ?_;refine bK @vw @bh ?_;exact⟨_,_,rfl,rfl,by rw[kf.out]⟩
  ·have uf:decide (ai l i<=cZ)=az:=(by simp;omega);have kP2:al (fJ (ai l i) (l.drop (i+1))=fJ (-1) l):=⟨by rw[<-kpf.out,bQ (ag:cZ<ai l i),bQ (ag:ai l i<=63)];rfl⟩;have CG: -1<=ai l i:=(by omega);have kk1:al (0<i+1->ai l (i+1 - 1)=ai l i):=⟨λ_=>rfl⟩;clear c1 c2 c3 EE kpf;refine bK @vw @bh ?_;refine ev xj av ?_;refine bK @vw @bh ?_;exact⟨l.length - (i+1),by omega,i+1,ai l i,by omega,rfl,kP2,CG,⟨λq=>absurd q ag⟩,kk1,by simp⟩
end Go.Proofs.YtnfciiiohoafaaaGreatDoor
end
