/-
  Part of the proof: YE.
-/
import Derived.Test.YtnfciiiohoafaaaGreatDoorYD
open True renaming intro->aT
open Option renaming some->aa,none->au
open List renaming getElem?_eq_some_iff->aQ,mem_of_getElem?->ez,length_set->nE,getElem?_set_self->Ln,getElem?_eq_getElem->a9,mem_or_eq_of_mem_set->vU,range->bL,getElem_map->pg,getElem_range->AJ,length_append->du,length_take->fb,length_drop->gE,getElem?_map->eR,length_map->bJ,map_set->aax,set_eq_take_append_cons_drop->AO,getElem?_set->mU,set_set->CQ,contains_eq_mem->Ie,set_set_perm->aaF,length_cons->iJ,length_nil->jP,map_append->oM,getElem_of_mem->aaq,mem_append->xF,mem_of_mem_take->pS,mem_map->jE,getElem?_of_mem->vT,range_succ->oN,foldl_append->oL,getD_eq_getElem?_getD->eQ,mem_cons_self->ga,mem_singleton->ph,take_succ_cons->iK,take_zero->gm,mem_cons_of_mem->fR,replicate->bm,replicate_succ->CP,append_nil->jv,getElem?_append_left->ru,getElem?_concat_length->EU,take_of_length_le->fK,take_length->gM,any_append->Lj,any_eq_true->EP,nil_append->jZ,any_eq_false->aag,length_replicate->qC,getElem?_zipIdx->aap,mem_cons->jm,all_eq_true->eE,getElem?_drop->pR,foldl_nil->Ll,map_replicate->Ip,map_eq_nil_iff->EW,mem_range->fD,getElem_mem->iS,filter_append->CO,filter_cons->ES,map_cons->ev,length_filter_le->Im,drop_eq_getElem_cons->ER,drop_of_length_le->sK,map_inj_right->Lr,mem_filter->xG
open Go.Proofs.Tryz renaming prog->aj,underlying23->eY,underlying203->Fh,underlying22->oR,func218->abd,func154->aa7
open And renaming intro->ax
open Nat renaming reduceEqDiff->aY,le_refl->aJ,le_trans->fc,mul_le_mul->ry,zero_add->nZ,zero_le->df,not_lt_zero->sO,lt_or_ge->dT,lt_irrefl->Rs,sub_self->yX
open Bool renaming true->ai,and_eq_true->bA,not_eq_true'->yP,false->ay,false_or->ZO,false_and->xw,and_eq_false_iff->ZN
open Int renaming le_refl->Ld,toNat_natCast->dS,lt_trans->Z1
open Go renaming FuncId->bq
open Decidable renaming not_not->Lb
set_option maxHeartbeats 64000000
set_option maxRecDepth 100000
set_option linter.unusedSimpArgs false
set_option linter.unusedVariables false
set_option linter.constructorNameAsVariable false
set_option linter.defProp false
section
namespace Go.Proofs.YtnfciiiohoafaaaGreatDoor
open Go.AE Go.NT
def P2:Tryz.f203.results.toList=[]:=aw
structure jG(H:ao)(tb:Nat)(B:List Nat)(t:List (List Int))(w:Nat):Prop where
 hY:H.boxes[tb]?=aa (B.map λb=>AV.arr b 0 w w)
 len:B.length=t.length
 nd:B.Nodup
 row:∀(i b:Nat) (r:List Int),B[i]?=aa b->t[i]?=aa r->H.boxes[b]?=aa (r.map im)
 wid:∀r∈t,r.length=w
 out:tb∉B
def WI{l:List Nat}(h:l.Nodup){i j x:Nat}(hi:l[i]?=aa x)(hj:l[j]?=aa x):i=j:=by obtain⟨h1,e1⟩:=aQ.1 hi;obtain⟨h2,e2⟩:=aQ.1 hj;exact(List.getElem_inj h).1 (e1.trans e2.symm)
def jG.set{H}{tb w i b}{B}{t}(T:jG H tb B t w)(hi:B[i]?=aa b){r}(hr:r.length=w):jG (H.put b (r.map im)) tb B (t.set i r) w:=by
 have dG:=(aQ.1 hi).1;have yf:=ez hi;refine⟨?_,by rw[nE];exact T.len,T.nd,λj b' r' hj fN=>?_,λr' fN=>?_,T.out⟩
 ·rw[cP (λe=>T.out (by rw[e];exact yf))];exact T.hY
 ·by_cases NR:j=i
  ·subst NR;rw[hi] at hj;injection hj with hj;subst hj;rw[Ln (by rw[<-T.len];exact dG)] at fN;injection fN with fN;subst fN;have jK:j<t.length:=(by rw[<-T.len];exact dG);exact ey (aQ.1 (T.row j b _ hi (a9 jK))).1
  ·have bE:b'≠b:=λe=>NR (WI T.nd (by rw[<-e];exact hj) hi);rw[cP bE];rw[List.getElem?_set_ne (λe=>NR e.symm)] at fN;exact T.row j b' r' hj fN
 ·rcases vU fN with q|q
  ·exact T.wid r' q
  ·rw[q];exact hr
def jG.mono{H H'}{tb w}{B}{t}(T:jG H tb B t w)(m:∀(c:Nat) cs,H.boxes[c]?=aa cs->H'.boxes[c]?=aa cs):jG H' tb B t w:=
 ⟨m _ _ T.hY,T.len,T.nd,λi b r hi hr=>m _ _ (T.row i b r hi hr),T.wid,T.out⟩
def mH(n:Int)(a own:List Int)(c k:Nat):List Int:=(bL a.length).map λj=>if c<=j/\j<k then om n (al a j) (al own j) else al a j
def ua{n}{a own}{c k}:(mH n a own c k).length=a.length:=by unfold mH;simp
def FG{n}{a own}{c k j}(hj:j<a.length):al (mH n a own c k) j=if c<=j/\j<k then om n (al a j) (al own j) else al a j:=by rw[fx (by rw[ua];exact hj)];unfold mH;rw[pg,AJ]
def aey{n}{a own}{c}:mH n a own c c=a:=by refine yE ua λj hj=>?_;rw[ua] at hj;rw[FG hj,aG ah]
def aex{n}{a own}{c k}(hc:c<=k)(hk:k<a.length):(mH n a own c k).set k (om n (al a k) (al own k))=mH n a own c (k+1):=by
 refine yE (by rw[nE,ua,ua]) λj hj=>?_;rw[nE,ua] at hj;rw[IF (by rw[ua];exact hk),FG hj,FG hj];by_cases zQ:j=k
 ·subst zQ;rw[aD rfl,aD ah]
 ·rw[aG zQ];by_cases q:c<=j/\j<k
  ·rw[aD q,aD ah]
  ·rw[aG q,aG ah]
def aew{n}{a own}{c}(hl:a.length=own.length)(hc:c<=a.length):mH n a own c a.length=a.take c++lF n (a.drop c) (own.drop c):=by
 have hd:(a.drop c).length=(own.drop c).length:=by simp[hl]
 refine yE (by rw[ua,du,Ag hd,fb,gE];omega) λj hj=>?_;rw[ua] at hj;rw[FG hj,C6 hc];by_cases q:j<c
 ·rw[aG ah,aD q]
 ·rw[aD ah,aG q,xR hd (by rw[gE];omega),IE,IE,(ah:c+(j - c)=j)]
def wY{r}{k}(hk:k<r.length):(r.map im)[k]?=aa (im (al r k)):=by rw[eR,a9 hk,fx hk];rfl
def Ez{H}{b k}{r:List Int}{x}(hb:H.boxes[b]?=aa (r.map im))(hk:k<r.length):b8 aj H 3 (.ptr (.box b) k) (.v (.int .i64 x))=aa (H.put b ((r.set k x).map im)):=by rw[fw (xs:=[im x]) rfl iQ hb rfl (by rw[bJ];exact hk)];congr 2;unfold eK;rw[aax,AO,aD (by rw[bJ];exact hk)];simp
def Ck{x}(h:okF x):0<=x/\x<=9223372036854775807:=by obtain⟨h1,h2⟩:=h;have:Qi=1073741789:=rfl;omega
def adU(h:ao)(tb:Nat)(B:List Nat)(t:List (List Int))(w i y c:Nat)(a own:List Int)(T:jG h tb B t w)(hi:t[i]?=aa a)(hy:t[y]?=aa own)(bE:i≠y)(hc:c<w)(hw:w<=1000000)(bD:∀r∈t,∀x∈r,okF x):
 ∃h',W2.call 203 [.arr tb 0 B.length B.length,im (i:Nat),im (y:Nat),im (c:Nat)] h=aa (.ret (.tuple []),h')/\jG h' tb B (t.set i (uT c a own)) w/\∀n0,fT B n0 h h':=by
 have dG:=(aQ.1 hi).1;have yo:=(aQ.1 hy).1;obtain⟨bi,ug⟩:∃b,B[i]?=aa b:=⟨_,a9 (by rw[T.len];exact dG)⟩;obtain⟨bY,zI⟩:∃b,B[y]?=aa b:=⟨_,a9 (by rw[T.len];exact yo)⟩;have ra:=T.row i bi a ug hi;have ro:=T.row y bY own zI hy;have wa:=T.wid a (ez hi);have wo:=T.wid own (ez hy);have vg:bi≠bY:=λe=>bE (WI T.nd (by rw[e] at ug;exact ug) zI);have wM:=(aQ.1 T.hY).1;have arF:=(aQ.1 ra).1;have arI:=(aQ.1 ro).1;have ahz:tb≠bi:=λe=>T.out (by rw[e];exact ez ug);have UW:(B.map λb=>AV.arr b 0 w w)[i]?=aa (.arr bi 0 w w):=by rw[eR,ug];rfl
 have hdy:(B.map λb=>AV.arr b 0 w w)[y]?=aa (.arr bY 0 w w):=by rw[eR,zI];rfl
 have oka:=bD a (ez hi);have oko:=bD own (ez hy);have NL:i<B.length:=by rw[T.len];exact dG
 have hyB:y<B.length:=by rw[T.len];exact yo
 have z3:=K3;have bx1:∀b n m:Nat,(AV.arr b 0 n m).bU=aa [.arr b 0 n m]:=λ_ _ _=>rfl;have bx2:∀n:Int,(AV.v (.int .i64 n)).bU=aa [.v (.int .i64 n)]:=λ_=>rfl;have ixi:=D0 (b:=tb) (len:=B.length) (aA:=B.length) (k:=.i64) NL;have ixy:=D0 (b:=tb) (len:=B.length) (aA:=B.length) (k:=.i64) hyB;have ixc:=ur (b:=bi) (len:=w) (aA:=w) (k:=.i64) hc;have n0:=Ck (qE oka c);have unf:uT c a own=if al a c=0 then a else mH (al a c) a own c w:=by unfold uT;rw[<-wa,aew ah ah]
 rw[unf];clear unf;generalize hn:al a c=n at *
 have zH:∀(z:AV) (cs ds:List AV),((h.push cs).push ds).boxes[tb]?=aa (B.map λb=>AV.arr b 0 w w)/\((h.push cs).push ds).boxes[bi]?=aa (a.map im):=λz cs ds=>⟨aZ (aZ T.hY),aZ (aZ ra)⟩;generalize il:(h.push [.arr tb 0 B.length B.length]).push [im (i:Nat)]=H2;have l1:∀cs,aF aj Gt (H2.push cs) 203 (.ptr (.box h.boxes.length) 0)=aa (.arr tb 0 B.length B.length):=λcs=>wW (by rw[<-il];exact aZ (aZ (bp _ _)));have l1':aF aj Gt H2 203 (.ptr (.box h.boxes.length) 0)=aa (.arr tb 0 B.length B.length):=wW (by rw[<-il];exact aZ (bp _ _));have l2:aF aj Gt H2 3 (.ptr (.box (h.boxes.length+1)) 0)=aa (.v (.int .i64 (i:Nat))):=lX (by rw[<-il];exact ng (by rw[cH]));have l3:aF aj Gt H2 23 (.ptr (.box tb) i)=aa (.arr bi 0 w w):=vu (by rw[<-il];exact aZ (aZ T.hY)) UW;have l4:aF aj Gt H2 3 (.ptr (.box bi) c)=aa (.v (.int .i64 n)):=by have:=yy (k:=c) (x:=im (al a c)) (show H2.boxes[bi]?=aa (a.map im) by rw[<-il];exact aZ (aZ ra)) (wY ah);rw[hn] at this;exact this
 have l5:aF aj Gt (H2.push [.v (.int .i64 n)]) 3 (.ptr (.box H2.boxes.length) 0)=aa (.v (.int .i64 n)):=lX (bp _ _);have s5:b8 aj (H2.push [im 0]) 3 (.ptr (.box H2.boxes.length) 0) (.v (.int .i64 n))=aa (H2.push [.v (.int .i64 n)]):=jt rfl iQ rfl rfl;have l6:∀cs,aF aj Gt (H2.push cs) 23 (.ptr (.box tb) y)=aa (.arr bY 0 w w):=λcs=>vu (by rw[<-il];exact aZ (aZ (aZ T.hY))) hdy;have kH2l:aq (H2.boxes.length=h.boxes.length+2):=⟨by rw[<-il,cH,cH]⟩;have kM2:aq (∀n0,fT B n0 h H2):=⟨λn0=>by rw[<-il];exact(fT.refl.push _).push _⟩;have kT2:aq (jG H2 tb B t w):=⟨T.mono λcc cs q=>by rw[<-il];exact aZ (aZ q)⟩;have e0:(h.push [AV.arr tb 0 B.length B.length]).push [.v (.int .i64 (i:Nat))]=H2:=il;have kL2:aq (H2.loops=h.loops):=⟨by rw[<-il];rfl⟩;have kb0:aq (H2.boxes[h.boxes.length]?=aa [.arr tb 0 B.length B.length]):=⟨by rw[<-il];exact aZ (bp _ _)⟩;have kb1:aq (H2.boxes[h.boxes.length+1]?=aa [im (i:Nat)]):=⟨by rw[<-il];exact ng (by rw[cH])⟩;have e1:(h.push [AV.arr tb 0 B.length B.length]).boxes.length=h.boxes.length+1:=cH _ _;have kT:=aq.mk T;have ko:=aq.mk (ax oka oko);clear zH wM T ra ro bD oka oko il;unfold im at *
 refine ij rfl Tryz.func203 rfl ?_;by_cases hz:n=0
 ·subst hz;rw[aD rfl];refine cq @P2 @bK ?_;exact⟨_,rfl,by
   have e:t.set i a=t:=by
    apply List.ext_getElem?;intro j;rw[mU];split
    ·rename_i q;subst q;exact hi.symm
    ·rfl
   rw[e];exact kT2.out.mono λcc cs q=>aZ q,λn0=>(kM2.out n0).push _⟩
 ·rw[aG hz];have af:=R7 bY w c (H2.push [.v (.int .i64 n)]);unfold im at af;refine cq @P2 @bK ?_;refine bM.gen λe he hd hp mM=>?_;have g4:e.get 4=.ptr (.box h.boxes.length) 0:=by rw[he];exact gS
  have g5:e.get 5=.ptr (.box (h.boxes.length+1)) 0:=by rw[he];exact gS
  have g8:e.get 8=.ptr (.box H2.boxes.length) 0:=by rw[he];exact gS
  have g25:e.get 25=.func (.func 219) [] [.ptr (.box (H2.boxes.length+1+1)) 0,.ptr (.box (H2.boxes.length+1)) 0]:=by rw[he];simp only[gW,reduceIte,aY,aR];simp only[cH]
  have hdf:e.defers=[]:=by rw[hd];exact gS
  clear he hd hp mM;refine Ct (by rw[zw];exact g25) λrec w1 w2 w3 w4 w5 w6=>?_;have hkk:=kH2l.out;have UA:=kT2.out;have bD:=ko.out;have Ux:∀n0,fT B n0 h (((H2.push [.v (.int .i64 n)]).push [.arr bY 0 w w]).push [.v (.int .i64 c)]):=λn0=>(((kM2.out n0).push _).push _).push _;have FV:jG (((H2.push [.v (.int .i64 n)]).push [.arr bY 0 w w]).push [.v (.int .i64 c)]) tb B t w:=UA.mono λcc cs q=>aZ (aZ (aZ q));have p0:(((H2.push [.v (.int .i64 n)]).push [.arr bY 0 w w]).push [.v (.int .i64 c)]).boxes[H2.boxes.length]?=aa [.v (.int .i64 n)]:=aZ (aZ (bp _ _));have p1:(((H2.push [.v (.int .i64 n)]).push [.arr bY 0 w w]).push [.v (.int .i64 c)]).boxes[H2.boxes.length+1]?=aa [.arr bY 0 w w]:=aZ (ng (by rw[cH]));have p2:(((H2.push [.v (.int .i64 n)]).push [.arr bY 0 w w]).push [.v (.int .i64 c)]).boxes[H2.boxes.length+1+1]?=aa [.v (.int .i64 c)]:=ng (by rw[cH,cH]);have p3:(((H2.push [.v (.int .i64 n)]).push [.arr bY 0 w w]).push [.v (.int .i64 c)]).boxes[h.boxes.length]?=aa [.arr tb 0 B.length B.length]:=aZ (aZ (aZ kb0.out));have p4:(((H2.push [.v (.int .i64 n)]).push [.arr bY 0 w w]).push [.v (.int .i64 c)]).boxes[h.boxes.length+1]?=aa [.v (.int .i64 i)]:=aZ (aZ (aZ kb1.out));have pL:(((H2.push [.v (.int .i64 n)]).push [.arr bY 0 w w]).push [.v (.int .i64 c)]).loops=h.loops:=kL2.out;generalize ((H2.push [.v (.int .i64 n)]).push [.arr bY 0 w w]).push [.v (.int .i64 c)]=H3 at *
  have Uw:H3.loops.length=h.loops.length:=congrArg List.length pL;rw[Uw];clear pL;clear l1 l1' l2 l3 l4 l5 s5 l6 e0 e1 af UA kb0 kb1;have dU:=FV.row i bi a ug hi;have Ok:=FV.row y bY own zI hy;have jr:=(aQ.1 dU).1;have BW:=(aQ.1 (kT.out.hY)).1;have arH:=(aQ.1 (kT.out.row i bi a ug hi)).1;have gv:(H3.loop rec).loops[h.loops.length]?=aa rec:=by rw[<-Uw];exact @Ch H3 rec
  have I1:∀(k:Nat) (H:ao),H=(H3.loop rec).put bi ((mH n a own c k).map im)->H.boxes[H2.boxes.length+1+1]?=aa [im (c:Nat)]/\H.boxes[H2.boxes.length+1]?=aa [.arr bY 0 w w]/\(k<w->∃cs,H.boxes[bY]?=aa cs/\cs[k]?=aa (im (al own k))):=by
   rintro k H rfl;refine⟨?_,?_,λhk=>⟨_,?_,wY ah⟩⟩
   ·rw[cP ah];exact p2
   ·rw[cP ah];exact p1
   ·rw[cP (Ne.symm vg)];exact Ok
  have I2:∀(k:Nat) (H:ao),c<=k->k<w->H=(H3.loop rec).put bi ((mH n a own c k).map im)->∃H',W2.round h.loops.length [im (k:Nat),im (al own k)] H=aa (.ret (.v (.bool ai)),H')/\H'=(H3.loop rec).put bi ((mH n a own c (k+1)).map im):=by
   rintro k H zR zS rfl;refine Hg (Post:=λH=>H=(H3.loop rec).put bi ((mH n a own c (k+1)).map im)) gv (by rw[w2];rfl) w5 w6 ?_;have kq:=aex (n:=n) (own:=own) zR (ah:k<a.length);have cat:al (mH n a own c k) k=al a k:=(by rw[FG ah,aG ah]);have r1:∀t,(mT h.loops.length rec [im (k:Nat),im (al own k)]).get t=if 27=t then im (al own k) else if 26=t then im (k:Nat) else e.get t:=λt=>Hd w2 w1
   have d1:(mT h.loops.length rec [im (k:Nat),im (al own k)]).defers=[]:=rfl;obtain⟨K,hK⟩:∃K,((H3.loop rec).put bi ((mH n a own c k).map im)).busy h.loops.length rec=K:=⟨_,rfl⟩;rw[hK];have b1:K.boxes[bi]?=aa ((mH n a own c k).map im):=(by rw[<-hK];exact ey jr);have b2:K.boxes[h.boxes.length]?=aa [.arr tb 0 B.length B.length]:=(by rw[<-hK];exact(cP ah).trans p3);have b3:K.boxes[h.boxes.length+1]?=aa [im (i:Nat)]:=(by rw[<-hK];exact(cP ah).trans p4);have b4:K.boxes[H2.boxes.length]?=aa [im n]:=(by rw[<-hK];exact(cP ah).trans p0);have b5:K.boxes[tb]?=aa (B.map λb=>AV.arr b 0 w w):=(by rw[<-hK];exact(cP ahz).trans FV.hY);have m1:=yy b1 (wY (r:=mH n a own c k) (k:=k) (by rw[ua];omega));rw[cat] at m1;have m2:=wW b2;have m3:=lX b3;have m4:=lX b4;have m5:=vu b5 UW;have D1:=ur (b:=bi) (len:=w) (aA:=w) (k:=.i64) zS;have sk:=Ez (r:=mH n a own c k) (k:=k) (x:=om n (al a k) (al own k)) b1 (by rw[ua];omega);rw[kq] at sk;have vB:=Ck (qE bD.1 k);have ok2:=Ck (qE bD.2 k);have f1:=λh=>O7 n (al own k) h;have f2:=λh=>R5 (al a k) (0 - db n (al own k)) h;have f3:=Ck (I9 n (al own k));have fl:om n (al a k) (al own k)=cS (al a k) (0 - db n (al own k)):=(by rw[Int.zero_sub];rfl);rw[fl] at sk;generalize db n (al own k)=z at *
   generalize al a k=z1 at *
   generalize al own k=z2 at *
   clear hkk g25 dU Ok p0 p1 p2 p3 p4 kH2l kM2 kT2 kT ko cat Ux FV b1 b2 b3 b4 b5 kq fl bD;unfold im at *
   rw[w3,w4];refine xY ?_;refine⟨aT,aT,?_⟩;refine bM.gen λe2 jf jJ nM DO=>?_;have q4:e2.get 4=.ptr (.box h.boxes.length) 0:=(by rw[jf];simp only[gW,reduceIte,aY,aR,r1];exact g4);have q5:e2.get 5=.ptr (.box (h.boxes.length+1)) 0:=(by rw[jf];simp only[gW,reduceIte,aY,aR,r1];exact g5);have q8:e2.get 8=.ptr (.box H2.boxes.length) 0:=(by rw[jf];simp only[gW,reduceIte,aY,aR,r1];exact g8);have q9:e2.get 9=.v (.int .i64 k):=(by rw[jf];simp only[gW,reduceIte,aY,aR,r1]);have q10:e2.get 10=.v (.int .i64 z2):=(by rw[jf];simp only[gW,reduceIte,aY,aR,r1]);clear jf jJ nM DO r1 d1
   repeat' (first|simp(maxSteps:=999999)(disch:=first|exact dZ|fail)only[gW,reduceIte,aY,aR, *]|(refine dX ?_ ?_<;>(intro _;try omega))|refine fQ zh aw ?_)
   rw[<-hK];simp only[ao.put,ao.busy,ao.loop,CQ];exact⟨aT,aT,aT⟩
  obtain⟨h',c1,c2⟩:=R8 h.loops.length (H2.boxes.length+1+1) (H2.boxes.length+1) bY w c own (λk H=>H=(H3.loop rec).put bi ((mH n a own c k).map im)) I1 I2 ah hw ((H3.loop rec).put bi ((mH n a own c c).map im)) rfl;have e3:H3.loop rec=(H3.loop rec).put bi ((mH n a own c c).map im):=by rw[aey];exact(nt (h:=H3.loop rec) dU).symm
  rw[<-e3] at c1;subst c2;clear e3;refine⟨_,_,c1,rec,gv,by rw[w5];decide,.inl ⟨w6,?_⟩⟩;clear c1 w1 w2 w3 w4 w5 w6 gv dU Ok p0 p1 p2 p3 p4 kH2l kM2 kT2 kT ko;refine bR @P2 ?_;refine⟨_,rfl,?_,λn0=>(((Ux n0).Ai _).trans (.put (ez ug) _)).eH (aJ _) _⟩;have T5:=jG.set (H:=H3.loop rec) (FV.mono λ_ _ q=>q) ug (r:=mH n a own c w) (by rw[ua];exact wa);exact T5.mono λ_ _ q=>q
structure GM(S:List Nat)(n0:Nat)(h h':ao)(t:Tok):Prop where
 mu:fT S n0 h h'
 can:dQ n0 h' t
 ok:dj h'=ai
section
variable {S S':List Nat} {n0:Nat} {h h' h2:ao} {t k:Tok}
def adC(m:∀n,fT S n h h')(c:dQ n0 h t):dQ n0 h' t:=by
 rcases c with q|q|⟨i,q,q1,q2⟩
 ·exact .inl q
 ·exact .inr (.inl q)
 ·refine .inr (.inr ⟨i,q,q1,?_⟩);have az:=uP q2;unfold alive at *
  simp only[bA,yP,Ie,decide_eq_false_iff_not,decide_eq_true_eq] at *
  exact⟨Nat.lt_of_lt_of_le az (m 0).tn,λhd=>q2.2 ((m (i+1)).dead i (Nat.lt_succ_self _) hd)⟩
def GM.then(g:GM S n0 h h' t)(m:∀n,fT S n h' h2):GM S n0 h h2 t:=⟨g.mu.trans (m n0),adC m g.can,(m 0).ok g.ok⟩
def GM.app(g:GM S n0 h h' t)(hn:n0<=h.tn):GM S n0 h (h'.app t) (.free h'.tn):=by have G:=Grown.one (n0:=n0) g.can g.ok (fc hn g.mu.tn);exact⟨g.mu.trans G.O9,G.can,G.ok⟩
def GM.refl(hk:dQ n0 h t)(ho:dj h=ai):GM S n0 h h t:=⟨.refl,hk,ho⟩
end
def uB:Tryz.f180.results.toList=[.tmp 4]:=aw
def jG.swap{H}{tb w i j bi bj}{B}{t}{a b}(T:jG H tb B t w)(hi:B[i]?=aa bi)(hj:B[j]?=aa bj)(ha:t[i]?=aa a)(hb:t[j]?=aa b):
 jG (H.put tb (((B.set i bj).set j bi).map λb=>AV.arr b 0 w w)) tb ((B.set i bj).set j bi) ((t.set i b).set j a) w:=by
 have dG:=(aQ.1 hi).1;have oW:=(aQ.1 hj).1;have az:=(aQ.1 T.hY).1;have VA:((B.set i bj).set j bi).Perm B:=by
  have q:=aaF dG oW
  rwa [show B[j]=bj from(aQ.1 hj).2,show B[i]=bi from(aQ.1 hi).2] at q
 have wQ:∀x,x∈(B.set i bj).set j bi->x∈B:=λx hx=>VA.mem_iff.1 hx;refine⟨ey az,by simp[T.len],(VA.nodup_iff).2 T.nd,λk b' r hk hr=>?_,λr hr=>?_,λhx=>T.out (wQ _ hx)⟩
 ·have bE:b'≠tb:=λe=>T.out (wQ _ (by rw[<-e];exact ez hk));rw[cP bE];rw[mU] at hk hr;rw[nE] at hk hr;by_cases e1:j=k
  ·subst e1;rw[aD rfl,aD oW] at hk;rw[aD rfl,aD (by rw[<-T.len];exact oW)] at hr;injection hk with hk;injection hr with hr;subst hk;subst hr;exact T.row i _ _ hi ha
  ·rw[aG e1] at hk hr;rw[mU] at hk hr;by_cases e2:i=k
   ·subst e2;rw[aD rfl,aD dG] at hk;rw[aD rfl,aD (by rw[<-T.len];exact dG)] at hr;injection hk with hk;injection hr with hr;subst hk;subst hr;exact T.row j _ _ hj hb
   ·rw[aG e2] at hk hr;exact T.row k _ _ hk hr
 ·rcases vU hr with q|q
  ·rcases vU q with q|q
   ·exact T.wid r q
   ·rw[q];exact T.wid _ (ez hb)
  ·rw[q];exact T.wid _ (ez ha)
def rC(x):gN aj 23 1 [(0,.v (.int .i64 x))]=aa (.list .tight 1 [[.v (.int .i64 x)]]):=aw
def y7{H}{k}{n0 sz}{es}{x}(hl:es.length<1099511627776)(hs:sz=1∨(es=[]/\k=.nil))(hk:dQ n0 H k):
 gd aj H #[23,23] (.list k sz (ints es)) (.list .tight 1 [[.v (.int .i64 x)]])=aa (.list (.free H.tn) 1 (ints (es++[x])),H.app k):=by
 obtain⟨i,q1,q2,q3,q4⟩:=Ca;have hb:=ry (ah:es.length+1<=1099511627776) q3;have:=Fq (t0:=23) (t1:=23) (n0:=n0) (i:=i) (sz:=sz) (es:=ints es) (new:=ints [x]) (x:=.list .tight 1 (ints [x])) eY (.inl ⟨_,eY⟩) q1 ah (by rw[q2];exact q4) (by rw[q2];rfl) (by simp[ints])
  (by simp only[ints,bJ,iJ,jP,nZ];omega) (by simp only[ints,bJ,iJ,jP];omega) (hs.imp (λq=>q.trans q2.symm) λq=>⟨by rw[q.1];rfl,q.2⟩) hk
 rw[q2] at this;unfold ints at *
 rw[oM];exact this
def YJ{H}{b k x w}{B:List Nat}(hb:H.boxes[b]?=aa (B.map λb=>AV.arr b 0 w w))(hk:k<B.length):b8 aj H 23 (.ptr (.box b) k) (.arr x 0 w w)=aa (H.put b ((B.set k x).map λb=>AV.arr b 0 w w)):=by rw[fw (xs:=[AV.arr x 0 w w]) rfl jN hb rfl (by rw[bJ];exact hk)];congr 2;unfold eK;rw[aax,AO,aD (by rw[bJ];exact hk)];simp
def aio{n}{a b}:∀x∈lF n a b,okF x:=by intro x hx;unfold lF at hx;obtain⟨i,hi,rfl⟩:=aaq hx;rw[List.getElem_zipWith];exact Dn _
def adT{c}{a own}(h:∀x∈a,okF x):∀x∈uT c a own,okF x:=by
 intro x hx;unfold uT at hx;split at hx
 ·exact h x hx
 ·rcases xF.1 hx with q|q
  ·exact h x (pS q)
  ·exact aio x q
def aor{c}{a}{n}(h:∀x∈a,okF x):∀x∈gU c a n,okF x:=by
 intro x hx;unfold gU at hx;rcases xF.1 hx with q|q
 ·exact h x (pS q)
 ·obtain⟨y,-,rfl⟩:=jE.1 q;exact I9 _ _
def adW{c r j}{own}{t}(h:∀a∈t,∀x∈a,okF x):∀a∈pT c own r j t,∀x∈a,okF x:=by
 intro a ha;obtain⟨i,hi⟩:=vT ha;rw[wq] at hi;cases q:t[i]? with
 |none=>rw[q] at hi;cases hi
 |some y=>
  rw[q,Option.map_some] at hi;injection hi with hi;have hy:=h y (ez q);rw[<-hi];split
  ·exact adT hy
  ·exact hy
def Yo{c}{a}{n}(hc:c<=a.length):(gU c a n).length=a.length:=by unfold gU;rw[du,bJ,fb,gE];omega
def dg(pv:List Nat):List Int:=pv.map λ(p:Nat)=>(p:Int)
def rh(t:List (List Int))(c:Nat):List (List Int) × List Nat:=(bL c).foldl xo (t,[])
def XA(t)(c):rh t (c+1)=xo (rh t c) c:=by unfold rh;rw[oN,oL];rfl
def Xz{t}{w}(hl:∀a∈t,a.length=w)(ho:∀a∈t,∀x∈a,okF x):∀c,c<=w->xK w c (rh t c)/\(rh t c).1.length=t.length/\(rh t c).2.length<=t.length:=by
 intro c
 induction c with
 |zero=>exactλ_=>⟨⟨hl,ho,λ_ _ _ _ j hj=>by omega⟩,rfl,df _⟩|succ c ih=>
  intro hc;obtain⟨i1,i2,i3⟩:=ih ah;rw[XA];refine⟨by rw[YS i1 ah];exact QC i1 ah,?_⟩;unfold xo;cases hf:qI (rh t c).1 (rh t c).2.length c with|none=>exact⟨i2,i3⟩|some k=>obtain⟨k1,k2,k3⟩:=Dl hf;refine⟨by simp[i2],?_⟩;simp only[du,iJ,jP];omega
def OG(pv):(ints (dg pv)).length=pv.length:=by unfold ints dg;simp
def Xy(t)(many):Ek t many=rh t many:=rfl
def ak8(h:ao)(tb:Nat)(B:List Nat)(t:List (List Int))(w many:Nat)(T:jG h tb B t w)(hm:many<=w)(hw:w<=1000000)(hn:t.length<=1000000)(bD:∀r∈t,∀x∈r,okF x)(ho:dj h=ai):
 ∃r h',W2.call 180 [.arr tb 0 t.length t.length,im (many:Nat)] h=aa (r,h')/\∃(k:Tok) (s:Nat) (B':List Nat),r=.ret (.list k s (ints (dg (Ek t many).2)))/\(s=1∨(dg (Ek t many).2=[]/\k=.nil))/\jG h' tb B' (Ek t many).1 w/\B'.Perm B/\GM (tb::B) h.tn h h' k:=by
 have kT:=aq.mk T;have kok:=aq.mk bD;have kBl:aq (∀b∈B,b<h.boxes.length):=⟨λb hb=>by obtain⟨i,hi⟩:=vT hb;have dG:=(aQ.1 hi).1;exact(aQ.1 (T.row i b _ hi (a9 (by rw[<-T.len];exact dG)))).1⟩;have z3:=K3;have bx1:∀b n m:Nat,(AV.arr b 0 n m).bU=aa [.arr b 0 n m]:=λ_ _ _=>rfl;have bx2:∀n:Int,(AV.v (.int .i64 n)).bU=aa [.v (.int .i64 n)]:=λ_=>rfl;have g0:GM (tb::B) h.tn h (h.push [.arr tb 0 t.length t.length]) .nil:=⟨fT.refl.push _,.inl rfl,ho⟩;have T0:jG (h.push [.arr tb 0 t.length t.length]) tb B t w:=T.mono λ_ _ q=>aZ q;have p0:(h.push [.arr tb 0 t.length t.length]).boxes[h.boxes.length]?=aa [.arr tb 0 t.length t.length]:=bp _ _;have r0:xK w 0 (rh t 0):=⟨T.wid,bD,λ_ _ _ _ _ q=>absurd q (sO _)⟩;have kk:=aq.mk (ax g0 (ax T0 (ax p0 r0)));clear g0 T0 p0 r0 T bD ho;unfold im at *
 refine ec rfl Tryz.func180 rfl ?_;refine cq @uB @bK ?_;refine bM.gen λe0 aV cY eV eO=>?_;have q2:e0.get 2=.ptr (.box h.boxes.length) 0:=by rw[aV];exact gS
 have q4:e0.get 4=.list .nil 0 (ints (dg [])):=by rw[aV];exact gR
 have q13:e0.get 13=.v (.int .i64 (many:Nat)):=by rw[aV];exact gS
 have q14:e0.get 14=.v (.int .i64 (0:Nat)):=by rw[aV];exact gR
 have qd:e0.defers=[]:=by rw[cY];exact gS
 clear aV cY eV eO;refine de (λm e H=>∃(c:Nat) (B':List Nat) (k:Tok) (s:Nat),c<=many/\m=many - c/\jG H tb B' (rh t c).1 w/\B'.Perm B/\H.boxes[h.boxes.length]?=aa [.arr tb 0 t.length t.length]/\e.get 2=.ptr (.box h.boxes.length) 0/\e.get 4=.list k s (ints (dg (rh t c).2))/\(s=1∨(dg (rh t c).2=[]/\k=.nil))/\e.get 13=.v (.int .i64 (many:Nat))/\e.get 14=.v (.int .i64 (c:Nat))/\e.defers=[]/\GM (tb::B) h.tn h H k) ?_ many _ _ ?_;rotate_left 1
 ·exact⟨0,B,.nil,0,df _,rfl,kk.out.2.1,.refl _,kk.out.2.2.1,q2,q4,.inr ⟨rfl,rfl⟩,q13,q14,qd,kk.out.1⟩
 clear kk q2 q4 q13 q14 qd;rintro m e H ⟨c,B',tk,s,hc,rfl,T',hP,fG,g2,g4,hs,g13,g14,hd,hG⟩;have kT':=aq.mk T';have kP:=aq.mk hP;have ks:=aq.mk hs;have kG:=aq.mk hG;obtain⟨R,i2,i3⟩:=Xz kT.out.wid kok.out c ah;have kR:=aq.mk R;clear T' hP hG R;by_cases az:c<many;rotate_left 1
 ·have:c=many:=by omega
  subst this;clear fG i2 i3 hs;refine bR @uB ?_;refine⟨_,_,rfl,tk,s,B',?_⟩;rw[Xy];exact⟨rfl,ks.out,kT'.out,kP.out,kG.out⟩
 have rS:=XA t c;generalize cd:rh t c=st at *
 obtain⟨t',pv⟩:=st;dsimp only at *
 have ej:=OG pv;have u23:=eY;have u203:=Fh;have s0:∀n,b8 aj (H.push [.v (.int .i64 0)]) 3 (.ptr (.box H.boxes.length) 0) (.v (.int .i64 n))=aa (H.push [.v (.int .i64 n)]):=λn=>jt rfl iQ rfl rfl;have l0:∀n,aF aj Gt (H.push [.v (.int .i64 n)]) 3 (.ptr (.box H.boxes.length) 0)=aa (.v (.int .i64 n)):=λn=>lX (bp _ _);refine cq @uB @bK ?_;refine bM.gen λe0 aV cY eV eO=>?_;have f2:e0.get 2=.ptr (.box h.boxes.length) 0:=by rw[aV];simp only[gW,reduceIte,aY,aR,g2]
 have f4:e0.get 4=.list tk s (ints (dg pv)):=by rw[aV];simp only[gW,reduceIte,aY,aR,g4]
 have f5:e0.get 5=.v (.int .i64 (c:Nat)):=by rw[aV];simp only[gW,reduceIte,aY,aR,g14]
 have f6:e0.get 6=.ptr (.box H.boxes.length) 0:=by rw[aV];exact gS
 have f7:e0.get 7=.v (.int .i64 (pv.length:Nat)):=by rw[aV];exact gS
 have f13:e0.get 13=.v (.int .i64 (many:Nat)):=by rw[aV];simp only[gW,reduceIte,aY,aR,g13]
 have f14:e0.get 14=.v (.int .i64 (c:Nat)):=by rw[aV];simp only[gW,reduceIte,aY,aR,g14]
 have fd:e0.defers=[]:=by rw[cY];simp only[gW,reduceIte,aY,aR];exact hd
 clear aV cY eV eO g2 g4 g13 g14 hd;have T2:jG (H.push [.v (.int .i64 (pv.length:Nat))]) tb B' t' w:=kT'.out.mono λ_ _ q=>aZ q;have G2:GM (tb::B) h.tn h (H.push [.v (.int .i64 (pv.length:Nat))]) tk:=kG.out.then λ_=>fT.refl.push _;have b2:(H.push [.v (.int .i64 (pv.length:Nat))]).boxes[h.boxes.length]?=aa [.arr tb 0 t.length t.length]:=aZ fG;have b3:(H.push [.v (.int .i64 (pv.length:Nat))]).boxes[H.boxes.length]?=aa [.v (.int .i64 (pv.length:Nat))]:=bp _ _;have vd:(H.push [.v (.int .i64 (pv.length:Nat))]).boxes.length=H.boxes.length+1:=cH _ _;have hhl:h.boxes.length<H.boxes.length:=(aQ.1 fG).1;generalize H.push [.v (.int .i64 (pv.length:Nat))]=H2 at *
 clear kT' kG s0 l0 fG;have kT2:=aq.mk T2;have kG2:=aq.mk G2;have kl:=aq.mk vd;have l2:=wW b2;have l3:=lX b3;have kb2:=aq.mk b2;have kb3:=aq.mk b3;clear T2 G2 vd b2 b3;generalize hHn:H.boxes.length=hl at *
 clear hHn;refine de (λm e H3=>∃j:Nat,pv.length<=j/\j<=t.length/\m=t.length - j/\aq (∀k,pv.length<=k->k<j->al (t'.getD k []) c=0)/\e.get 2=.ptr (.box h.boxes.length) 0/\e.get 4=.list tk s (ints (dg pv))/\e.get 5=.v (.int .i64 (c:Nat))/\e.get 6=.ptr (.box hl) 0/\e.get 7=.v (.int .i64 (j:Nat))/\e.get 13=.v (.int .i64 (many:Nat))/\e.get 14=.v (.int .i64 (c:Nat))/\e.defers=[]/\H3=H2) ?_ (t.length - pv.length) _ _ ?_;rotate_left 1
 ·exact⟨pv.length,aJ _,i3,rfl,⟨λk h1 h2=>absurd h1 ah⟩,f2,f4,f5,f6,f7,f13,f14,fd,rfl⟩
 clear f2 f4 f5 f6 f7 f13 f14 fd;rintro m e3 H2 ⟨j,U7,U8,rfl,kz,g2,g4,g5,g6,g7,g13,g14,hd,rfl⟩;by_cases oW:j<t.length;rotate_left 1
 ·have tC:j=t.length:=by omega
  subst tC;have Bu:=TH (t:=t') (c:=c) U7 ah kz.out (λq=>absurd q ah);rw[aD ah] at Bu;have cd:rh t (c+1)=(t',pv):=by rw[rS];unfold xo;simp only[Bu]
  have khst:=aq.mk cd;clear Bu cd rS;refine bR @uB ?_;refine⟨many - (c+1),by omega,c+1,B',tk,s,by omega,rfl,?_⟩;rw[khst.out];exact⟨kT2.out,kP.out,kb2.out,aT,rfl,ks.out,aT,by simp,aT,kG2.out⟩
 obtain⟨b,hb⟩:∃b,t'[j]?=aa b:=⟨_,a9 ah⟩;obtain⟨bj,vh⟩:∃b,B'[j]?=aa b:=⟨_,a9 (by rw[kT2.out.len];omega)⟩;have wb:=kT2.out.wid b (ez hb);have dU:=kT2.out.row j bj b vh hb;have ixj:=D0 (b:=tb) (len:=t.length) (aA:=t.length) (k:=.i64) oW;have ixc:=ur (b:=bj) (len:=w) (aA:=w) (k:=.i64) (ah:c<w);have wL:(B'.map λb=>AV.arr b 0 w w)[j]?=aa (.arr bj 0 w w):=by rw[eR,vh];rfl
 have m1:=vu kT2.out.hY wL;have m2:=yy dU (wY (k:=c) ah);have gDj:t'.getD j []=b:=by rw[eQ,hb];rfl
 have khr:=aq.mk dU;clear dU;by_cases hzero:al b c=0
 ·have fO:∀k,pv.length<=k->k<j+1->al (t'.getD k []) c=0:=by
   intro k h1 h2;rcases dT k j with q|q
   ·exact kz.out k h1 q
   ·rw[(ah:k=j),gDj];exact hzero
  have kz2:=aq.mk fO;rw[hzero] at m2;clear fO kz gDj hzero wL rS;unfold im at *
  refine bR @uB ?_;exact⟨t.length - (j+1),by omega,j+1,by omega,by omega,rfl,kz2,aT,aT,aT,aT,by simp,aT,aT,aT,aT⟩
 have Bu:=TH (t:=t') (c:=c) U7 ah kz.out (λ_=>by rw[gDj];exact hzero);rw[aG ah] at Bu;obtain⟨o,ho⟩:∃b,t'[pv.length]?=aa b:=⟨_,a9 ah⟩;obtain⟨bo,wI⟩:∃b,B'[pv.length]?=aa b:=⟨_,a9 (by rw[kT2.out.len];omega)⟩;have nK:=apw Bu hb ho;rw[<-rS] at nK;have kgo:=aq.mk nK;have kne:=aq.mk hzero;have okb:=kR.out.ok b (ez hb);have nz:=Ck (qE okb c);have ixr:=D0 (b:=tb) (len:=t.length) (aA:=t.length) (k:=.i64) (ah:pv.length<t.length);have UX:(B'.map λb=>AV.arr b 0 w w)[pv.length]?=aa (.arr bo 0 w w):=by rw[eR,wI];rfl
 have m3:=vu kT2.out.hY UX;have T3:=jG.swap kT2.out wI vh ho hb;have nb1:bj<h.boxes.length:=kBl.out bj (kP.out.mem_iff.1 (ez vh));have nb2:tb≠bj:=λe=>kT2.out.out (by rw[e];exact ez vh);have ar9:=(aQ.1 kT.out.hY).1;have Vg:h.boxes.length≠tb:=by omega
 have ahj:hl≠tb:=by omega
 have s1:=YJ (w:=w) (x:=bj) (k:=pv.length) kT2.out.hY (by rw[kT2.out.len];omega);have jJ:(H2.put tb ((B'.set pv.length bj).map λb=>AV.arr b 0 w w)).boxes[tb]?=aa ((B'.set pv.length bj).map λb=>AV.arr b 0 w w):=ey (aQ.1 kT2.out.hY).1;have s2:=YJ (w:=w) (x:=bo) (k:=j) jJ (by rw[nE,kT2.out.len];omega);rw[Kc] at s2;have l2b:aF aj Gt (H2.put tb ((B'.set pv.length bj).map λb=>AV.arr b 0 w w)) 203 (.ptr (.box h.boxes.length) 0)=aa (.arr tb 0 t.length t.length):=wW ((cP Vg).trans kb2.out);have G3:GM (tb::B) h.tn h (H2.put tb (((B'.set pv.length bj).set j bo).map λb=>AV.arr b 0 w w)) tk:=kG2.out.then λ_=>.put (ga) _;have b2:(H2.put tb (((B'.set pv.length bj).set j bo).map λb=>AV.arr b 0 w w)).boxes[h.boxes.length]?=aa [.arr tb 0 t.length t.length]:=(cP Vg).trans kb2.out;have b3:(H2.put tb (((B'.set pv.length bj).set j bo).map λb=>AV.arr b 0 w w)).boxes[hl]?=aa [.v (.int .i64 (pv.length:Nat))]:=(cP ahj).trans kb3.out;have Nc:(H2.put tb (((B'.set pv.length bj).set j bo).map λb=>AV.arr b 0 w w)).boxes.length=H2.boxes.length:=mc _ _ _;have Ji:((B'.set pv.length bj).set j bo).Perm B:=by have q:=aaF (aQ.1 wI).1 (aQ.1 vh).1;rw[show B'[j]'(aQ.1 vh).1=bj from(aQ.1 vh).2,show B'[pv.length]'(aQ.1 wI).1=bo from(aQ.1 wI).2] at q;exact q.trans kP.out
 have wE:((B'.set pv.length bj).set j bo)[pv.length]?=aa bj:=by
  rw[mU];by_cases q:j=pv.length
  ·rw[aD q,aD (by rw[nE,kT2.out.len];omega)];rw[q,wI] at vh;exact vh
  ·rw[aG q,Ln (aQ.1 wI).1]
 have yn:((t'.set pv.length b).set j o)[pv.length]?=aa b:=by
  rw[mU];by_cases q:j=pv.length
  ·rw[aD q,aD (by rw[nE];omega)];rw[q,ho] at hb;exact hb
  ·rw[aG q,Ln ah]
 have VJ:((t'.set pv.length b).set j o).length=t.length:=by rw[nE,nE];exact i2
 have Vj:∀a∈(t'.set pv.length b).set j o,∀x∈a,okF x:=by
  intro a ha;rcases vU ha with q|q
  ·rcases vU q with q|q
   ·exact kR.out.ok a q
   ·rw[q];exact okb
  ·rw[q];exact kR.out.ok o (ez ho)
 have kok3:=aq.mk (ax Vj (ax okb VJ));clear Vj VJ;generalize (t'.set pv.length b).set j o=t3 at *
 generalize (B'.set pv.length bj).set j bo=B3 at *
 obtain⟨H3,pC⟩:∃H3,H2.put tb (B3.map λb=>AV.arr b 0 w w)=H3:=⟨_,rfl⟩;rw[pC] at s2 T3 G3 b2 b3 Nc;have kP3:=aq.mk Ji;clear pC jJ Ji nK Bu kz gDj hb ho rS cd;have l23:=wW b2;have l33:=lX b3;have wK:(B3.map λb=>AV.arr b 0 w w)[pv.length]?=aa (.arr bj 0 w w):=by rw[eR,wE];rfl
 have m13:=vu T3.hY wK;have Ol:=T3.row pv.length bj b wE yn;have m23:=yy Ol (wY (k:=c) ah);have Bv:fmod (al b c)=al b c:=Dm (qE okb c);have ci:=λh=>ahU (al b c) h;rw[Bv] at ci;simp only[aG hzero] at ci;have kokz:aq (0<=fL (al b c)/\fL (al b c)<=9223372036854775807):=⟨Ck (TJ _)⟩;have arC:tb<H3.boxes.length:=(aQ.1 T3.hY).1;have arG:bj<H3.boxes.length:=(aQ.1 Ol).1;have hh3:h.boxes.length<H3.boxes.length:=(aQ.1 b2).1;have arL:hl<H3.boxes.length:=(aQ.1 b3).1;generalize hz:al b c=z at *
 have kfz:aq (okF (fL z)):=⟨TJ _⟩;generalize hf:fL z=fz at *
 have s5:b8 aj (H3.push [.v (.int .i64 0)]) 3 (.ptr (.box H3.boxes.length) 0) (.v (.int .i64 fz))=aa (H3.push [.v (.int .i64 fz)]):=jt rfl iQ rfl rfl;have T4:jG (H3.push [.v (.int .i64 fz)]) tb B3 t3 w:=T3.mono λ_ _ q=>aZ q;have G4:GM (tb::B) h.tn h (H3.push [.v (.int .i64 fz)]) tk:=G3.then λ_=>fT.refl.push _;have b24:(H3.push [.v (.int .i64 fz)]).boxes[h.boxes.length]?=aa [.arr tb 0 t.length t.length]:=aZ b2;have b34:(H3.push [.v (.int .i64 fz)]).boxes[hl]?=aa [.v (.int .i64 (pv.length:Nat))]:=aZ b3;have b44:(H3.push [.v (.int .i64 fz)]).boxes[H3.boxes.length]?=aa [.v (.int .i64 fz)]:=bp _ _;have FP:(H3.push [.v (.int .i64 fz)]).boxes.length=H3.boxes.length+1:=cH _ _;have kH3:=aq.mk Nc;obtain⟨H4,tf⟩:∃H4,H3.push [.v (.int .i64 fz)]=H4:=⟨_,rfl⟩;rw[tf] at s5 T4 G4 b24 b34 b44 FP;have l24:=wW b24;have l34:=lX b34;have m14:=vu T4.hY wK;have af:=R7 bj w c H4;have kT4:=aq.mk T4;have kG4:=aq.mk G4;have kb4:=aq.mk (ax b24 (ax b34 (ax b44 (ax FP (ax wE yn)))));unfold im at af m2 m23 ci;clear tf T4 G4 b24 b34 b44 FP T3 G3 b2 b3 Nc Ol wK wE yn Bv wL UX wI vh;refine bR @uB ?_;refine oG [(2,13)] zh aw (λp hp=>?_) ?_
 ·simp only[ph] at hp;subst hp;refine yH (x:=.ptr (.box h.boxes.length) 0) (v:=.arr tb 0 t.length t.length) aw rfl rfl rfl aw (by simp[fC,me]) ?_ ?_<;>(simp only[iK,gm];exact jq @uB @and_self)
 refine bR @uB ?_;refine bM.gen λe4 fV rP uk rW=>?_;have f2:e4.get 2=.ptr (.box h.boxes.length) 0:=by rw[fV];simp only[gW,reduceIte,aY,aR];exact g2
 have f4:e4.get 4=.list tk s (ints (dg pv)):=by rw[fV];simp only[gW,reduceIte,aY,aR];exact g4
 have f5:e4.get 5=.v (.int .i64 (c:Nat)):=by rw[fV];simp only[gW,reduceIte,aY,aR];exact g5
 have f6:e4.get 6=.ptr (.box hl) 0:=by rw[fV];simp only[gW,reduceIte,aY,aR];exact g6
 have f8:e4.get 8=.ptr (.box H3.boxes.length) 0:=by rw[fV];exact gS
 have f13:e4.get 13=.v (.int .i64 (many:Nat)):=by rw[fV];simp only[gW,reduceIte,aY,aR];exact g13
 have f14:e4.get 14=.v (.int .i64 (c:Nat)):=by rw[fV];simp only[gW,reduceIte,aY,aR];exact g14
 have f70:e4.get 70=.func (.func 219) [] [.ptr (.box (H4.boxes.length+1)) 0,.ptr (.box H4.boxes.length) 0]:=by rw[fV];exact gS
 have fd:e4.defers=[]:=by rw[rP];simp only[gW,reduceIte,aY,aR];exact hd
 clear fV rP uk rW g2 g4 g5 g6 g7 g13 g14 hd;refine Ct (by rw[zw];exact f70) λrec w1 w2 w3 w4 w5 w6=>?_;obtain⟨b24,b34,b44,FP,wE,yn⟩:=kb4.out;have T5:jG ((H4.push [.arr bj 0 w w]).push [.v (.int .i64 (c:Nat))]) tb B3 t3 w:=kT4.out.mono λ_ _ q=>aZ (aZ q);have G5:GM (tb::B) h.tn h ((H4.push [.arr bj 0 w w]).push [.v (.int .i64 (c:Nat))]) tk:=kG4.out.then λ_=>(fT.refl.push _).push _;have b25:((H4.push [.arr bj 0 w w]).push [.v (.int .i64 (c:Nat))]).boxes[h.boxes.length]?=aa [.arr tb 0 t.length t.length]:=aZ (aZ b24);have b35:((H4.push [.arr bj 0 w w]).push [.v (.int .i64 (c:Nat))]).boxes[hl]?=aa [.v (.int .i64 (pv.length:Nat))]:=aZ (aZ b34);have b45:((H4.push [.arr bj 0 w w]).push [.v (.int .i64 (c:Nat))]).boxes[H3.boxes.length]?=aa [.v (.int .i64 fz)]:=aZ (aZ b44);have b55:((H4.push [.arr bj 0 w w]).push [.v (.int .i64 (c:Nat))]).boxes[H4.boxes.length]?=aa [.arr bj 0 w w]:=aZ (bp _ _);have b65:((H4.push [.arr bj 0 w w]).push [.v (.int .i64 (c:Nat))]).boxes[H4.boxes.length+1]?=aa [.v (.int .i64 (c:Nat))]:=ng (by rw[cH]);have agk:((H4.push [.arr bj 0 w w]).push [.v (.int .i64 (c:Nat))]).boxes.length=H4.boxes.length+2:=by rw[cH,cH]
 generalize (H4.push [.arr bj 0 w w]).push [.v (.int .i64 (c:Nat))]=H5 at *
 clear l2 l3 l23 l33 m1 m2 m3 m13 m23 ci s1 s2 l2b s5 l24 l34 m14 af kb4 kT4 kG4 kb2 kb3 kT2 kG2 khr;have dU:=T5.row pv.length bj b wE yn;have jr:=(aQ.1 dU).1;have gv:(H5.loop rec).loops[H5.loops.length]?=aa rec:=@Ch H5 rec;have I1:∀(k:Nat) (H:ao),H=(H5.loop rec).put bj ((nI (λi=>db (al b i) fz) b c k).map im)->H.boxes[H4.boxes.length+1]?=aa [im (c:Nat)]/\H.boxes[H4.boxes.length]?=aa [.arr bj 0 w w]/\(k<w->∃cs,H.boxes[bj]?=aa cs/\cs[k]?=aa (im (al b k))):=by
  rintro k H rfl;refine⟨?_,?_,λhk=>⟨_,ey jr,?_⟩⟩
  ·rw[cP ah];exact b65
  ·rw[cP ah];exact b55
  ·have:=wY (r:=nI (λi=>db (al b i) fz) b c k) (k:=k) (by rw[uV];omega);rw[FF ah,aG ah] at this;exact this
 have I2:∀(k:Nat) (H:ao),c<=k->k<w->H=(H5.loop rec).put bj ((nI (λi=>db (al b i) fz) b c k).map im)->∃H',W2.round H5.loops.length [im (k:Nat),im (al b k)] H=aa (.ret (.v (.bool ai)),H')/\H'=(H5.loop rec).put bj ((nI (λi=>db (al b i) fz) b c (k+1)).map im):=by
  rintro k H zR zS rfl;refine Hg (Post:=λH=>H=(H5.loop rec).put bj ((nI (λi=>db (al b i) fz) b c (k+1)).map im)) gv (by rw[w2];rfl) w5 w6 ?_;have kq:=aeu (f:=λi=>db (al b i) fz) zR (ah:k<b.length);have r1:∀t,(mT H5.loops.length rec [im (k:Nat),im (al b k)]).get t=if 72=t then im (al b k) else if 71=t then im (k:Nat) else e4.get t:=λt=>Hd w2 w1
  have d1:(mT H5.loops.length rec [im (k:Nat),im (al b k)]).defers=[]:=rfl;obtain⟨K,hK⟩:∃K,((H5.loop rec).put bj ((nI (λi=>db (al b i) fz) b c k).map im)).busy H5.loops.length rec=K:=⟨_,rfl⟩;rw[hK];have c1:K.boxes[bj]?=aa ((nI (λi=>db (al b i) fz) b c k).map im):=by rw[<-hK];exact ey jr
  have c2:K.boxes[h.boxes.length]?=aa [.arr tb 0 t.length t.length]:=by rw[<-hK];exact(cP ah).trans b25
  have c3:K.boxes[hl]?=aa [.v (.int .i64 (pv.length:Nat))]:=by rw[<-hK];exact(cP ah).trans b35
  have c4:K.boxes[H3.boxes.length]?=aa [im fz]:=by rw[<-hK];exact(cP ah).trans b45
  have c5:K.boxes[tb]?=aa (B3.map λb=>AV.arr b 0 w w):=by rw[<-hK];exact(cP nb2).trans T5.hY
  have wK:(B3.map λb=>AV.arr b 0 w w)[pv.length]?=aa (.arr bj 0 w w):=by rw[eR,wE];rfl
  have m2:=wW c2;have m3:=lX c3;have m4:=lX c4;have m5:=vu c5 wK;have D1:=ur (b:=bj) (len:=w) (aA:=w) (k:=.i64) zS;have sk:=Ez (r:=nI (λi=>db (al b i) fz) b c k) (k:=k) (x:=db (al b k) fz) c1 (by rw[uV];omega);rw[kq] at sk;have vB:=Ck (qE okb k);have f1:=λh=>O7 (al b k) fz h;clear dU b25 b35 b45 b55 b65 T5 G5 c1 c2 c3 c4 c5 kq wK I1 okb f70 ixj ixc;generalize db (al b k) fz=z1 at *
  generalize al b k=z2 at *
  unfold im at *
  rw[w3,w4];refine xY ?_;refine⟨aT,aT,?_⟩;refine bM.gen λe2 jf jJ nM DO=>?_;have q2:e2.get 2=.ptr (.box h.boxes.length) 0:=by rw[jf];simp only[gW,reduceIte,aY,aR,r1];exact f2
  have q6:e2.get 6=.ptr (.box hl) 0:=by rw[jf];simp only[gW,reduceIte,aY,aR,r1];exact f6
  have q8:e2.get 8=.ptr (.box H3.boxes.length) 0:=by rw[jf];simp only[gW,reduceIte,aY,aR,r1];exact f8
  have q10:e2.get 10=.v (.int .i64 k):=by rw[jf];simp only[gW,reduceIte,aY,aR,r1]
  have q11:e2.get 11=.v (.int .i64 z2):=by rw[jf];simp only[gW,reduceIte,aY,aR,r1]
  clear jf jJ nM DO r1 d1
  repeat' (first|simp(maxSteps:=999999)(disch:=first|exact dZ|fail)only[gW,reduceIte,aY,aR, *]|(refine dX ?_ ?_<;>(intro _;try omega))|refine fQ zh aw ?_)
  rw[<-hK];simp only[ao.put,ao.busy,ao.loop,CQ];exact⟨aT,aT,aT⟩
 obtain⟨h',c1,c2⟩:=R8 H5.loops.length (H4.boxes.length+1) H4.boxes.length bj w c b (λk H=>H=(H5.loop rec).put bj ((nI (λi=>db (al b i) fz) b c k).map im)) I1 I2 ah hw ((H5.loop rec).put bj ((nI (λi=>db (al b i) fz) b c c).map im)) rfl;have e3:H5.loop rec=(H5.loop rec).put bj ((nI (λi=>db (al b i) fz) b c c).map im):=by rw[aev];exact(nt (h:=H5.loop rec) dU).symm
 rw[<-e3] at c1;have e4':nI (λi=>db (al b i) fz) b c w=gU c b fz:=by rw[<-wb];exact aet ah
 rw[e4'] at c2;subst c2;clear e3 I1 I2 e4';refine⟨_,_,c1,rec,gv,by rw[w5];decide,.inl ⟨w6,?_⟩⟩;clear c1;have Dt:h.loops.length<=H5.loops.length:=by
  have:=G5.mu.loop;rcases dT H5.loops.length h.loops.length with q|q
  ·have:=(aQ.1 (this _ _ (a9 q))).1;omega
  ·exact q
 have okt:=kok3.out;have FX:bj∈B:=kP3.out.mem_iff.1 (ez wE);have T6:jG (((H5.loop rec).put bj ((gU c b fz).map im)).eH H5.loops.length {rec with state:=.exhausted}) tb B3 (t3.set pv.length (gU c b fz)) w:=by have q:=jG.set (H:=H5.loop rec) (T5.mono λ_ _ q=>q) wE (r:=gU c b fz) (by rw[Yo ah];exact wb);exact q.mono λ_ _ q=>q
 have G6:GM (tb::B) h.tn h (((H5.loop rec).put bj ((gU c b fz).map im)).eH H5.loops.length {rec with state:=.exhausted}) tk:=⟨((G5.mu.Ai rec).trans (.put (fR _ FX) _)).eH Dt _,G5.can,G5.ok⟩;have b26:(((H5.loop rec).put bj ((gU c b fz).map im)).eH H5.loops.length {rec with state:=.exhausted}).boxes[h.boxes.length]?=aa [.arr tb 0 t.length t.length]:=(cP ah).trans b25;have b36:(((H5.loop rec).put bj ((gU c b fz).map im)).eH H5.loops.length {rec with state:=.exhausted}).boxes[hl]?=aa [.v (.int .i64 (pv.length:Nat))]:=(cP ah).trans b35;have VC:(t3.set pv.length (gU c b fz))[pv.length]?=aa (gU c b fz):=Ln (aQ.1 yn).1;have ok4:∀a∈t3.set pv.length (gU c b fz),∀x∈a,okF x:=by
  intro a ha;rcases vU ha with q|q
  ·exact okt.1 a q
  ·rw[q];exact aor okb
 have Gc:(t3.set pv.length (gU c b fz)).length=t.length:=by rw[nE];exact okt.2.2
 have nK:=kgo.out;rw[i2] at nK;have T7:jG (((H5.loop rec).put bj ((gU c b fz).map im)).eH H5.loops.length {rec with state:=.exhausted}) tb B3 (pT c (gU c b fz) pv.length 0 (t3.set pv.length (gU c b fz))) w:=by rw[ad1];exact T6
 have hso:(gU c b fz).length=w:=by rw[Yo ah];exact wb
 generalize (((H5.loop rec).put bj ((gU c b fz).map im)).eH H5.loops.length {rec with state:=.exhausted})=H6 at *
 clear T6 gv dU b25 b35 b45 b55 b65 T5 G5 agk jr w1 w2 w3 w4 w5 w6 Dt wE yn okt f70 f8 FP ixj ixr ixc;have l26:=wW b26;have l36:=lX b36;generalize gU c b fz=own at *
 generalize t3.set pv.length own=t4 at *
 have k7:=aq.mk (ax T7 (ax G6 (ax b26 b36)));have kok4:=aq.mk (ax ok4 (ax VC (ax Gc nK)));clear T7 G6 b26 b36 ok4 VC nK okb kok3 Gc;refine bR @uB ?_;refine bM.gen λe5 yg UU hp5 Oi=>?_;have r2:e5.get 2=.ptr (.box h.boxes.length) 0:=by rw[yg];simp only[gW,reduceIte,aY,aR];exact f2
 have r4:e5.get 4=.list tk s (ints (dg pv)):=by rw[yg];simp only[gW,reduceIte,aY,aR];exact f4
 have r5:e5.get 5=.v (.int .i64 (c:Nat)):=by rw[yg];simp only[gW,reduceIte,aY,aR];exact f5
 have r6:e5.get 6=.ptr (.box hl) 0:=by rw[yg];simp only[gW,reduceIte,aY,aR];exact f6
 have r13:e5.get 13=.v (.int .i64 (many:Nat)):=by rw[yg];simp only[gW,reduceIte,aY,aR];exact f13
 have r14:e5.get 14=.v (.int .i64 (c:Nat)):=by rw[yg];simp only[gW,reduceIte,aY,aR];exact f14
 have r83:e5.get 83=.v (.int .i64 (t.length:Nat)):=by rw[yg];exact gS
 have r84:e5.get 84=.v (.int .i64 (0:Nat)):=by rw[yg];exact gR
 have rd:e5.defers=[]:=by rw[UU];simp only[gW,reduceIte,aY,aR];exact fd
 clear yg UU hp5 Oi f2 f4 f5 f6 f13 f14 fd l26 l36;refine de (λm e H=>∃i:Nat,i<=t.length/\m=t.length - i/\aq (jG H tb B3 (pT c own pv.length i t4) w)/\aq (GM (tb::B) h.tn h H tk)/\aq (H.boxes[h.boxes.length]?=aa [.arr tb 0 t.length t.length])/\aq (H.boxes[hl]?=aa [.v (.int .i64 (pv.length:Nat))])/\e.get 2=.ptr (.box h.boxes.length) 0/\e.get 4=.list tk s (ints (dg pv))/\e.get 5=.v (.int .i64 (c:Nat))/\e.get 6=.ptr (.box hl) 0/\e.get 13=.v (.int .i64 (many:Nat))/\e.get 14=.v (.int .i64 (c:Nat))/\e.get 83=.v (.int .i64 (t.length:Nat))/\e.get 84=.v (.int .i64 (i:Nat))/\e.defers=[]) ?_ t.length _ _ ?_;rotate_left 1
 ·exact⟨0,df _,rfl,⟨k7.out.1⟩,⟨k7.out.2.1⟩,⟨k7.out.2.2.1⟩,⟨k7.out.2.2.2⟩,r2,r4,r5,r6,r13,r14,r83,r84,rd⟩
 clear r2 r4 r5 r6 r13 r14 r83 r84 rd k7;rintro m e6 K ⟨i,hi,rfl,kT7,kG7,kb7,kc7,g2,g4,g5,g6,g13,g14,g83,g84,hd⟩;have l27:=wW kb7.out;have l37:=lX kc7.out;by_cases hit:i<t.length;rotate_left 1
 ·have jz:i=t.length:=by omega
  subst jz;have bl:=rC (c:Int);have ap:=y7 (x:=(c:Int)) (show(dg pv).length<1099511627776 by unfold dg;rw[bJ];omega) hs kG7.out.can;refine bR @uB ?_;refine⟨many - (c+1),by omega,c+1,B3,.free K.tn,1,by omega,rfl,?_⟩;rw[kok4.out.2.2.2];have Gc:=kok4.out.2.2.1;rw[<-Gc] at kT7;have ee:dg (pv++[c])=dg pv++[(c:Int)]:=by unfold dg;simp
  dsimp only;rw[ee];exact⟨by rw[<-Gc];exact kT7.out.mono λ_ _ q=>by rw[eS];exact q,kP3.out,by rw[eS];exact kb7.out,aT,rfl,.inl rfl,aT,by simp,aT,kG7.out.app (aJ _)⟩
 have Um:B3.length=t.length:=by rw[kT7.out.len,S8];exact kok4.out.2.2.1
 by_cases NQ:i=pv.length
 ·subst NQ;have T8:=kT7.out;rw[<-adZ] at T8;have kT8:=aq.mk T8;clear T8;refine bR @uB ?_;exact⟨t.length - (pv.length+1),by omega,pv.length+1,by omega,rfl,kT8,aT,aT,aT,aT,aT,aT,aT,aT,aT,aT,by simp,aT⟩
 ·obtain⟨a,ha⟩:∃a,t4[i]?=aa a:=⟨_,a9 (by rw[kok4.out.2.2.1];exact hit)⟩;obtain⟨K2,c1,c2,c3⟩:=adU K tb B3 (pT c own pv.length i t4) w i pv.length c a own kT7.out (adY.trans ha) (adX.trans kok4.out.2.1) NQ ah hw (adW kok4.out.1);rw[ad0 ha NQ] at c2;rw[Um] at c1;have cM:∀n0,fT (tb::B) n0 K K2:=λn0=>(c3 n0).mono λb hb=>fR _ (kP3.out.mem_iff.1 hb);have FX:∀b∈B3,b<h.boxes.length:=λb hb=>kBl.out b (kP3.out.mem_iff.1 hb);have kb8:=aq.mk ((c3 0).box _ _ (λq=>absurd (FX _ q) ah) kb7.out);have kc8:=aq.mk ((c3 0).box _ _ (λq=>absurd (FX _ q) ah) kc7.out);have kG8:=aq.mk (kG7.out.then cM);have kT8:=aq.mk c2;have arO:¬((i:Int)=(pv.length:Int)):=by omega
  clear c2 c3 cM FX ha Um kT7 kG7 kb7 kc7;unfold im at c1;refine bR @uB ?_;exact⟨t.length - (i+1),by omega,i+1,by omega,rfl,kT8,aT,aT,aT,aT,aT,aT,aT,aT,aT,aT,by simp,aT⟩
def IL(x:AV)(l:List Int):Prop:=∃k s,x=.list k s (ints l)/\(l≠[]->s=1)
def RL(x:AV)(ae:List (List Int)):Prop:=∃(k:Tok) (s:Nat) (xs:List AV),x=.list k s (xs.map λa=>[a])/\(ae≠[]->s=1)/\xs.length=ae.length/\∀(i:Nat) (a:AV) (r:List Int),xs[i]?=aa a->ae[i]?=aa r->IL a r
def ahI{l}{i}(h:i<l.length):(ints l)[i]?=aa [.v (.int .i64 (al l i))]:=by unfold ints vq;rw[eR,a9 h,fx h];rfl
def fP{H}{l}{i s}(h:i<l.length):aF aj Gt H 3 (.elem s (ints l) i 0)=aa (.v (.int .i64 (al l i))):=by rw[r9 eM (ahI h)];rfl
def oY{H}{xs:List AV}{i s}{x}(h:xs[i]?=aa x):aF aj Gt H 23 (.elem s (xs.map λa=>[a]) i 0)=aa x:=by rw[r9 mW (row:=[x]) (by rw[eR,h];rfl)];rfl
def Em:Tryz.f179.results.toList=[.tmp 4]:=aw
def ano:Tryz.f199.results.toList=[]:=aw
def wN(w:Nat)(B:List Nat):List AV:=B.map λb=>AV.arr b 0 w w
def La(H:ao)(B:List Nat)(tb base:Nat)(cur:AV)(l:List Int):Prop:=(l=[]/\cur=.list .nil 0 [])∨(l≠[]/\∃b,cur=.arr b 0 l.length l.length/\H.boxes[b]?=aa (l.map im)/\b∉B/\b≠tb/\base<=b)
def aqj{h0 H}{B}{tb}{cur}{l}(hc:La H B tb h0.boxes.length cur l)(hx:Ext h0 H)(hb:h0.boxes.length<=tb)(x)(hl:l.length<1000000)(hB:∀b∈B,b<H.boxes.length)(VL:tb<H.boxes.length):
 ∃H2,sI aj H #[23,23] cur (.list .tight 1 [[.v (.int .i64 x)]])=aa (.arr H.boxes.length 0 (l.length+1) (l.length+1),H2)/\La H2 B tb h0.boxes.length (.arr H.boxes.length 0 (l.length+1) (l.length+1)) (l++[x])/\Ext h0 H2/\H2.loops=H.loops/\H2.boxes.length=H.boxes.length+1/\∀c cs,(c∈B∨c=tb)->H.boxes[c]?=aa cs->H2.boxes[c]?=aa cs:=by
 obtain⟨i,q1,q2,q3,q4⟩:=Ca;have vg:=ry (ah:l.length+1<=1000000) q3;have bO:=hx.len;rcases hc with⟨rfl,rfl⟩|⟨bE,b,rfl,h1,h2,h3,h4⟩
 ·have:=QM (h:=H) (k:=.nil) (sz:=0) (es:=[]) (new:=[[.v (.int .i64 x)]]) (x:=.list .tight 1 [[.v (.int .i64 x)]]) eY eY q1 ah (by rw[q2];exact q4) bG (by simp;omega) bG (.inr rfl) (.inl rfl) (by rw[q2];rfl);refine⟨_,this,.inr ⟨bG,H.boxes.length,rfl,bp _ _,λq=>absurd (hB _ q) (Rs _),by omega,bO⟩,hx.trans (.push _ _),rfl,cH _ _,λc cs _ q=>aZ q⟩
 ·have az:=(aQ.1 h1).1;have mq:0<l.length:=List.length_pos_iff.2 bE;have:=Zh (h:=H) (b:=b) (len:=l.length) (cs:=l.map im) (new:=[[.v (.int .i64 x)]]) (x:=.list .tight 1 [[.v (.int .i64 x)]]) eY eY q1 ah (by rw[q2];exact q4) bG (by simp;omega) (by simp;omega) h1 mq (by rw[q2,bJ];omega) (by rw[q2];rfl);refine⟨_,this,.inr ⟨bG,H.boxes.length,by simp,?_,λq=>absurd (hB _ q) (Rs _),by omega,bO⟩,(hx.fI h4 _).trans (.push _ _),rfl,by rw[cH,mc],λc cs hc q=>aZ ((cP ?_).trans q)⟩
  ·rw[oM];exact ng (by rw[mc])
  ·rcases hc with hc|hc
   ·rintro rfl;exact h2 hc
   ·rintro rfl;exact h3 hc
structure xx(H:ao)(tb base w m:Nat)(B:List Nat)(t:List (List Int))(cur:AV)(l:List Int):Prop where
 hY:H.boxes[tb]?=aa (wN w B++cur::bm (m - B.length - 1) (.list .nil 0 []))
 lt:B.length<m
 len:B.length=t.length
 nd:B.Nodup
 row:∀(i b:Nat) (r:List Int),B[i]?=aa b->t[i]?=aa r->H.boxes[b]?=aa (r.map im)
 wid:∀r∈t,r.length=w
 out:tb∉B
 low:∀b∈B,base<=b
 cur:La H B tb base cur l
def Wy{P}{h}{t elem}{i}{zero}{n}{k k'}(hu:P.underlying t=aa (.slice elem))(hi:P.info? elem=aa i)(hz:(gy P elem).bind AV.bU=aa zero)(h1:zero.length=i.size)(h2:0<i.size)(h3:i.bytes * n<=281474976710656)(h4:n<9223372036854775808):
 yz P h t (.v (.int k (n:Nat))) (.v (.int k' (n:Nat)))=aa (.arr h.boxes.length 0 n n,h.push (bm n zero).flatten):=by
 unfold yz;have h5:(i.bytes:Int) * (n:Nat)<=281474976710656:=by rw[<-Int.natCast_mul];omega
 simp only[hu,hi,hz];rw[aD ⟨ah,Ld _,by omega,h5,h2,h1⟩];simp[ao.push]
def VZ:∃i,aj.info? 23=aa i/\i.size=1/\i.bytes<=24/\(i.zero.map λz=>z.cells.size)=aa 1:=by
 have h:(match aj.info? 23 with|some i=>Nat.beq i.size 1&&Nat.ble i.bytes 24&&decide ((i.zero.map λz=>z.cells.size)=aa 1)|none=>ay)=ai:=aw;cases hi:aj.info? 23 with
 |none=>rw[hi] at h;cases h
 |some i=>rw[hi] at h;simp only[bA,decide_eq_true_eq] at h;exact⟨i,rfl,Nat.eq_of_beq_eq_true h.1.1,Nat.le_of_ble_eq_true h.1.2,h.2⟩
def aiU(h)(n)(hn:n<=1000000)(k k'):yz aj h 203 (.v (.int k (n:Nat))) (.v (.int k' (n:Nat)))=aa (.arr h.boxes.length 0 n n,h.push (bm n (.list .nil 0 []))):=by obtain⟨i,q1,q2,q3,q4⟩:=VZ;have hb:=ry q3 hn;have:=Wy (h:=h) (n:=n) (k:=k) (k':=k') (zero:=[.list .nil 0 []]) Fh q1 aw (by rw[q2];rfl) ah ah ah;rw[this];simp
def O6(h)(n)(hn:n<=1000000)(k k'):yz aj h 23 (.v (.int k (n:Nat))) (.v (.int k' (n:Nat)))=aa (.arr h.boxes.length 0 n n,h.push (bm n (im 0))):=by obtain⟨i,q1,q2,q3,q4⟩:=Ca;have hb:=ry q3 hn;have:=Wy (h:=h) (n:=n) (k:=k) (k':=k') (zero:=[im 0]) eY q1 K3 (by rw[q2];rfl) ah ah ah;rw[this];simp
structure AP(H:ao)(tb base w m:Nat)(B:List Nat)(t:List (List Int)):Prop where
 hY:H.boxes[tb]?=aa (wN w B++bm (m - B.length) (.list .nil 0 []))
 len:B.length=t.length
 nd:B.Nodup
 row:∀(i b:Nat) (r:List Int),B[i]?=aa b->t[i]?=aa r->H.boxes[b]?=aa (r.map im)
 wid:∀r∈t,r.length=w
 out:tb∉B
 low:∀b∈B,base<=b
def AP.half{H}{tb base w m}{B}{t}(M:AP H tb base w m B t)(hm:B.length<m):xx H tb base w m B t (.list .nil 0 []) []:=by refine⟨?_,hm,M.len,M.nd,M.row,M.wid,M.out,M.low,.inl ⟨rfl,rfl⟩⟩;rw[M.hY,(ah:m - B.length=m - B.length - 1+1),CP];rfl
def AP.tab{H}{tb base w m}{B}{t}(M:AP H tb base w m B t)(hm:B.length=m):jG H tb B t w:=by refine⟨?_,M.len,M.nd,M.row,M.wid,M.out⟩;rw[M.hY,hm,yX,List.replicate_zero,jv];rfl
def F7(w)(B):(wN w B).length=B.length:=by unfold wN;simp
def agH(w)(B)(c)(r):(wN w B++c::r)[B.length]?=aa c:=by rw[List.getElem?_append_right (by rw[F7];exact aJ _),F7,yX];rfl
def agI(w)(B)(c d)(r):(wN w B++c::r).set B.length d=wN w B++d::r:=by rw[List.set_append_right _ _ (by rw[F7];exact aJ _),F7,yX];rfl
def apv{H}{b k x n}{cs}(hb:H.boxes[b]?=aa cs)(hk:k<cs.length):b8 aj H 23 (.ptr (.box b) k) (.arr x 0 n n)=aa (H.put b (cs.set k (.arr x 0 n n))):=by rw[fw (xs:=[AV.arr x 0 n n]) rfl jN hb rfl hk];congr 2;unfold eK;rw[AO,aD hk];simp
def xx.lts{H}{tb base w m}{B}{t}{cur}{l}(F:xx H tb base w m B t cur l):∀b∈B,b<H.boxes.length:=by intro b hb;obtain⟨i,hi⟩:=vT hb;have dG:=(aQ.1 hi).1;exact(aQ.1 (F.row i b _ hi (a9 (by rw[<-F.len];exact dG)))).1
def xx.more{h0 H}{tb w m}{B}{t}{cur}{l}(F:xx H tb h0.boxes.length w m B t cur l)(hx:Ext h0 H)(hb:h0.boxes.length<=tb)(x)(hl:l.length<1000000):
 ∃H2 H3 cur',sI aj H #[23,23] cur (.list .tight 1 [[.v (.int .i64 x)]])=aa (cur',H2)/\b8 aj H2 23 (.ptr (.box tb) B.length) cur'=aa H3/\xx H3 tb h0.boxes.length w m B t cur' (l++[x])/\Ext h0 H3/\H3.loops=H.loops:=by
 have VL:=(aQ.1 F.hY).1;obtain⟨H2,c1,c2,c3,c4,c5,c6⟩:=aqj F.cur hx hb x hl F.lts VL;have hd:=c6 tb _ (.inr rfl) F.hY;have s1:=apv (x:=H.boxes.length) (n:=l.length+1) (k:=B.length) hd (by simp[F7]);rw[agI] at s1;refine⟨H2,_,_,c1,s1,⟨ey (aQ.1 hd).1,F.lt,F.len,F.nd,λi b r hi hr=>?_,F.wid,F.out,F.low,?_⟩,c3.fI hb _,c4⟩
 ·have yf:=ez hi;rw[cP (λe=>F.out (by rw[<-e];exact yf))];exact c6 b _ (.inl yf) (F.row i b r hi hr)
 ·rcases c2 with⟨q,-⟩|⟨q,b,q1,q2,q3,q4,q5⟩
  ·simp at q
  ·exact .inr ⟨q,b,q1,by rw[cP q4];exact q2,q3,q4,q5⟩
def xx.mid{H}{tb base w m}{B}{t}{cur}{l}(F:xx H tb base w m B t cur l)(hl:l.length=w)(hw:0<w):∃b,AP H tb base w m (B++[b]) (t++[l]):=by
 rcases F.cur with⟨rfl,-⟩|⟨q,b,q1,q2,q3,q4,q5⟩
 ·simp at hl;omega
 ·refine⟨b,?_,by simp[F.len],?_,λi c r hi hr=>?_,λr hr=>?_,?_,λc hc=>?_⟩
  ·rw[F.hY,q1,hl];unfold wN;rw[oM,du,List.append_assoc];rfl
  ·rw[List.nodup_append];refine⟨F.nd,by simp,λx hx y hy=>?_⟩;rw[ph] at hy;subst hy;rintro rfl;exact q3 hx
  ·rcases dT i B.length with az|eo
   ·rw[ru az] at hi;rw[ru (by rw[<-F.len];exact az)] at hr;exact F.row i c r hi hr
   ·have:=(aQ.1 hi).1;rw[du] at this;have NL:i=B.length:=(by simp at this;omega);subst NL;rw[EU] at hi;rw[F.len,EU] at hr;injection hi with hi;injection hr with hr;subst hi;subst hr;exact q2
  ·rcases xF.1 hr with z|z
   ·exact F.wid r z
   ·rw[ph] at z;rw[z];exact hl
  ·intro z;rcases xF.1 z with z|z
   ·exact F.out z
   ·rw[ph] at z;exact q4 z.symm
  ·rcases xF.1 hc with z|z
   ·exact F.low c z
   ·rw[ph] at z;rw[z];exact q5
def aqq(h:ao)(x y:AV)(ae:List (List Int))(target:List Int)(hx:RL x ae)(hy:IL y target)(hr:ae.length<=1000)(ht:target.length<=1000)(hw:∀r∈ae,r.length=target.length):
 ∃r h',W2.call 179 [x,y] h=aa (r,h')/\∃tb B,r=.ret (.arr tb 0 target.length target.length)/\jG h' tb B (iR ae target) (ae.length+1)/\Ext h h'/\h.boxes.length<=tb/\∀b∈B,h.boxes.length<=b:=by
 obtain⟨kx0,sx,xs,rfl,JH,ff,gI⟩:=hx;obtain⟨ky,sy,rfl,rX⟩:=hy;have kx:=aq.mk (ax JH (ax gI (ax rX hw)));clear JH gI rX hw;have mk:=aiU h target.length ah .i64 .i64;have u23:=eY;have u22:=oR;have u203:=Fh;have z23:=jN;have z3:=iQ;have dG:=eT target;have ahF:(xs.map λa=>[a]).length=ae.length:=by rw[bJ];exact ff
 refine ec rfl Tryz.func179 rfl ?_;refine bR @Em ?_;refine bM.gen λe0 aV cY eV eO=>?_;have f0:e0.get 0=.list kx0 sx (xs.map λa=>[a]):=by rw[aV];exact gS
 have f5:e0.get 5=.arr h.boxes.length 0 target.length target.length:=by rw[aV];exact gS
 have f13:e0.get 13=.list ky sy (ints target):=by rw[aV];exact gS
 have f14:e0.get 14=.v (.int .i64 (target.length:Nat)):=by rw[aV];exact gS
 have f15:e0.get 15=.v (.int .i64 (0:Nat)):=by rw[aV];exact gR
 have fd:e0.defers=[]:=by rw[cY];exact gS
 clear aV cY eV eO mk;have tl:=Zi ae target;have M0:AP (h.push (bm target.length (.list .nil 0 []))) h.boxes.length h.boxes.length (ae.length+1) target.length [] ((iR ae target).take 0):=by refine⟨by rw[bp];simp[wN],rfl,.nil,λi b r hi=>by simp at hi,λr hr=>by simp at hr,by simp,λb hb=>by simp at hb⟩
 refine de (λm e H=>∃(k:Nat) (B:List Nat),k<=target.length/\m=target.length - k/\B.length=k/\aq (AP H h.boxes.length h.boxes.length (ae.length+1) target.length B ((iR ae target).take k))/\aq (Ext h H)/\e.get 0=.list kx0 sx (xs.map λa=>[a])/\e.get 5=.arr h.boxes.length 0 target.length target.length/\e.get 13=.list ky sy (ints target)/\e.get 14=.v (.int .i64 (target.length:Nat))/\e.get 15=.v (.int .i64 (k:Nat))/\e.defers=[]) ?_ target.length _ _ ?_;rotate_left 1
 ·exact⟨0,[],df _,rfl,rfl,⟨M0⟩,⟨.push _ _⟩,f0,f5,f13,f14,f15,fd⟩
 clear M0 f0 f5 f13 f14 f15 fd;rintro m e H ⟨k,B,hk,rfl,u7,kM,kX,g0,g5,g13,g14,g15,hd⟩;by_cases Jq:k<target.length;rotate_left 1
 ·have:k=target.length:=by omega
  subst this;have T:=kM.out.tab u7;rw[fK ah] at T;have kT:=aq.mk T;clear T;refine bR @Em ?_;exact⟨_,_,rfl,_,B,rfl,kT.out,kX.out,aJ _,kM.out.low⟩
 have cK:sy=1:=kx.out.2.2.1 (by intro q;rw[q] at Jq;simp at Jq);subst cK;have l0:=fP (H:=H) (s:=1) Jq;have F0:=kM.out.half ah;have kF0:=aq.mk F0;have hkI:(k:Int)<(target.length:Int):=by omega
 clear F0;refine cq @Em @ck ?_;refine bM.gen λe0 aV cY eV eO=>?_;have f0:e0.get 0=.list kx0 sx (xs.map λa=>[a]):=by rw[aV];simp only[gW,reduceIte,aY,aR];exact g0
 have f5:e0.get 5=.arr h.boxes.length 0 target.length target.length:=by rw[aV];simp only[gW,reduceIte,aY,aR];exact g5
 have f6:e0.get 6=.v (.int .i64 (k:Nat)):=by rw[aV];exact gS
 have f7:e0.get 7=.v (.int .i64 (al target k)):=by rw[aV];exact gS
 have f13:e0.get 13=.list ky 1 (ints target):=by rw[aV];simp only[gW,reduceIte,aY,aR];exact g13
 have f14:e0.get 14=.v (.int .i64 (target.length:Nat)):=by rw[aV];simp only[gW,reduceIte,aY,aR];exact g14
 have f15:e0.get 15=.v (.int .i64 (k:Nat)):=by rw[aV];simp only[gW,reduceIte,aY,aR];exact g15
 have f20:e0.get 20=.list kx0 sx (xs.map λa=>[a]):=by rw[aV];exact gS
 have f21:e0.get 21=.v (.int .i64 (ae.length:Nat)):=by rw[aV];exact gS
 have f22:e0.get 22=.v (.int .i64 (0:Nat)):=by rw[aV];exact gR
 have fd:e0.defers=[]:=by rw[cY];simp only[gW,reduceIte,aY,aR];exact hd
 clear aV cY eV eO g0 g5 g13 g14 g15 hd l0;refine de (λm e H=>∃(i:Nat) (cur:AV),i<=ae.length/\m=ae.length - i/\aq (xx H h.boxes.length h.boxes.length (ae.length+1) target.length B ((iR ae target).take k) cur ((ae.take i).map λr=>al r k))/\aq (Ext h H)/\e.get 0=.list kx0 sx (xs.map λa=>[a])/\e.get 5=.arr h.boxes.length 0 target.length target.length/\e.get 6=.v (.int .i64 (k:Nat))/\e.get 7=.v (.int .i64 (al target k))/\e.get 13=.list ky 1 (ints target)/\e.get 14=.v (.int .i64 (target.length:Nat))/\e.get 15=.v (.int .i64 (k:Nat))/\e.get 20=.list kx0 sx (xs.map λa=>[a])/\e.get 21=.v (.int .i64 (ae.length:Nat))/\e.get 22=.v (.int .i64 (i:Nat))/\e.defers=[]) ?_ ae.length _ _ ?_;rotate_left 1
 ·exact⟨0,_,df _,rfl,kF0,kX,f0,f5,f6,f7,f13,f14,f15,f20,f21,f22,fd⟩
 clear f0 f5 f6 f7 f13 f14 f15 f20 f21 f22 fd kF0 kM kX;rintro m e2 H2 ⟨i,cur,hi,rfl,kF,kX,g0,g5,g6,g7,g13,g14,g15,g20,g21,g22,hd⟩;have lc:((ae.take i).map λr=>al r k).length=i:=by rw[bJ,fb];omega
 have p7:(wN (ae.length+1) B++cur::bm (target.length - B.length - 1) (.list .nil 0 []))[k]?=aa cur:=by rw[<-u7];exact agH _ _ _ _
 have m1:=vu kF.out.hY p7;have D1:=D0 (b:=h.boxes.length) (len:=target.length) (aA:=target.length) (k:=.i64) Jq;clear p7;by_cases lU:i<ae.length
 ·obtain⟨a,ha⟩:∃a,xs[i]?=aa a:=⟨_,a9 ah⟩;obtain⟨r,hr⟩:∃r,ae[i]?=aa r:=⟨_,a9 lU⟩;have JH:sx=1:=kx.out.1 (by intro q;rw[q] at lU;simp at lU);subst JH;obtain⟨ka,sa,rfl,mN⟩:=kx.out.2.1 i a r ha hr;have ej:=kx.out.2.2.2 r (ez hr);have ahr:sa=1:=mN (by intro q;rw[q] at ej;simp at ej;omega);subst ahr;have l1:=oY (H:=H2) (s:=1) ha;have l2:=fP (H:=H2) (l:=r) (i:=k) (s:=1) ah;have DN:(ints r).length=target.length:=by rw[eT];exact ej
  obtain⟨H3,H4,cur',c1,c2,c3,c4,-⟩:=kF.out.more kX.out (aJ _) (al r k) (by rw[lc];omega);have lD:((ae.take i).map λr=>al r k)++[al r k]=(ae.take (i+1)).map λr=>al r k:=by rw[gx hr,oM];rfl
  rw[lD] at c3;rw[u7] at c2;have bl:=rC (al r k);have kF2:=aq.mk c3;have kX2:=aq.mk c4;have arN:(i:Int)<(ae.length:Int):=by omega
  clear c3 c4 lD ha hr mN lc u7 tl ej;refine cq @Em @ck ?_
  repeat' (first|simp(maxSteps:=999999)(disch:=first|exact dZ|fail)only[gW,reduceIte,aY,aR,Em,ck, *]|(refine dX ?_ ?_<;>(intro _;try omega))|refine fQ zh aw ?_)
  exact⟨ae.length - (i+1),by omega,i+1,cur',by omega,rfl,kF2,by simp⟩
 ·have jz:i=ae.length:=by omega
  subst jz;obtain⟨H3,H4,cur',c1,c2,c3,c4,-⟩:=kF.out.more kX.out (aJ _) (al target k) (by rw[lc];omega);rw[gM] at c3;have dU:(ae.map λr=>al r k)++[al target k]=((iR ae target)[k]' ah):=by unfold iR;rw[pg,AJ]
  rw[dU] at c3;obtain⟨b,M2⟩:=c3.mid (by rw[<-dU];simp) ah;rw[<-gx (a9 (ah:k<(iR ae target).length))] at M2;have kM2:=aq.mk M2;have kX2:=aq.mk c4;have hBl:(B++[b]).length=k+1:=by rw[du,u7];rfl
  rw[u7] at c2;have bl:=rC (al target k);clear c3 c4 M2 dU lc u7 tl;refine bR @Em ?_;exact⟨target.length - (k+1),by omega,k+1,B++[b],by omega,rfl,hBl,kM2,by simp⟩
def PW:Tryz.f126.results.toList=[.tmp 4]:=aw
def uA:Tryz.f167.results.toList=[.tmp 4]:=aw
def ana:Tryz.f152.results.toList=[.tmp 4]:=aw
def Kq:Tryz.f185.results.toList=[.tmp 4]:=aw
def X9:Tryz.f218.results.toList=[.tmp 2]:=aw
def Hq:Tryz.f200.results.toList=[]:=aw
def XY:Tryz.f178.results.toList=[]:=aw
def ahL(g:bq)(p:Int->Bool)(h:ao)(x:AV)(l:List Int)(hx:IL x l)(hl:l.length<=1000000)(hp:∀n∈l,W2.call g [im n] h=aa (.ret (.v (.bool (p n))),h)):
 ∃r h',W2.call 167 [x,.func (.func g) [] []] h=some (r,h')/\h'=h/\∃i:Int,r=.ret (im i)/\decide (0<=i)=l.any p:=by
 obtain⟨k,s,rfl,hs⟩:=hx;have kp:=aq.mk hp;have ks:=aq.mk hs;clear hp hs;have u23:=eY;have z3:=iQ;have dG:=eT l;refine ec rfl Tryz.func167 rfl ?_;refine bR @uA ?_;refine de (λm e H=>∃i:Nat,i<=l.length/\m=l.length - i/\(l.take i).any p=ay/\e.get 0=.list k s (ints l)/\e.get 1=.func (.func g) [] []/\e.get 7=.v (.int .i64 (l.length:Nat))/\e.get 8=.v (.int .i64 (i:Nat))/\e.defers=[]/\H=h) ?_ l.length _ _ ?_;rotate_left 1
 ·refine⟨0,df _,rfl,by simp,?_,?_,?_,?_,?_,rfl⟩<;>exact gR
 rintro m e H ⟨i,hi,rfl,ha,g0,g1,g7,g8,hd,rfl⟩;have ka:=aq.mk ha;clear ha;by_cases az:i<l.length
 ·have cK:s=1:=ks.out (by intro q;rw[q] at az;simp at az);subst cK;have ld:=fP (H:=H) (s:=1) az;have hv:l[i]?=aa (al l i):=by rw[a9 az,fx az]
  have hc:=kp.out (al l i) (ez hv);have ir:(i:Int)<(l.length:Int):=by omega
  have pF:(l.take (i+1)).any p=p (al l i):=by rw[gx hv,Lj,ka.out];simp
  have kt:=aq.mk pF;have kh:=aq.mk hv;clear hv pF;unfold im at hc;cases fm:p (al l i) with
  |true=>rw[fm] at hc;have jS:l.any p=ai:=EP.2 ⟨_,ez kh.out,fm⟩;have kan:=aq.mk jS;clear jS fm;refine bW @uA @ck @jZ.{0} @jv.{0} ?_;exact⟨_,_,rfl,rfl,(i:Int),rfl,by rw[kan.out];simp⟩
  |false=>rw[fm] at hc;have kt2:(l.take (i+1)).any p=ay:=kt.out.trans fm;clear fm;refine bW @uA @ck @jZ.{0} @jv.{0} ?_;exact⟨l.length - (i+1),by omega,i+1,by omega,rfl,kt2,by simp⟩
 ·have:i=l.length:=by omega
  subst this;have:=ka.out;rw[gM] at this;have kan:=aq.mk this;clear this;refine bR @uA ?_;exact⟨_,_,rfl,rfl,-1,rfl,by rw[kan.out];rfl⟩
def Tg(g)(p)(h)(x)(l)(hx:IL x l)(hl:l.length<=1000000)(hp:∀n∈l,W2.call g [im n] h=aa (.ret (.v (.bool (p n))),h)):
 W2.call 126 [x,.func (.func g) [] []] h=aa (.ret (.v (.bool (l.any p))),h):=by
 obtain⟨r,h',c,rfl,i,rfl,hi⟩:=ahL g p h x l hx hl hp;have pD:(0<=i)=(l.any p=ai):=by rw[<-hi];simp
 have Jl:decide (0<=i)=l.any p:=hi;unfold im at c;refine cN rfl Tryz.func126 rfl ?_;clear hi pD;exact mJ @PW
def ahM(g:bq)(p:List Int->Bool)(h:ao)(x:AV)(l:List (List Int))(hx:RL x l)(hl:l.length<=1000000)(hp:∀a r,r∈l->IL a r->W2.call g [a] h=aa (.ret (.v (.bool (p r))),h)):
 ∃r h',W2.call 185 [x,.func (.func g) [] []] h=some (r,h')/\h'=h/\∃i:Int,r=.ret (im i)/\decide (0<=i)=l.any p:=by
 obtain⟨k,s,xs,rfl,hs,ff,gI⟩:=hx;have kxr:=aq.mk gI;clear gI;have kp:=aq.mk hp;have ks:=aq.mk hs;clear hp hs;have u22:=oR;have z23:=jN;have dG:(xs.map λa=>[a]).length=l.length:=by rw[bJ];exact ff
 refine ec rfl Tryz.func185 rfl ?_;refine bR @Kq ?_;refine de (λm e H=>∃i:Nat,i<=l.length/\m=l.length - i/\(l.take i).any p=ay/\e.get 0=.list k s (xs.map λa=>[a])/\e.get 1=.func (.func g) [] []/\e.get 7=.v (.int .i64 (l.length:Nat))/\e.get 8=.v (.int .i64 (i:Nat))/\e.defers=[]/\H=h) ?_ l.length _ _ ?_;rotate_left 1
 ·refine⟨0,df _,rfl,by simp,?_,?_,?_,?_,?_,rfl⟩<;>exact gR
 rintro m e H ⟨i,hi,rfl,ha,g0,g1,g7,g8,hd,rfl⟩;have ka:=aq.mk ha;clear ha;by_cases az:i<l.length
 ·have cK:s=1:=ks.out (by intro q;rw[q] at az;simp at az);subst cK;obtain⟨a,iV⟩:∃a,xs[i]?=aa a:=⟨_,a9 ah⟩;obtain⟨r,hv⟩:∃r,l[i]?=aa r:=⟨_,a9 az⟩;have ld:=oY (H:=H) (s:=1) iV;have hc:=kp.out a r (ez hv) (kxr.out i a r iV hv);clear iV;have ir:(i:Int)<(l.length:Int):=by omega
  have pF:(l.take (i+1)).any p=p r:=by rw[gx hv,Lj,ka.out];simp
  have kt:=aq.mk pF;have kh:=aq.mk hv;clear hv pF;cases fm:p r with
  |true=>rw[fm] at hc;have jS:l.any p=ai:=EP.2 ⟨_,ez kh.out,fm⟩;have kan:=aq.mk jS;clear jS fm;refine bW @Kq @ck @jZ.{0} @jv.{0} ?_;exact⟨_,_,rfl,rfl,(i:Int),rfl,by rw[kan.out];simp⟩
  |false=>rw[fm] at hc;have kt2:(l.take (i+1)).any p=ay:=kt.out.trans fm;clear fm;refine bW @Kq @ck @jZ.{0} @jv.{0} ?_;exact⟨l.length - (i+1),by omega,i+1,by omega,rfl,kt2,by simp⟩
 ·have:i=l.length:=by omega
  subst this;have:=ka.out;rw[gM] at this;have kan:=aq.mk this;clear this;refine bR @Kq ?_;exact⟨_,_,rfl,rfl,-1,rfl,by rw[kan.out];rfl⟩
def aeg(g)(p)(h)(x)(l)(hx:RL x l)(hl:l.length<=1000000)(hp:∀a r,r∈l->IL a r->W2.call g [a] h=aa (.ret (.v (.bool (p r))),h)):
 W2.call 152 [x,.func (.func g) [] []] h=aa (.ret (.v (.bool (l.any p))),h):=by
 obtain⟨r,h',c,rfl,i,rfl,hi⟩:=ahM g p h x l hx hl hp;have pD:(0<=i)=(l.any p=ai):=by rw[<-hi];simp
 have Jl:decide (0<=i)=l.any p:=hi;unfold im at c;refine cN rfl Tryz.func152 rfl ?_;clear hi pD;exact mJ @ana
def mP(n:Int):Bool:=decide (n<0)||decide (1073741789<=n)
def aji(n:Int)(h:ao):W2.call 218 [im n] h=aa (.ret (.v (.bool (mP n))),h):=by
 unfold im mP;by_cases h0:n<0
 ·refine cN rfl abd rfl ?_;have:decide (n<0)=ai:=by simp[h0]
  exact jq @X9 @Bool.true_or
 ·refine cN rfl abd rfl ?_;have:decide (n<0)=ay:=by simp[h0]
  exact jq @X9 @ZO
def JZ(e:Int)(h:ao):W2.call 199 [.v (.bool ai),im e] h=aa (.ret (.tuple []),h):=by unfold im;refine cN rfl Tryz.func199 rfl ?_;exact mJ @ano
def ajk{l:List Int}(h:∀x∈l,okF x):l.any mP=ay:=by rw[aag];intro x hx;obtain⟨h1,h2⟩:=h x hx;have:Qi=1073741789:=rfl;unfold mP;simp;omega
def S1(h:ao)(x:AV)(ae:List (List Int))(w:Nat)(hx:RL x ae)(hr:ae.length<=1000)(hw:∀r∈ae,r.length=w)(vn:w<=64)(bD:∀r∈ae,∀x∈r,okF x):∃h',W2.call 200 [x] h=aa (.ret (.tuple []),h')/\h'=h:=by
 obtain⟨k,s,xs,rfl,hs,ff,gI⟩:=hx;have kk:=aq.mk (ax hs (ax gI (ax hw bD)));clear hs gI hw bD;have u23:=eY;have u22:=oR;have z23:=jN;have dG:(xs.map λa=>[a]).length=ae.length:=by rw[bJ];exact ff
 have n2:=JZ 2;have n130:=JZ 130;unfold im at n2 n130;refine ij rfl Tryz.func200 rfl ?_;refine bR @Hq ?_;refine de (λm e H=>∃i:Nat,i<=ae.length/\m=ae.length - i/\e.get 0=.list k s (xs.map λa=>[a])/\e.get 7=.list k s (xs.map λa=>[a])/\e.get 8=.v (.int .i64 (ae.length:Nat))/\e.get 9=.v (.int .i64 (i:Nat))/\e.defers=[]/\H=h) ?_ ae.length _ _ ?_;rotate_left 1
 ·refine⟨0,df _,rfl,?_,?_,?_,?_,?_,rfl⟩<;>exact gR
 rintro m e H ⟨i,hi,rfl,g0,g7,g8,g9,hd,rfl⟩;by_cases az:i<ae.length
 ·have cK:s=1:=kk.out.1 (by intro q;rw[q] at az;simp at az);subst cK;obtain⟨a,iV⟩:∃a,xs[i]?=aa a:=⟨_,a9 ah⟩;obtain⟨r,hv⟩:∃r,ae[i]?=aa r:=⟨_,a9 az⟩;have ld:=oY (H:=H) (s:=1) iV;obtain⟨ka,sa,rfl,mN⟩:=kk.out.2.1 i a r iV hv;have ej:=kk.out.2.2.1 r (ez hv);have DN:(ints r).length=w:=by rw[eT];exact ej
  have ir:(i:Int)<(ae.length:Int):=by omega
  have hwd:decide ((w:Int)<=64)=ai:=by simp;omega
  clear iV hv mN ej;refine cq @Hq @ck ?_;exact⟨ae.length - (i+1),by omega,i+1,by omega,rfl,by simp⟩
 ·refine bR @Hq ?_;refine bM.gen λe0 aV cY eV eO=>?_;have f0:e0.get 0=.list k s (xs.map λa=>[a]):=by rw[aV];simp only[gW,reduceIte,aY,aR];exact g0
  have f4:e0.get 4=.func (.func 218) [] []:=by rw[aV];exact gS
  have f18:e0.get 18=.list k s (xs.map λa=>[a]):=by rw[aV];exact gS
  have f19:e0.get 19=.v (.int .i64 (ae.length:Nat)):=by rw[aV];exact gS
  have f20:e0.get 20=.v (.int .i64 (0:Nat)):=by rw[aV];exact gR
  have fd:e0.defers=[]:=by rw[cY];simp only[gW,reduceIte,aY,aR];exact hd
  clear aV cY eV eO g0 g7 g8 g9 hd hi az;refine de (λm e H2=>∃i:Nat,i<=ae.length/\m=ae.length - i/\e.get 0=.list k s (xs.map λa=>[a])/\e.get 4=.func (.func 218) [] []/\e.get 18=.list k s (xs.map λa=>[a])/\e.get 19=.v (.int .i64 (ae.length:Nat))/\e.get 20=.v (.int .i64 (i:Nat))/\e.defers=[]/\H2=H) ?_ ae.length _ _ ?_;rotate_left 1
  ·exact⟨0,df _,rfl,f0,f4,f18,f19,f20,fd,rfl⟩
  clear f0 f4 f18 f19 f20 fd;rintro m e H ⟨i,hi,rfl,g0,g4,g18,g19,g20,hd,rfl⟩;by_cases az:i<ae.length
  ·have cK:s=1:=kk.out.1 (by intro q;rw[q] at az;simp at az);subst cK;obtain⟨a,iV⟩:∃a,xs[i]?=aa a:=⟨_,a9 ah⟩;obtain⟨r,hv⟩:∃r,ae[i]?=aa r:=⟨_,a9 az⟩;obtain⟨a0,jd⟩:∃a,xs[0]?=aa a:=⟨_,a9 ah⟩;obtain⟨r0,iN⟩:∃r,ae[0]?=aa r:=⟨_,a9 ah⟩;have ld:=oY (H:=H) (s:=1) iV;have ld0:=oY (H:=H) (s:=1) jd;obtain⟨ka,sa,rfl,mN⟩:=kk.out.2.1 i a r iV hv;obtain⟨ka0,sa0,rfl,um⟩:=kk.out.2.1 0 a0 r0 jd iN;have ej:=kk.out.2.2.1 r (ez hv);have BT:=kk.out.2.2.1 r0 (ez iN);have cc:=Tg 218 mP H (.list ka sa (ints r)) r ⟨_,_,rfl,mN⟩ ah (λn _=>aji n H);rw[ajk (kk.out.2.2.2 r (ez hv))] at cc;have DN:(ints r).length=w:=(by rw[eT];exact ej);have ahp:(ints r0).length=w:=(by rw[eT];exact BT);have ir:(i:Int)<(ae.length:Int):=(by omega);have FK:(0:Int)<(ae.length:Int):=(by omega);have z0:(0:Int).toNat=0:=rfl;clear iV hv mN ej jd iN um BT;refine cq @Hq @ck ?_;exact⟨ae.length - (i+1),by omega,i+1,by omega,rfl,by simp⟩
  ·refine bR @Hq ?_;exact⟨_,rfl,rfl⟩
def El:Tryz.f144.results.toList=[.tmp 4,.tmp 5,.cell 6 32]:=aw
def ank:Tryz.f177.results.toList=[]:=aw
def Ss(x)(hx:x.dW=ai):gN aj 22 1 [(0,x)]=aa (.list .tight 1 [[x]]):=by cases x<;>first|(cases hx;done)|kernel_rfl
def IL.cell{x}{l}(h:IL x l):x.dW=ai:=by obtain⟨k,s,rfl,-⟩:=h;rfl
def SV(b:Nat)(h:ao):W2.jH 177 [.ptr (.box b) 0] au h=aa (.ret (.tuple []),au,h):=by have u20:=Tryz.underlying20;refine aeB Tryz.func177 rfl ?_;exact qM @ank @acF @and_self
def afd(h:ao)(x y:AV)(ae:List (List Int))(target:List Int)(hx:RL x ae)(hy:IL y target)(hr:ae.length<=64)(hw:∀r∈ae,r.length=target.length)(vn:target.length<=64)(bD:∀r∈ae,∀x∈r,okF x)(zW:∀x∈target,okF x):
 W2.call 178 [x,y] h=aa (.ret (.tuple []),h):=by
 obtain⟨h1,c1,e1⟩:=S1 h x ae target.length hx ah hw vn bD;rw[e1] at c1;clear e1 h1;have yb:RL (.list .tight 1 [[y]]) [target]:=⟨.tight,1,[y],rfl,λ_=>rfl,rfl,λi a r ha hr=>by
  cases i with
  |zero=>simp only[List.getElem?_cons_zero] at ha hr;injection ha with ha;injection hr with hr;subst ha;subst hr;exact hy
  |succ i=>simp at ha⟩
 obtain⟨h2,c2,e2⟩:=S1 h (.list .tight 1 [[y]]) [target] target.length yb bG bG vn (by simpa using zW);rw[e2] at c2;clear e2 h2;have bl:=Ss y hy.cell;have n2:=JZ 2;have n130:=JZ 130;obtain⟨k,s,xs,rfl,hs,ff,gI⟩:=hx;obtain⟨ky,sy,rfl,rX⟩:=hy;have u23:=eY;have u22:=oR;have z23:=jN;have dG:(xs.map λa=>[a]).length=ae.length:=by rw[bJ];exact ff
 have Bz:=eT target;have hrI:decide ((ae.length:Int)<=64)=ai:=by simp;omega
 unfold im at n2 n130;clear yb bD zW;refine cN rfl Tryz.func178 rfl ?_;by_cases h0:ae.length=0
 ·have hq:decide ((ae.length:Int)=0)=ai:=by simp[h0]
  clear hw gI h0;exact mJ @XY
 ·have hq:decide ((ae.length:Int)=0)=ay:=by simp[h0]
  obtain⟨a0,jd⟩:∃a,xs[0]?=aa a:=⟨_,a9 ah⟩;obtain⟨r0,iN⟩:∃r,ae[0]?=aa r:=⟨_,a9 ah⟩;have cK:s=1:=hs (by intro q;rw[q] at h0;simp at h0);subst cK;have ld0:=oY (H:=h) (s:=1) jd;obtain⟨ka0,sa0,rfl,um⟩:=gI 0 a0 r0 jd iN;have BT:=hw r0 (ez iN);have ahp:(ints r0).length=target.length:=by rw[eT];exact BT
  have FK:(0:Int)<(ae.length:Int):=by omega
  have z0:(0:Int).toNat=0:=rfl;clear hw gI jd iN BT hs;exact jq @XY @ck
def xP:fY aj 32=aa ay:=aw
def HN:dm aj 32=aa 1:=aw
def Zv:(gy aj 32).bind AV.bU=aa [im 0]:=aw
def Wh{H}{b}{x}(hb:H.boxes[b]?=aa [x]):aF aj Gt H 32 (.ptr (.box b) 0)=aa x:=by rw[ma xP hb];rfl
def YO{H}{b}{x}{n}(hb:H.boxes[b]?=aa [x]):b8 aj H 32 (.ptr (.box b) 0) (.v (.int .i64 n))=aa (H.put b [.v (.int .i64 n)]):=fw (off:=0) (cs:=[x]) (xs:=[im n]) rfl HN hb rfl (aJ 1)
def aoR{b n k}(hk:k<=n):∃off,ie aj 203 (.arr b 0 n n) (aa (.v (.int .i64 (k:Nat)))) au au=aa (.arr b off (n - k) (n - k))/\(k<n->off=k):=by
 refine⟨if n=k then 0 else 0+k * 1,?_,λh=>by rw[aG ah];omega⟩;have e1:fX n au n=aa n:=rfl;have e3:fX n (aa (.v (.int .i64 (k:Nat)))) 0=aa k:=by show(if 0<=(k:Int)/\(k:Int)<=(n:Int) then aa (k:Int).toNat else au)=_;rw[aD ⟨ah,by omega⟩];rfl
 unfold ie;simp only[Fh,jN,e1,e3,Option.isSome_none,xw,Bool.false_eq_true,false_and,if_false];rfl
def ah1{b off len aA n}{k}(hn:n<len):dx aj 203 (.arr b off len aA) (.v (.int k (n:Nat)))=aa (.ptr (.box b) (off+n)):=by rw[GF Fh jN ah ah,dS,Nat.mul_one]
def pK(t:List (List Int))(pv:List Nat)(n j:Nat):List Int:=(pv.zipIdx.take j).foldl (λy p=>y.set p.1 (al (t.getD p.2 []) n)) (bm n 0)
def Xw(t)(pv)(n j):(pK t pv n j).length=n:=by unfold pK;rw[FJ (λp=>al (t.getD p.2 []) n),qC]
def ak4{t}{pv}{n j p}(h:pv[j]?=aa p):(pK t pv n j).set p (al (t.getD j []) n)=pK t pv n (j+1):=by
 have hz:pv.zipIdx[j]?=aa (p,j):=by rw[aap,h];simp
 unfold pK;rw[gx hz,oL];rfl
def ak3(t)(pv)(n):pK t pv n pv.length=qt (t,pv) n:=by unfold pK qt;rw[fK bG]
def ZS(ae:List (List Int))(target:List Int)(h:ao)(r:eL)(h':ao):Prop:=
 Ext h h'/\((uU ae target=au/\r=.ret (.tuple [.list .nil 0 [],.v (.bool ay),im 0]))∨∃l b,uU ae target=aa l/\l.length=ae.length/\r=.ret (.tuple [.arr b 0 ae.length ae.length,.v (.bool ai),im 0])/\h'.boxes[b]?=aa (l.map im))
def aea(h:ao)(x y:AV)(ae:List (List Int))(target:List Int)(hx:RL x ae)(hy:IL y target)(hr:ae.length<=64)(hw:∀r∈ae,r.length=target.length)(vn:target.length<=64)(bD:∀r∈ae,∀x∈r,okF x)(zW:∀x∈target,okF x)(ho:dj h=ai):
 ∃r h',W2.call 144 [x,y] h=aa (r,h')/\ZS ae target h r h':=by
 have c1:=afd (h.push [im 0]) x y ae target hx hy hr hw vn bD zW;obtain⟨_,H2,c2,tb,B,rfl,T2,X2,jI,fG⟩:=aqq (h.push [im 0]) x y ae target hx hy ah ah hw;obtain⟨t1,t2⟩:=Zj bD zW;have tl:=Zi ae target;obtain⟨_,H3,c3,tk,s3,B3,rfl,qh,T3,Ji,G3⟩:=ak8 H2 tb B (iR ae target) (ae.length+1) ae.length T2 ah ah ah t2 (X2.ok ho);have iM:=ak9 (many:=ae.length) t1 t2 ah;obtain⟨R,V⟩:=Kf t1 t2 (ah:ae.length<=ae.length+1);rw[iM] at qh T3 c3;rw[tl] at c3;have e1:uU ae target=if ((iH (iR ae target) ae.length).1.drop (iH (iR ae target) ae.length).2.length).all (λa=>decide (al a ae.length=0)) then aa (qt (iH (iR ae target) ae.length) ae.length) else au:=rfl
 have Gb:(iH (iR ae target) ae.length).1.length=target.length:=by have:=(Xz t1 t2 ae.length ah).2.1;rw[<-Xy,iM] at this;omega
 have X3:Ext (h.push [im 0]) H3:=X2.O9 (G3.mu.tO X2.tn) (λb hb=>by
  rcases jm.1 hb with q|q
  ·rw[q];exact jI
  ·exact fG b q)
 have b0:H3.boxes[h.boxes.length]?=aa [im 0]:=X3.box _ _ (bp _ _);have X0:Ext h H3:=(Ext.push h [im 0]).trans X3;obtain⟨k,s,xs,rfl,hs,ff,gI⟩:=hx;obtain⟨ky,sy,rfl,rX⟩:=hy;have dG:(xs.map λa=>[a]).length=ae.length:=by rw[bJ];exact ff
 have ar3:=V.len;generalize cd:iH (iR ae target) ae.length=st at *
 obtain⟨t',pv⟩:=st;dsimp only at *
 have Oe:=OG pv;have kk:=aq.mk (ax T3 (ax V (ax e1 (ax X0 (ax b0 qh)))));clear T2 X2 jI fG t1 t2 tl iM R V e1 Ji G3 X3 b0 X0 T3 hs ff gI rX cd qh bD zW hw ho;have u23:=eY;have u22:=oR;have u203:=Fh;have z23:=jN;have z32:=Zv;obtain⟨off,mO,zV⟩:=aoR (b:=tb) (ah:pv.length<=target.length);have khoff:=aq.mk zV;clear zV;unfold im at *
 refine ec rfl Tryz.func144 rfl ?_;refine bR @El ?_;refine bM.gen λe0 aV cY eV eO=>?_;have f6:e0.get 6=.ptr (.box h.boxes.length) 0:=by rw[aV];exact gS
 have f7:e0.get 7=.v (.int .i64 (ae.length:Nat)):=by rw[aV];exact gS
 have f8:e0.get 8=.arr tb 0 target.length target.length:=by rw[aV];exact gS
 have f9:e0.get 9=.list tk s3 (ints (dg pv)):=by rw[aV];exact gS
 have f28:e0.get 28=.arr tb off (target.length - pv.length) (target.length - pv.length):=by rw[aV];exact gS
 have f29:e0.get 29=.v (.int .i64 ((target.length - pv.length:Nat):Int)):=by rw[aV];exact gS
 have f30:e0.get 30=.v (.int .i64 (0:Nat)):=by rw[aV];exact gR
 have fd:e0.defers=[(177,[.ptr (.box h.boxes.length) 0])]:=by rw[cY];exact gS
 have fp:e0.cO=au:=by rw[eV];exact gS
 clear aV cY eV eO c1 c2 c3 mO;refine de (λm e H=>∃j:Nat,j<=target.length - pv.length/\m=target.length - pv.length - j/\aq (∀i,i<j->∀a,t'[pv.length+i]?=aa a->al a ae.length=0)/\e.get 6=.ptr (.box h.boxes.length) 0/\e.get 7=.v (.int .i64 (ae.length:Nat))/\e.get 8=.arr tb 0 target.length target.length/\e.get 9=.list tk s3 (ints (dg pv))/\e.get 28=.arr tb off (target.length - pv.length) (target.length - pv.length)/\e.get 29=.v (.int .i64 ((target.length - pv.length:Nat):Int))/\e.get 30=.v (.int .i64 (j:Nat))/\e.defers=[(177,[.ptr (.box h.boxes.length) 0])]/\e.cO=au/\H=H3) ?_ (target.length - pv.length) _ _ ?_;rotate_left 1
 ·exact⟨0,df _,rfl,⟨λi hi=>absurd hi (sO _)⟩,f6,f7,f8,f9,f28,f29,f30,fd,fp,rfl⟩
 clear f6 f7 f8 f9 f28 f29 f30 fd fp;rintro m e H3 ⟨j,hj,rfl,kz,g6,g7,g8,g9,g28,g29,g30,hd,hp,rfl⟩;obtain⟨T3,V,e1,X0,b0,qh⟩:=kk.out;have s6:=λn=>YO (n:=n) b0;by_cases az:j<target.length - pv.length
 ·obtain⟨a,ha⟩:∃a,t'[pv.length+j]?=aa a:=⟨_,a9 ah⟩;obtain⟨b,hb⟩:∃b,B3[pv.length+j]?=aa b:=⟨_,a9 (by rw[T3.len];omega)⟩;have wa:=T3.wid a (ez ha);have wL:(B3.map λb=>AV.arr b 0 (ae.length+1) (ae.length+1))[off+j]?=aa (.arr b 0 (ae.length+1) (ae.length+1)):=by rw[khoff.out ah,eR,hb];rfl
  have m1:=vu T3.hY wL;have m2:=yy (T3.row _ _ _ hb ha) (wY (k:=ae.length) ah);have ix1:=ah1 (b:=tb) (off:=off) (aA:=target.length - pv.length) (k:=.i64) az;have ix2:=ur (b:=b) (len:=ae.length+1) (aA:=ae.length+1) (k:=.i64) (ah:ae.length<ae.length+1);have ir:(j:Int)<((target.length - pv.length:Nat):Int):=by omega
  by_cases hz:al a ae.length=0
  ·have kz2:aq (∀i,i<j+1->∀a,t'[pv.length+i]?=aa a->al a ae.length=0):=⟨λi hi a' pY=>by
    rcases dT i j with q|q
    ·exact kz.out i q a' pY
    ·rw[(ah:i=j),ha] at pY;injection pY with pY;rw[<-pY];exact hz⟩
   rw[hz] at m2;unfold im at *
   clear T3 V e1 X0 b0 qh s6 ha hb wa wL hz kz;refine bR @El ?_;exact⟨target.length - pv.length - (j+1),by omega,j+1,by omega,rfl,kz2,by simp⟩
  ·have e2:uU ae target=au:=(by rw[e1,aG];intro q;rw[eE] at q;have:=q a (ez (i:=j) (by rw[pR];exact ha));exact hz (of_decide_eq_true this));have ke:=aq.mk e2;have kX:=aq.mk X0;have kb:=aq.mk b0;have l6:∀n,aF aj Gt (H3.put h.boxes.length [.v (.int .i64 n)]) 32 (.ptr (.box h.boxes.length) 0)=aa (.v (.int .i64 n)):=λn=>Wh (ey (aQ.1 b0).1);unfold im at *
   clear T3 V e1 X0 b0 qh ha hb wa wL kz e2
   repeat' (first|simp(maxSteps:=999999)(disch:=first|exact dZ|fail)only[gW,reduceIte,aY,aR,El,QP (SV _ _), *]|refine dX ?_ ?_<;>(intro _;try omega))
   exact⟨_,_,rfl,kX.out.fI (aJ _) _,.inl ⟨ke.out,rfl⟩⟩
 ·have tC:j=target.length - pv.length:=by omega
  subst tC;have e2:uU ae target=aa (qt (t',pv) ae.length):=by rw[e1,aD];rw[eE];intro a ha;obtain⟨i,hi⟩:=vT ha;rw[pR] at hi;have dG:=(aQ.1 hi).1;exact cz (kz.out i ah a hi)
  rw[<-ak3] at e2;have ke:=aq.mk e2;have mk:=O6 H3 ae.length ah .i64 .i64;have Aa:bm ae.length (im 0)=(pK t' pv ae.length 0).map im:=by unfold pK;rw[gm,Ll,Ip]
  rw[Aa] at mk;clear e1 e2 Aa kz b0 s6 X0 T3 V qh;unfold im at mk;refine bR @El ?_;refine bM.gen λe0 aV cY eV eO=>?_;have f4:e0.get 4=.arr H3.boxes.length 0 ae.length ae.length:=by rw[aV];exact gS
  have f6:e0.get 6=.ptr (.box h.boxes.length) 0:=by rw[aV];simp only[gW,reduceIte,aY,aR];exact g6
  have f7:e0.get 7=.v (.int .i64 (ae.length:Nat)):=by rw[aV];simp only[gW,reduceIte,aY,aR];exact g7
  have f8:e0.get 8=.arr tb 0 target.length target.length:=by rw[aV];simp only[gW,reduceIte,aY,aR];exact g8
  have f42:e0.get 42=.list tk s3 (ints (dg pv)):=by rw[aV];exact gS
  have f43:e0.get 43=.v (.int .i64 (pv.length:Nat)):=by rw[aV];exact gS
  have f44:e0.get 44=.v (.int .i64 (0:Nat)):=by rw[aV];exact gR
  have fd:e0.defers=[(177,[.ptr (.box h.boxes.length) 0])]:=by rw[cY];simp only[gW,reduceIte,aY,aR];exact hd
  have fp:e0.cO=au:=by rw[eV];simp only[gW,reduceIte,aY,aR];exact hp
  clear aV cY eV eO g6 g7 g8 g9 g28 g29 g30 hd hp mk;refine de (λm e H=>∃j:Nat,j<=pv.length/\m=pv.length - j/\e.get 4=.arr H3.boxes.length 0 ae.length ae.length/\e.get 6=.ptr (.box h.boxes.length) 0/\e.get 7=.v (.int .i64 (ae.length:Nat))/\e.get 8=.arr tb 0 target.length target.length/\e.get 42=.list tk s3 (ints (dg pv))/\e.get 43=.v (.int .i64 (pv.length:Nat))/\e.get 44=.v (.int .i64 (j:Nat))/\e.defers=[(177,[.ptr (.box h.boxes.length) 0])]/\e.cO=au/\H=H3.push ((pK t' pv ae.length j).map im)) ?_ pv.length _ _ ?_;rotate_left 1
  ·exact⟨0,df _,rfl,f4,f6,f7,f8,f42,f43,f44,fd,fp,rfl⟩
  clear f4 f6 f7 f8 f42 f43 f44 fd fp;rintro m e H ⟨j,hj,rfl,g4,g6,g7,g8,g42,g43,g44,hd,hp,rfl⟩;obtain⟨T3,V,-,X0,b0,qh⟩:=kk.out;by_cases az:j<pv.length
  ·obtain⟨p,fm⟩:∃p,pv[j]?=aa p:=⟨_,a9 az⟩;have Gs:=V.lt j p fm;have cK:s3=1:=by
    rcases qh with q|⟨q,-⟩
    ·exact q
    ·exfalso;unfold dg at q;rw[EW] at q;rw[q] at az;exact sO _ az
   subst cK;obtain⟨a,ha⟩:∃a,t'[j]?=aa a:=⟨_,a9 ah⟩;obtain⟨b,hb⟩:∃b,B3[j]?=aa b:=⟨_,a9 (by rw[T3.len];omega)⟩;have wa:=T3.wid a (ez ha);have wL:(B3.map λb=>AV.arr b 0 (ae.length+1) (ae.length+1))[j]?=aa (.arr b 0 (ae.length+1) (ae.length+1)):=(by rw[eR,hb];rfl);have Vz:al (dg pv) j=(p:Int):=(by have:(dg pv)[j]?=aa (p:Int):=(by unfold dg;rw[eR,fm];rfl);unfold al;rw[eQ,this];rfl);have l0:=fP (H:=H3.push ((pK t' pv ae.length j).map im)) (l:=dg pv) (i:=j) (s:=1) (by unfold dg;rw[bJ];exact az);rw[Vz] at l0;have m1:=vu (H:=H3.push ((pK t' pv ae.length j).map im)) (aZ T3.hY) wL;have m2:=yy (H:=H3.push ((pK t' pv ae.length j).map im)) (aZ (T3.row _ _ _ hb ha)) (wY (k:=ae.length) ah);have ix1:=D0 (b:=tb) (len:=target.length) (aA:=target.length) (k:=.i64) (ah:j<target.length);have ix2:=ur (b:=b) (len:=ae.length+1) (aA:=ae.length+1) (k:=.i64) (ah:ae.length<ae.length+1);have ix3:=ur (b:=H3.boxes.length) (len:=ae.length) (aA:=ae.length) (k:=.i64) Gs;have sk:=Ez (H:=H3.push ((pK t' pv ae.length j).map im)) (b:=H3.boxes.length) (r:=pK t' pv ae.length j) (k:=p) (x:=al a ae.length) (bp _ _) (by rw[Xw];exact Gs);have gD:t'.getD j []=a:=(by rw[eQ,ha];rfl);rw[ss,<-gD,ak4 fm,gD] at sk;have ir:(j:Int)<(pv.length:Int):=(by omega);have z3:=iQ;unfold im at *
   clear T3 V X0 b0 qh ha hb wa wL gD Vz fm kk ke;refine cq @El @ck ?_;exact⟨pv.length - (j+1),by omega,j+1,by omega,rfl,by simp⟩
  ·have tC:j=pv.length:=(by omega);subst tC;have b1:(H3.push ((pK t' pv ae.length pv.length).map im)).boxes[h.boxes.length]?=aa [im 0]:=aZ b0;have s6:=λn=>YO (n:=n) b1;have N3:=(aQ.1 b1).1;have l6:∀n,aF aj Gt ((H3.push ((pK t' pv ae.length pv.length).map im)).put h.boxes.length [.v (.int .i64 n)]) 32 (.ptr (.box h.boxes.length) 0)=aa (.v (.int .i64 n)):=λn=>Wh (ey N3);have bE:H3.boxes.length≠h.boxes.length:=(by have:=(aQ.1 b0).1;omega);have kX:=aq.mk X0;clear T3 V X0 b0 b1 qh N3
   repeat' (first|simp(maxSteps:=999999)(disch:=first|exact dZ|fail)only[gW,reduceIte,aY,aR,El,QP (SV _ _), *]|refine dX ?_ ?_<;>(intro _;try omega))
   exact⟨_,_,rfl,(kX.out.trans (.push _ _)).fI (aJ _) _,.inr ⟨_,_,ke.out,Xw _ _ _ _,rfl,(cP bE).trans (bp _ _)⟩⟩
def XU:Tryz.f154.results.toList=[.tmp 6]:=aw
def anc:Tryz.f155.results.toList=[.tmp 2]:=aw
def am9:Tryz.f151.results.toList=[.tmp 2]:=aw
def anb:Tryz.f153.results.toList=[.tmp 2]:=aw
def xg:Tryz.f97.results.toList=[.tmp 2]:=aw
def Zq(n a b)(h):W2.call 154 [im n,im a,im b] h=aa (.ret (.v (.bool (decide (a<=n)&&decide (n<=b)))),h):=by
 unfold im;by_cases h0:a<=n
 ·have:decide (a<=n)=ai:=by simp[h0]
  refine cN rfl aa7 rfl ?_;exact jq @XU @Bool.true_and
 ·have:decide (a<=n)=ay:=by simp[h0]
  refine cN rfl aa7 rfl ?_;exact jq @XU @xw
def vD(n:Int):Bool:=decide (0<=n)&&decide (n<=63)
def Xg(n)(h):W2.call 155 [im n] h=aa (.ret (.v (.bool (vD n))),h):=by
 have w:=Zq n 0 63 h;unfold vD;unfold im at *
 refine cN rfl Tryz.func155 rfl ?_;exact mJ @anc
def aiz(a)(r)(ha:IL a r)(h):W2.call 151 [a] h=aa (.ret (.v (.bool (decide (64<r.length)))),h):=by
 obtain⟨k,s,rfl,-⟩:=ha;have u23:=eY;have hl:=eT r;have hd:decide (64<r.length)=decide ((64:Int)<(r.length:Int)):=by rw[decide_eq_decide];omega
 rw[hd];refine cN rfl Tryz.func151 rfl ?_;exact mJ @am9
def ajg(n)(h):W2.call 153 [im n] h=aa (.ret (.v (.bool (!cE n))),h):=by
 have w:=Zq n 0 1073741788 h;have e:cE n=(decide (0<=n)&&decide (n<=1073741788)):=by unfold cE Qi;congr 1;rw[decide_eq_decide];omega
 rw[e];unfold im at *
 refine cN rfl Tryz.func153 rfl ?_;exact mJ @anb
def LX:fY aj 22=aa ay:=aw
def Fi:fY aj 25=aa ai:=aw
def eN{b}:gi aj 25 (.ptr (.box b) 0) 0=aa (.ptr (.box b) 0):=aw
def gq{b}:gi aj 25 (.ptr (.box b) 0) 1=aa (.ptr (.box b) 1):=aw
def vw{H}{b}{x y}(hb:H.boxes[b]?=aa [x,y]):aF aj Gt H 22 (.ptr (.box b) 0)=aa x:=by rw[ma LX hb];rfl
def ON{H}{b}{x y}(hb:H.boxes[b]?=aa [x,y]):aF aj Gt H 23 (.ptr (.box b) 1)=aa y:=by rw[ma mW hb];rfl
def sW(ae:List (List Int))(ag:List Int)(i:Nat):Bool:= !(ae.getD i []).isEmpty&&decide ((ae.getD i []).length=(ae.getD 0 []).length)&&(decide (0<=al ag i)&&decide (al ag i<=63))&&(ae.getD i []).all cE
def S6(h:ao)(x y:AV)(ae:List (List Int))(ag:List Int)(hx:RL x ae)(hy:IL y ag):
 ∃h',W2.call 97 [.agg [x,y]] h=aa (.ret (.v (.int .i64 (dn ae ag))),h')/\h'=h.push [x,y]:=by
 have c1:=λ(hl:ae.length<=64)=>aeg 151 (λr=>decide (64<r.length)) (h.push [x,y]) x ae hx ah (λa r _ ha=>aiz a r ha _);obtain⟨k,s,xs,rfl,hs,ff,gI⟩:=hx;obtain⟨ky,sy,rfl,rX⟩:=hy;have kk:=aq.mk (ax hs (ax gI rX));clear hs gI rX;have u23:=eY;have u22:=oR;have z23:=jN;have z3:=iQ;have dG:(xs.map λa=>[a]).length=ae.length:=by rw[bJ];exact ff
 have tG:=eT ag;have b0:(h.push [.list k s (xs.map λa=>[a]),.list ky sy (ints ag)]).boxes[h.boxes.length]?=aa [.list k s (xs.map λa=>[a]),.list ky sy (ints ag)]:=bp _ _;have l0:=vw b0;have l1:=ON b0;have bx:(AV.agg [.list k s (xs.map λa=>[a]),.list ky sy (ints ag)]).bU=aa [.list k s (xs.map λa=>[a]),.list ky sy (ints ag)]:=rfl;clear b0;unfold dn;refine ij rfl Tryz.func97 rfl ?_;by_cases h1:64<ae.length
 ·have hq:decide ((64:Int)<(ae.length:Int))=ai:=by simp;omega
  rw[aD (by simp[h1])];clear c1;generalize hH:h.push [.list k s (xs.map λa=>[a]),.list ky sy (ints ag)]=H at *
  refine bW @xg @eN @gq (ax @bK @hH) ?_;exact⟨_,rfl,rfl⟩
 have hq:decide ((64:Int)<(ae.length:Int))=ay:=by simp;omega
 have c2:=c1 ah;have hU:decide (64<ae.length)=ay:=by simp[h1]
 rw[hU,ZO];clear c1 hU;cases h2:ae.any λr=>decide (64<r.length) with
 |true=>rw[h2] at c2;rw[aD rfl];clear h2;refine bW @xg @eN @gq @bK ?_;exact⟨_,rfl,rfl⟩|false=>
  rw[h2] at c2;rw[aG bG];by_cases h3:ae.length=ag.length;rotate_left 1
  ·rw[aD h3];clear h2;have hn:¬((ae.length:Int)=(ag.length:Int)):=(by omega);refine bW @xg @eN @gq @bK ?_;exact⟨_,rfl,rfl⟩
  rw[aG (by simpa using h3)];have wD:=aq.mk h2;have hn:(ae.length:Int)=(ag.length:Int):=by omega
  have kn:=aq.mk h3;clear h2 h3;obtain⟨H,hH⟩:∃H,h.push [.list k s (xs.map λa=>[a]),.list ky sy (ints ag)]=H:=⟨_,rfl⟩;rw[hH] at l0 l1 c2;rw[hH];generalize gH:(if ((bL ae.length).all λi=> !(ae.getD i []).isEmpty&&decide ((ae.getD i []).length=(ae.getD 0 []).length)&&(decide (0<=al ag i)&&decide (al ag i<=63))&&(ae.getD i []).all cE)=ai then (0:Int) else 230)=res;have kres:aq (res=if ((bL ae.length).all (sW ae ag))=ai then (0:Int) else 230):=⟨gH.symm⟩;have kH:=aq.mk hH;clear gH hn;have eC:ae.length<=64:=by omega
  have DH:(ag.length:Int)=(ae.length:Int):=by have:=kn.out;omega
  refine bW @xg @eN @gq (ax @bK @hH) ?_;refine bM.gen λe0 aV cY eV eO=>?_;have f1:e0.get 1=.ptr (.box h.boxes.length) 0:=by rw[aV];exact gS
  have f25:e0.get 25=.list k s (xs.map λa=>[a]):=by rw[aV];exact gS
  have f26:e0.get 26=.v (.int .i64 (ae.length:Nat)):=by rw[aV];exact gS
  have f27:e0.get 27=.v (.int .i64 (0:Nat)):=by rw[aV];exact gR
  have fd:e0.defers=[]:=by rw[cY];exact gS
  clear aV cY eV eO hH bx c2 hq h1;refine de (λm e H2=>∃i:Nat,i<=ae.length/\m=ae.length - i/\aq (∀j,j<i->sW ae ag j=ai)/\e.get 1=.ptr (.box h.boxes.length) 0/\e.get 25=.list k s (xs.map λa=>[a])/\e.get 26=.v (.int .i64 (ae.length:Nat))/\e.get 27=.v (.int .i64 (i:Nat))/\e.defers=[]/\H2=H) ?_ ae.length _ _ ?_;rotate_left 1
  ·exact⟨0,df _,rfl,⟨λj hj=>absurd hj (sO _)⟩,f1,f25,f26,f27,fd,rfl⟩
  clear f1 f25 f26 f27 fd;rintro m e H2 ⟨i,hi,rfl,kf,g1,g25,g26,g27,hd,Ut⟩;rw[<-Ut] at l0 l1 kH ⊢;clear Ut;by_cases az:i<ae.length;rotate_left 1
  ·have jz:i=ae.length:=(by omega);subst jz;have h0:res=0:=(by rw[kres.out,aD];rw[eE];intro j hj;exact kf.out j (fD.1 hj));have k0:=aq.mk h0;clear h0;refine bR @xg ?_;exact⟨_,by rw[k0.out],rfl⟩
  have cK:s=1:=kk.out.1 (by intro q;rw[q] at az;simp at az);subst cK;have oB:sy=1:=kk.out.2.2 (by intro q;have h0:=kn.out;rw[q,jP] at h0;omega);subst oB;obtain⟨a,iV⟩:∃a,xs[i]?=aa a:=⟨_,a9 ah⟩;obtain⟨r,hv⟩:∃r,ae[i]?=aa r:=⟨_,a9 az⟩;obtain⟨a0,jd⟩:∃a,xs[0]?=aa a:=⟨_,a9 ah⟩;obtain⟨r0,iN⟩:∃r,ae[0]?=aa r:=⟨_,a9 ah⟩;have ld:=oY (H:=H2) (s:=1) iV;have ld0:=oY (H:=H2) (s:=1) jd;have Bz:=kk.out.2.1 i a r iV hv;obtain⟨ka,sa,rfl,mN⟩:=Bz;obtain⟨ka0,sa0,rfl,um⟩:=kk.out.2.1 0 a0 r0 jd iN;have ej:=eT r;have BT:=eT r0;have ldo:=fP (H:=H2) (l:=ag) (i:=i) (s:=1) (by have:=kn.out;omega);have UK:r.length<=64:=by have:=wD.out;rw[aag] at this;have:=this r (ez hv);simpa using this
  have cc:=Tg 153 (λn=> !cE n) H2 (.list ka sa (ints r)) r ⟨_,_,rfl,mN⟩ ah (λn _=>ajg n H2);have cp:=Xg (al ag i) H2;have wO:sW ae ag i=(!r.isEmpty&&decide (r.length=r0.length)&&vD (al ag i)&&r.all cE):=by unfold sW vD;have g1:ae.getD i []=r:=(by rw[eQ,hv];rfl);have g2:ae.getD 0 []=r0:=(by rw[eQ,iN];rfl);rw[g1,g2]
  have jS:(r.any λn=> !cE n)= !(r.all cE):=by rw[List.any_eq_not_all_not];simp
  rw[jS] at cc;have eZ:=aq.mk wO;have bad:sW ae ag i=ay->res=230:=by intro q;rw[kres.out,aG];intro z;rw[eE] at z;have:=z i (fD.2 az);rw[q] at this;cases this
  have kbad:=aq.mk bad;have ir:(i:Int)<(ae.length:Int):=by omega
  have FK:(0:Int)<(ae.length:Int):=by omega
  have z0:(0:Int).toNat=0:=rfl;clear wO bad jS UK iV hv mN jd iN um;unfold im at *
  generalize al ag i=o at *
  by_cases e1:r.length=0
  ·have rV:decide ((r.length:Int)=0)=ai:=(by simp[e1]);have hb:res=230:=kbad.out (by rw[eZ.out,List.length_eq_zero_iff.1 e1];rfl);have kb:=aq.mk hb;clear hb e1 cc cp;refine bW @xg @eN @gq @ck ?_;exact⟨_,by rw[kb.out],rfl⟩
  have rV:decide ((r.length:Int)=0)=ay:=by simp[e1]
  have ot:r.isEmpty=ay:=by cases r with|nil=>exact absurd rfl e1|cons _ _=>rfl
  by_cases e2:r.length=r0.length;rotate_left 1
  ·have qT:decide ((r.length:Int)=(r0.length:Int))=ay:=(by simp;omega);have hb:res=230:=kbad.out (by rw[eZ.out,ot,cX e2];rfl);have kb:=aq.mk hb;clear hb e1 e2 ot cc cp;refine bW @xg @eN @gq @ck ?_;exact⟨_,by rw[kb.out],rfl⟩
  have qT:decide ((r.length:Int)=(r0.length:Int))=ai:=by simp;omega
  cases e3:vD o with
  |false=>have hb:res=230:=kbad.out (by rw[eZ.out,e3];simp);have kb:=aq.mk hb;rw[e3] at cp;clear hb e1 e2 ot cc e3;refine bW @xg @eN @gq @ck ?_;exact⟨_,by rw[kb.out],rfl⟩
  |true=>
   rw[e3] at cp;cases e4:r.all cE with
   |false=>have hb:res=230:=kbad.out (by rw[eZ.out,e4];simp);have kb:=aq.mk hb;rw[e4] at cc;clear hb e1 e2 ot e3 e4;refine bW @xg @eN @gq @ck ?_;exact⟨_,by rw[kb.out],rfl⟩
   |true=>
    rw[e4] at cc;have kf2:aq (∀j,j<i+1->sW ae ag j=ai):=⟨λj hj=>by
     rcases dT j i with q|q
     ·exact kf.out j q
     ·rw[(ah:j=i),eZ.out,ot,cz e2,e3,e4];rfl⟩
    clear e1 e2 ot e3 e4 eZ kf;refine bW @xg @eN @gq @ck ?_;exact⟨ae.length - (i+1),by omega,i+1,by omega,rfl,kf2,by simp⟩
def Eo:Tryz.f198.results.toList=[.tmp 4,.tmp 5]:=aw
def anr:Tryz.f216.results.toList=[.tmp 4]:=aw
def ans:Tryz.f217.results.toList=[.tmp 2]:=aw
def anv:Tryz.f226.results.toList=[.tmp 2]:=aw
def WH(n)(h):W2.call 226 [im n] h=aa (.ret (.v (.bool ay)),h):=by
 unfold im;refine cN rfl Tryz.func226 rfl ?_
 repeat' (first|simp(maxSteps:=999999)(disch:=first|exact dZ|fail)only[gW,reduceIte,aY,aR,anv,ne_eq,not_true_eq_false,decide_false, *]|refine dX ?_ ?_<;>(intro _;try omega))
def ai1(n)(h):W2.call 217 [im n] h=aa (.ret (.v (.bool ay)),h):=by
 unfold im;refine cN rfl Tryz.func217 rfl ?_
 repeat' (first|simp(maxSteps:=999999)(disch:=first|exact dZ|fail)only[gW,reduceIte,aY,aR,ans,ne_eq,not_true_eq_false,decide_false, *]|refine dX ?_ ?_<;>(intro _;try omega))
def ain(a b)(h):W2.call 216 [im a,im b] h=aa (.ret (.v (.bool (decide (a<b)))),h):=by
 have n1:=WH a h;have n2:=WH b h;unfold im at *
 refine cN rfl Tryz.func216 rfl ?_;exact mJ @anr
def Th(n)(h):mY aj h 179 3 (.v (.int .u64 n))=aa (.v (.int .i64 (IntKind.i64.wrap n)),h):=aw
def Yt{t}{x y}{n}:cQ aj .shr t x y (.v (.int .u64 (n:Nat))) (.v (.int .u64 1))=aa (.v (.int .u64 ((n/2:Nat):Int))):=by rw[A0 aO];congr 3;show((n:Nat):Int).fdiv (2^1)=_;rw[Int.fdiv_eq_ediv_of_nonneg _ aO];simp
def aqZ{n}(h:n<18446744073709551616):IntKind.u64.wrap (n:Nat)=(n:Nat):=by show((n:Nat):Int).emod 18446744073709551616=_;exact Int.emod_eq_of_lt ah ah
def HV(ar:List Int):Prop:=∀i j:Nat,i<j->j<ar.length->al ar i<al ar j
def Fs{l}{i}(h:i<l.length):al l i∈l:=by rw[fx h];exact iS h
def WB{l}{x}(h:x∈l):∃i,i<l.length/\al l i=x:=by obtain⟨i,hi,rfl⟩:=aaq h;exact⟨i,hi,fx hi⟩
def aos(h:ao)(x:AV)(ar:List Int)(o:Int)(hx:IL x ar)(hs:HV ar)(hl:ar.length<=1000000):
 ∃r h',W2.call 198 [x,im o] h=aa (r,h')/\h'=h/\∃i:Int,r=.ret (.tuple [im i,.v (.bool (ar.contains o))]):=by
 obtain⟨k,s,rfl,dV⟩:=hx;have kk:=aq.mk (ax dV hs);clear dV hs;have u23:=eY;have z3:=iQ;have dG:=eT ar;have iW:=λn=>ai1 n h;unfold im at *
 refine ec rfl Tryz.func198 rfl ?_;refine bR @Eo ?_;refine bM.gen λe0 aV cY eV eO=>?_;have f0:e0.get 0=.list k s (ints ar):=by rw[aV];exact gS
 have f1:e0.get 1=.v (.int .i64 o):=by rw[aV];exact gS
 have f6:e0.get 6=.v (.int .i64 (ar.length:Nat)):=by rw[aV];exact gS
 have f7:e0.get 7=.v (.int .i64 (0:Nat)):=by rw[aV];exact gR
 have f8:e0.get 8=.v (.int .i64 (ar.length:Nat)):=by rw[aV];exact gS
 have fd:e0.defers=[]:=by rw[cY];exact gS
 clear aV cY eV eO;refine de (λm e H=>∃lo hi:Nat,lo<=hi/\hi<=ar.length/\m=hi - lo/\aq ((∀j,j<lo->al ar j<o)/\∀j,hi<=j->j<ar.length->o<=al ar j)/\e.get 0=.list k s (ints ar)/\e.get 1=.v (.int .i64 o)/\e.get 6=.v (.int .i64 (ar.length:Nat))/\e.get 7=.v (.int .i64 (lo:Nat))/\e.get 8=.v (.int .i64 (hi:Nat))/\e.defers=[]/\H=h) ?_ ar.length _ _ ?_;rotate_left 1
 ·exact⟨0,ar.length,df _,aJ _,rfl,⟨λj hj=>absurd hj (sO _),λj h1 h2=>by omega⟩,f0,f1,f6,f7,f8,fd,rfl⟩
 clear f0 f1 f6 f7 f8 fd;rintro m e H ⟨lo,hi,h1,h2,rfl,kI,g0,g1,g6,g7,g8,hd,rfl⟩;by_cases az:lo<hi
 ·have cK:s=1:=kk.out.1 (by intro q;rw[q,jP] at h2;omega);subst cK;obtain⟨md,BF⟩:∃md:Nat,(lo+hi)/2=md:=⟨_,rfl⟩;have ld:=fP (H:=H) (l:=ar) (i:=md) (s:=1) ah;have ls:=ain (al ar md) o H;have ir:(lo:Int)<(hi:Int):=by omega
  have zF:(lo:Int)+(hi:Int)=((lo+hi:Nat):Int):=by omega
  have hw1:IntKind.u64.wrap ((lo+hi:Nat):Int)=((lo+hi:Nat):Int):=aqZ ah;have vn:IntKind.i64.wrap (((lo+hi)/2:Nat):Int)=((md:Nat):Int):=by rw[BF];exact fh ah ah
  have arV:(md:Int)<(ar.length:Int):=by omega
  unfold im at ls;by_cases hc:al ar md<o
  ·have F4:decide (al ar md<o)=ai:=(by simp[hc]);rw[F4] at ls;have kI2:aq ((∀j,j<md+1->al ar j<o)/\∀j,hi<=j->j<ar.length->o<=al ar j):=⟨λj hj=>by
    rcases dT j md with q|q
    ·exact Z1 (kk.out.2 j md q ah) hc
    ·rw[(ah:j=md)];exact hc,kI.out.2⟩
   have khm:=aq.mk BF;clear hc F4 BF;refine bW @Eo @ck @uc (ax @Th @Yt) ?_;have:=khm.out;exact⟨hi - (md+1),by omega,md+1,hi,by omega,h2,rfl,kI2,aT,aT,aT,by simp,rfl,aT,aT⟩
  ·have F4:decide (al ar md<o)=ay:=(by simp[hc]);rw[F4] at ls;have kI2:aq ((∀j,j<lo->al ar j<o)/\∀j,md<=j->j<ar.length->o<=al ar j):=⟨kI.out.1,λj hj U8=>by
    rcases dT md j with q|q
    ·have:=kk.out.2 md j q U8;omega
    ·rw[(ah:j=md)];omega⟩
   have khm:=aq.mk BF;clear hc F4 BF;refine bW @Eo @ck @uc (ax @Th @Yt) ?_;have:=khm.out;exact⟨md - lo,by omega,lo,md,by omega,by omega,rfl,kI2,aT,aT,aT,rfl,by simp,aT,aT⟩
 ·have eC:lo=hi:=by omega
  subst eC;have iE:∀j,j<ar.length->al ar j=o->j=lo:=by
   intro j hj he;rcases Nat.lt_trichotomy j lo with q|q|q
   ·have:=kI.out.1 j q;omega
   ·exact q
   ·have h3:=kk.out.2 lo j q hj;have h4:=kI.out.2 lo (aJ _) ah;omega
  by_cases lU:lo<ar.length
  ·have cK:s=1:=kk.out.1 (by intro q;rw[q,jP] at lU;omega);subst cK;have ld:=fP (H:=H) (l:=ar) (i:=lo) (s:=1) lU;have ir:(lo:Int)<(ar.length:Int):=(by omega);have hdI:decide ((lo:Int)<(ar.length:Int))=ai:=(by simp[lU]);by_cases hv:al ar lo=o
   ·have hc:ar.contains o=ai:=(by rw[Ie,cz (by rw[<-hv];exact Fs lU)]);have kc:=aq.mk hc;have hU:decide (al ar lo=o)=ai:=(by simp[hv]);clear hc hv iE;refine cq @Eo @ck ?_;exact⟨_,_,rfl,rfl,_,by rw[kc.out]⟩
   ·have hc:ar.contains o=ay:=(by rw[Ie,cX];intro q;obtain⟨j,j1,j2⟩:=WB q;have:=iE j j1 j2;subst this;exact hv j2);have kc:=aq.mk hc;have hU:decide (al ar lo=o)=ay:=(by simp[hv]);clear hc hv iE;refine cq @Eo @ck ?_;exact⟨_,_,rfl,rfl,_,by rw[kc.out]⟩
  ·have hc:ar.contains o=ay:=(by rw[Ie,cX];intro q;obtain⟨j,j1,j2⟩:=WB q;have:=iE j j1 j2;omega);have kc:=aq.mk hc;have eC:lo=ar.length:=(by omega);subst eC;have hdI:decide ((ar.length:Int)<(ar.length:Int))=ay:=(by simp);clear hc iE;refine cq @Eo @ck ?_;exact⟨_,_,rfl,rfl,_,by rw[kc.out]⟩
def anj:Tryz.f176.results.toList=[.tmp 4]:=aw
def En:Tryz.f197.results.toList=[]:=aw
def ajC(h:ao)(x y z:AV)(bx:(AV.agg [x,y]).bU=aa [x,y])(hz:z.bU=aa [z]):W2.call 176 [.agg [x,y],z] h=aa (.ret (.func (.func 197) [] [.ptr (.box h.boxes.length) 0,.ptr (.box (h.boxes.length+1)) 0]),(h.push [x,y]).push [z]):=by refine cN rfl Tryz.func176 rfl ?_;exact qM @anj @bK @cH
def ajD(l pb wb:Nat)(k0:Tok)(s0:Nat)(xs:List AV)(y z:AV)(ae:List (List Int))(ag ar:List Int)(Inv:Nat->ao->Prop)
 (hy:IL y ag) (hz:IL z ar) (ff:xs.length=ae.length) (tG:ag.length=ae.length) (yl:ae≠[]->s0=1) (FW:HV ar) (ji:ar.length<=1000000) (ej:ae.length<=1000000)
 (h1:∀k H,Inv k H->H.boxes[pb]?=aa [.list k0 s0 (xs.map λa=>[a]),y]/\H.boxes[wb]?=aa [z])
 (hR:∀k a H,k<ae.length->xs[k]?=aa a->ar.contains (al ag k)=ai->Inv k H->∃H',W2.round l [im (k:Nat),a] H=aa (.ret (.v (.bool ai)),H')/\Inv (k+1) H')
 (hS:∀k H,k<ae.length->ar.contains (al ag k)=ay->Inv k H->Inv (k+1) H)
 (H0:ao) (h0:Inv 0 H0):∃H',W2.call 197 [.yield l,.ptr (.box pb) 0,.ptr (.box wb) 0] H0=aa (.ret (.tuple []),H')/\Inv ae.length H':=by
 have kk:=aq.mk (ax h1 (ax hR (ax hS (ax h0 (ax yl (ax FW hz))))));obtain⟨b1,b2⟩:=h1 0 H0 h0;have l1:=vw b1;obtain⟨ky,sy,rfl,rX⟩:=hy;have ksy:=aq.mk rX;clear h1 hR hS h0 yl FW hz b1 b2 rX;have u23:=eY;have u22:=oR;have z3:=iQ;have z23:=jN;have dG:(xs.map λa=>[a]).length=ae.length:=by rw[bJ];exact ff
 have Bz:(ints ag).length=ae.length:=by rw[eT];exact tG
 refine ij rfl Tryz.func197 rfl ?_;refine eg @En @eN @gq ?_;refine de (λm e H=>∃k:Nat,k<=ae.length/\m=ae.length - k/\aq (Inv k H)/\e.get 0=.yield l/\e.get 1=.ptr (.box pb) 0/\e.get 2=.ptr (.box wb) 0/\e.get 9=.list k0 s0 (xs.map λa=>[a])/\e.get 10=.v (.int .i64 (ae.length:Nat))/\e.get 11=.v (.int .i64 (k:Nat))/\e.defers=[]) ?_ ae.length _ _ ?_;rotate_left 1
 ·refine⟨0,df _,rfl,⟨kk.out.2.2.2.1⟩,?_,?_,?_,?_,?_,?_,?_⟩<;>exact gR
 clear l1;rintro m e H ⟨k,hk,rfl,kI,g0,g1,g2,g9,g10,g11,hd⟩;by_cases az:k<ae.length;rotate_left 1
 ·have:k=ae.length:=by omega
  subst this;refine bR @En ?_;exact⟨_,rfl,kI.out⟩
 obtain⟨b1,b2⟩:=kk.out.1 k H kI.out;have cK:s0=1:=kk.out.2.2.2.2.1 (by intro q;rw[q,jP] at az;omega);subst cK;have oB:sy=1:=ksy.out (by intro q;rw[q,jP] at tG;omega);subst oB;obtain⟨a,ha⟩:∃a,xs[k]?=aa a:=⟨_,a9 ah⟩;have ld:=oY (H:=H) (s:=1) ha;have lo:=fP (H:=H) (l:=ag) (i:=k) (s:=1) ah;have l1:=ON b1;have l2:=uu b2;obtain⟨_,H2,cs,e2,i,rfl⟩:=aos H z ar (al ag k) kk.out.2.2.2.2.2.2 kk.out.2.2.2.2.2.1 ji;rw[e2] at cs;clear e2 b1 b2;have ir:(k:Int)<(ae.length:Int):=by omega
 cases hc:ar.contains (al ag k) with
 |true=>
  obtain⟨H',r1,r2⟩:=kk.out.2.1 k a H az ha hc kI.out;rw[hc] at cs;have kI2:=aq.mk r2;clear r2 ha hc kI;unfold im at *
  refine bW @En @eN @gq @ck ?_;refine fQ zh aw ?_;refine bW @En @eN @gq (ax @ck @zf) ?_;exact⟨ae.length - (k+1),by omega,k+1,by omega,rfl,kI2,by simp⟩
 |false=>
  have kI2:=aq.mk (kk.out.2.2.1 k H az hc kI.out);rw[hc] at cs;clear ha hc kI;unfold im at *
  refine bW @En @eN @gq @ck ?_;refine fQ zh aw ?_;refine bW @En @eN @gq (ax @ck @zf) ?_;exact⟨ae.length - (k+1),by omega,k+1,by omega,rfl,kI2,by simp⟩
structure AY(h H:ao)(t1 t2:Tok):Prop where
 c1:dQ h.tn H t1
 c2:dQ h.tn H t2
 ne:∀a,t1=.free a->t2≠ .free a
 ok:dj H=ai
 ext:Ext h H
def Mv{n0}{H}{t k}(hk:dQ n0 H k)(bE:∀a,t=.free a->k≠ .free a):dQ n0 (H.app t) k:=by
 rcases hk with q|q|⟨m,rfl,q1,q2⟩
 ·exact .inl q
 ·exact .inr (.inl q)
 ·refine .inr (.inr ⟨m,rfl,q1,?_⟩);have az:=uP q2;unfold alive at *
  simp only[bA,yP,Ie,decide_eq_false_iff_not,decide_eq_true_eq] at *
  refine⟨by rw[Fp];omega,?_⟩;cases t with
  |free a=>
   intro hm;rcases jm.1 hm with e|e
   ·exact bE a rfl (by rw[e])
   ·exact q2.2 e
  |_=>exact q2.2
def AY.app{h H}{t1 t2}(w:AY h H t1 t2):dQ h.tn (H.app t1) t2/\AY h ((H.app t1).app t2) (.free H.tn) (.free (H.app t1).tn):=by
 have hn:=w.ext.tn;have g1:=Grown.one (n0:=h.tn) w.c1 w.ok hn;have c2:=Mv w.c2 w.ne;have g2:=Grown.one (n0:=h.tn) c2 g1.ok (fc hn g1.tn);refine⟨c2,?_,g2.can,?_,g2.ok,g2.ext (g1.ext w.ext (aJ _)) (aJ _)⟩
 ·refine Mv g1.can λa ha he=>?_;injection he with he;subst he;rcases c2 with q|q|⟨m,q,-,q2⟩
  ·rw[q] at ha;cases ha
  ·rw[q] at ha;cases ha
  ·rw[q] at ha;injection ha with ha;subst ha;rcases w.c2 with z|z|⟨m2,z,-,z2⟩
   ·rw[z] at q;cases q
   ·rw[z] at q;cases q
   ·rw[z] at q;injection q with q;have:=uP z2;omega
 ·intro a ha he;injection ha with ha;injection he with he;rw[Fp] at he;omega
def AY.put{h H}{t1 t2}(w:AY h H t1 t2){b}(hb:h.boxes.length<=b)(cs):AY h (H.put b cs) t1 t2:=⟨w.c1,w.c2,w.ne,w.ok,w.ext.fI hb cs⟩
def xd:Tryz.f143.results.toList=[.cell 4 22,.cell 5 23,.tmp 6,.tmp 7]:=aw
def arb:(gy aj 22).bind AV.bU=aa [.list .nil 0 []]:=aw
def arc:(gy aj 23).bind AV.bU=aa [.list .nil 0 []]:=aw
def aqa:dm aj 22=aa 1:=aw
def abT{H}{k}{n0 sz}{es}{x}(hl:es.length<1000000)(hs:sz=1∨(es=[]/\k=.nil))(hk:dQ n0 H k):
 gd aj H #[22,22] (.list k sz (es.map λa=>[a])) (.list .tight 1 [[x]])=aa (.list (.free H.tn) 1 ((es++[x]).map λa=>[a]),H.app k):=by
 obtain⟨i,q1,q2,q3,q4⟩:=VZ;have hb:=ry (ah:es.length+1<=1000000) q3;have:=Fq (t0:=22) (t1:=22) (n0:=n0) (i:=i) (sz:=sz) (es:=es.map λa=>[a]) (new:=[[x]]) (x:=.list .tight 1 [[x]]) oR (.inl ⟨_,oR⟩) q1 ah (by rw[q2];exact q4) (by rw[q2];rfl) bG
  (by simp only[bJ,iJ,jP,nZ];omega) (by simp only[bJ,iJ,jP];omega) (hs.imp (λq=>q.trans q2.symm) λq=>⟨by rw[q.1];rfl,q.2⟩) hk
 rw[q2] at this;rw[oM];exact this
def jW(xs:List AV)(ag ar:List Int)(k:Nat):List AV:=((bL k).filter λi=>ar.contains (al ag i)).map λi=>xs.getD i default
def jC(ag ar:List Int)(k:Nat):List Nat:=(bL k).filter λi=>ar.contains (al ag i)
def aj6{ag ar}{k}(h:ar.contains (al ag k)=ai):jC ag ar (k+1)=jC ag ar k++[k]:=by unfold jC;rw[oN,CO,ES,aD h];rfl
def aj5{ag ar}{k}(h:ar.contains (al ag k)=ay):jC ag ar (k+1)=jC ag ar k:=by unfold jC;rw[oN,CO,ES,aG (by rw[h];simp)];simp
def aj3{xs}{ag ar}{k}{a}(h:ar.contains (al ag k)=ai)(ha:xs[k]?=aa a):jW xs ag ar (k+1)=jW xs ag ar k++[a]:=by
 have e:xs.getD k default=a:=by rw[eQ,ha];rfl
 unfold jW;rw[oN,CO,ES,aD h,List.filter_nil,oM,ev,List.map_nil,e]
def aj2{xs}{ag ar}{k}(h:ar.contains (al ag k)=ay):jW xs ag ar (k+1)=jW xs ag ar k:=by unfold jW;rw[oN,CO,ES,aG (by rw[h];simp)];simp
def aj1{xs}{ag ar}{k}:(jW xs ag ar k).length<=k:=by unfold jW;rw[bJ];exact fc (Im _ _) bG
def Xf:∀(ar:List Int) (dH:Int),fE dH ar=ai->(∀i,i<ar.length->dH<al ar i)/\HV ar:=by
 intro ar
 induction ar with
 |nil=>exactλ_ _=>⟨λi hi=>absurd hi (sO _),λi j _ hj=>absurd hj (sO _)⟩|cons n l ih=>
  intro dH h;unfold fE at h;simp only[bA,decide_eq_true_eq] at h;obtain⟨i1,i2⟩:=ih n h.2;refine⟨λi hi=>?_,λi j lT hj=>?_⟩
  ·cases i with|zero=>exact h.1.1|succ i=>exact Z1 h.1.1 (i1 i (by simpa using hi))
  ·cases j with
   |zero=>omega|succ j=>
    cases i with|zero=>exact i1 j (by simpa using hj)|succ i=>exact i2 i j ah (by simpa using hj)
def JP{H}{b}{x}(hb:H.boxes[b]?=aa [x]):aF aj Gt H 22 (.ptr (.box b) 0)=aa x:=by rw[ma LX hb];rfl
def QD{H}{b}{x}{k}{s}{es}(hb:H.boxes[b]?=aa [x]):b8 aj H 22 (.ptr (.box b) 0) (.list k s es)=aa (H.put b [.list k s es]):=fw (off:=0) (cs:=[x]) (xs:=[.list k s es]) rfl aqa hb rfl (aJ 1)
def KH{H}{b}{x}{k}{s}{es}(hb:H.boxes[b]?=aa [x]):b8 aj H 23 (.ptr (.box b) 0) (.list k s es)=aa (H.put b [.list k s es]):=fw (off:=0) (cs:=[x]) (xs:=[.list k s es]) rfl jN hb rfl (aJ 1)
def Zd:dm aj 25=aa 2:=aw
def vx{H}{b}{x y}(hb:H.boxes[b]?=aa [x,y]):aF aj Gt H 25 (.ptr (.box b) 0)=aa (.agg [x,y]):=by rw[jj Fi Zd hb (aJ 2)];rfl
def ab9{ar}(h:HV ar)(h0:∀i,i<ar.length-> -1<al ar i):∀i:Nat,i<ar.length->(i:Int)<=al ar i:=by
 intro i
 induction i with
 |zero=>intro hi;have:=h0 0 hi;omega|succ i ih=>intro hi;have h1:=ih ah;have h2:=h i (i+1) ah hi;omega
def ajZ:∀(ar:List Int) (dH:Int),fE dH ar=ai->∀i,i<ar.length->al ar i<=63:=by
 intro ar
 induction ar with
 |nil=>exactλ_ _ i hi=>absurd hi (sO _)|cons n l ih=>
  intro dH h i hi;unfold fE at h;simp only[bA,decide_eq_true_eq] at h;cases i with|zero=>exact h.1.2|succ i=>exact ih n h.2 i (by simpa using hi)
def ab8{ar}(h:fE (-1) ar=ai):ar.length<=64:=by
 obtain⟨h1,h2⟩:=Xf ar (-1) h;rcases dT 64 ar.length with q|q
 ·have h3:=ab9 h2 h1 64 q;have h4:=ajZ ar (-1) h 64 q;omega
 ·exact q
def Yl(k)(s)(l):fC (.list k s (ints l)) (.list k s (ints l))=ai:=by
 have h:su (ints l) (ints l)=ai:=by
  induction l with
  |nil=>simp[ints,su]|cons n l ih=>have:ints (n::l)=[.v (.int .i64 n)]::ints l:=rfl;rw[this];simp[su,rm,fC,me,ih]
 rw[fC,h,Bool.and_true];cases k<;>simp[Ax]
def SG{H:ao}{l}{r}{t}:(H.busy l r).app t=(H.app t).busy l r:=by cases t<;>rfl
def afi{H:ao}{l}{r}{t1 t2}{b1 b2}{c1 c2}:({boxes:=(((((H.busy l r).app t1).app t2).put b1 c1).put b2 c2).boxes,loops:=H.loops,tn:=(((((H.busy l r).app t1).app t2).put b1 c1).put b2 c2).tn,dead:=(((((H.busy l r).app t1).app t2).put b1 c1).put b2 c2).dead}:ao)=(((H.app t1).app t2).put b1 c1).put b2 c2:=by cases t1<;>cases t2<;>rfl
def Ix(h:ao)(L:List gZ)(b1 b2 b3 b4 b5:Nat)(ta xy zz:List AV)(xs:List AV)(ag ar:List Int)(k:Nat)(H:ao):Prop:=
 ∃t1 s1 t2 s2,H.loops=L/\H.boxes[b1]?=aa [.list t1 s1 ((jW xs ag ar k).map λa=>[a])]/\H.boxes[b2]?=aa [.list t2 s2 (ints (dg (jC ag ar k)))]/\(s1=1∨(jW xs ag ar k=[]/\t1=.nil))/\(s2=1∨(dg (jC ag ar k)=[]/\t2=.nil))/\AY h H t1 t2/\H.boxes[b3]?=aa ta/\H.boxes[b4]?=aa xy/\H.boxes[b5]?=aa zz
def akS(l)(k:Nat):dg (l++[k])=dg l++[(k:Int)]:=by unfold dg;simp
def aj4{ag ar}{k}:(dg (jC ag ar k)).length<=k:=by unfold dg jC;rw[bJ];exact fc (Im _ _) bG
def RF(xs:List AV)(ae:List (List Int))(ag ar:List Int)(h:ao)(r:eL)(h':ao):Prop:=
 Ext h h'/\if dn ae ag≠0 then r=.ret (.tuple [.list .nil 0 [],.list .nil 0 [],.list .nil 0 [],.v (.int .i64 (dn ae ag))])
  else if fE (-1) ar=ay then r=.ret (.tuple [.list .nil 0 [],.list .nil 0 [],.list .nil 0 [],.v (.int .i64 1)])
  else ∃k1 s1 k2 s2 tb,r=.ret (.tuple [.list k1 s1 ((jW xs ag ar ae.length).map λa=>[a]),.list k2 s2 (ints (dg (jC ag ar ae.length))),.arr tb 0 (bV ae) (bV ae),.v (.int .i64 0)])/\(s1=1∨(jW xs ag ar ae.length=[]/\k1=.nil))/\(s2=1∨(dg (jC ag ar ae.length)=[]/\k2=.nil))/\h'.boxes[tb]?=aa ((gY (bV ae)).map im)
def akT(h:ao)(k0:Tok)(s0:Nat)(xs:List AV)(y z:AV)(ae:List (List Int))(ag ar:List Int)(hx:RL (.list k0 s0 (xs.map λa=>[a])) ae)(ff:xs.length=ae.length)(hy:IL y ag)(hz:IL z ar)(ji:ar.length<=1099511627776)(ho:dj h=ai):
 ∃r h',W2.call 143 [.agg [.list k0 s0 (xs.map λa=>[a]),y],z] h=aa (r,h')/\RF xs ae ag ar h r h':=by
 obtain⟨H1,c97,e1⟩:=S6 (((h.push [.list k0 s0 (xs.map λa=>[a]),y]).push [.list .nil 0 []]).push [.list .nil 0 []]) _ y ae ag hx hy;have kyz:=aq.mk (ax hx (ax hy (ax hz ho)));have bx:(AV.agg [.list k0 s0 (xs.map λa=>[a]),y]).bU=aa [.list k0 s0 (xs.map λa=>[a]),y]:=by obtain⟨ky,sy,rfl,-⟩:=hy;rfl
 have X1:Ext h H1:=by rw[e1];exact(((Ext.push _ _).trans (.push _ _)).trans (.push _ _)).trans (.push _ _)
 have p0:H1.boxes[h.boxes.length]?=aa [.list k0 s0 (xs.map λa=>[a]),y]:=by rw[e1];exact aZ (aZ (aZ (bp _ _)))
 have p1:H1.boxes[h.boxes.length+1]?=aa [.list .nil 0 []]:=by rw[e1];exact aZ (aZ (ng (by rw[cH])))
 have p2:H1.boxes[h.boxes.length+1+1]?=aa [.list .nil 0 []]:=by rw[e1];exact aZ (ng (by rw[cH,cH]))
 have gu:H1.boxes.length=h.boxes.length+4:=by rw[e1];simp only[cH]
 have vB:dj H1=ai:=X1.ok ho;have l0:aF aj Gt (((h.push [.list k0 s0 (xs.map λa=>[a]),y]).push [.list .nil 0 []]).push [.list .nil 0 []]) 25 (.ptr (.box h.boxes.length) 0)=aa (.agg [.list k0 s0 (xs.map λa=>[a]),y]):=vx (aZ (aZ (bp _ _)));have tn1:H1.tn=h.tn:=by rw[e1];rfl
 have kX:=aq.mk (ax X1 (ax vB (ax gu tn1)));have z22:=arb;have z23:=arc;have kp:=aq.mk (ax p0 (ax p1 p2));have s4:=λ(k:Tok) s es=>QD (k:=k) (s:=s) (es:=es) p1;have Jt:=(aQ.1 p1).1;have qO:=(aQ.1 p2).1;clear e1 X1 p0 gu vB tn1 hx hy ho;unfold RF;refine ec rfl Tryz.func143 rfl ?_;generalize BQ:dn ae ag=pe at *
 by_cases B1:pe=0;rotate_left 1
 ·have s5:b8 aj (H1.put (h.boxes.length+1) [.list .nil 0 []]) 23 (.ptr (.box (h.boxes.length+1+1)) 0) (.list .nil 0 [])=aa ((H1.put (h.boxes.length+1) [.list .nil 0 []]).put (h.boxes.length+1+1) [.list .nil 0 []]):=KH (by rw[cP ah];exact p2);have m1:aF aj Gt ((H1.put (h.boxes.length+1) [.list .nil 0 []]).put (h.boxes.length+1+1) [.list .nil 0 []]) 22 (.ptr (.box (h.boxes.length+1)) 0)=aa (.list .nil 0 []):=JP (by rw[cP ah];exact ey Jt);have m2:aF aj Gt ((H1.put (h.boxes.length+1) [.list .nil 0 []]).put (h.boxes.length+1+1) [.list .nil 0 []]) 23 (.ptr (.box (h.boxes.length+1+1)) 0)=aa (.list .nil 0 []):=uu (ey (by rw[mc];exact qO));have hdz:decide (pe=0)=ay:=by simp[B1]
  clear p1 p2 hz Jt qO;refine eg @xd @bK @cH ?_;exact⟨_,_,rfl,(kX.out.1.fI ah _).fI ah _,by rw[aD B1]⟩
 ·subst B1;obtain⟨kz,sz,rfl,dV⟩:=kyz.out.2.2.1;have ksz:=aq.mk dV;clear dV hz;have u23:=eY;have z3':=iQ;have asb:=eT ar;have kpe:=aq.mk BQ;clear BQ;refine eg @xd @bK @cH ?_;refine bM.gen λe0 aV cY eV eO=>?_;have f1:e0.get 1=.list kz sz (ints ar):=by rw[aV];exact gS
  have f2:e0.get 2=.ptr (.box h.boxes.length) 0:=by rw[aV];exact gS
  have f4:e0.get 4=.ptr (.box (h.boxes.length+1)) 0:=by rw[aV];simp only[gW,reduceIte,aY,aR,cH]
  have f5:e0.get 5=.ptr (.box (h.boxes.length+1+1)) 0:=by rw[aV];simp only[gW,reduceIte,aY,aR,cH]
  have f8:e0.get 8=.v (.int .i64 (-1)):=by rw[aV];exact gS
  have f19:e0.get 19=.list kz sz (ints ar):=by rw[aV];exact gS
  have f20:e0.get 20=.v (.int .i64 (ar.length:Nat)):=by rw[aV];exact gS
  have f21:e0.get 21=.v (.int .i64 (0:Nat)):=by rw[aV];exact gR
  have fd:e0.defers=[]:=by rw[cY];exact gS
  clear aV cY eV eO l0 c97;refine de (λm e H=>∃(i:Nat) (dH:Int),i<=ar.length/\m=ar.length - i/\ -1<=dH/\aq (fE dH (ar.drop i)=fE (-1) ar)/\e.get 1=.list kz sz (ints ar)/\e.get 2=.ptr (.box h.boxes.length) 0/\e.get 4=.ptr (.box (h.boxes.length+1)) 0/\e.get 5=.ptr (.box (h.boxes.length+1+1)) 0/\e.get 8=.v (.int .i64 dH)/\e.get 19=.list kz sz (ints ar)/\e.get 20=.v (.int .i64 (ar.length:Nat))/\e.get 21=.v (.int .i64 (i:Nat))/\e.defers=[]/\H=H1) ?_ ar.length _ _ ?_;rotate_left 1
  ·exact⟨0,-1,df _,rfl,Ld _,⟨rfl⟩,f1,f2,f4,f5,f8,f19,f20,f21,fd,rfl⟩
  clear f1 f2 f4 f5 f8 f19 f20 f21 fd;rintro m e H1 ⟨i,dH,hi,rfl,ox,kP,g1,g2,g4,g5,g8,g19,g20,g21,hd,rfl⟩;by_cases az:i<ar.length
  ·have cK:sz=1:=ksz.out (by intro q;rw[q,jP] at az;omega);subst cK;have ld:=fP (H:=H1) (l:=ar) (s:=1) az;have cp:=Xg (al ar i) H1;have ir:(i:Int)<(ar.length:Int):=(by omega);have tw:ar.drop i=al ar i::ar.drop (i+1):=(by rw[fx az];exact ER az);have qR:=kP.out;rw[tw,fE] at qR;have s5:b8 aj (H1.put (h.boxes.length+1) [.list .nil 0 []]) 23 (.ptr (.box (h.boxes.length+1+1)) 0) (.list .nil 0 [])=aa ((H1.put (h.boxes.length+1) [.list .nil 0 []]).put (h.boxes.length+1+1) [.list .nil 0 []]):=KH (by rw[cP ah];exact p2);have m1:aF aj Gt ((H1.put (h.boxes.length+1) [.list .nil 0 []]).put (h.boxes.length+1+1) [.list .nil 0 []]) 22 (.ptr (.box (h.boxes.length+1)) 0)=aa (.list .nil 0 []):=JP (by rw[cP ah];exact ey Jt);have m2:aF aj Gt ((H1.put (h.boxes.length+1) [.list .nil 0 []]).put (h.boxes.length+1+1) [.list .nil 0 []]) 23 (.ptr (.box (h.boxes.length+1+1)) 0)=aa (.list .nil 0 []):=uu (ey (by rw[mc];exact qO));unfold im vD at *
   generalize al ar i=n at *
   by_cases h1:0<=n/\n<=63
   ·have hU:(decide (0<=n)&&decide (n<=63))=ai:=(by simp[h1.1,h1.2]);rw[hU] at cp;by_cases h2:n<=dH
    ·have jJ:decide (n<=dH)=ai:=(by simp[h2]);have hf:fE (-1) ar=ay:=(by rw[<-qR];simp;omega);have kf:=aq.mk hf;clear qR hf tw p1 p2 h2 h1 kP;refine cq @xd @ck ?_;exact⟨_,_,rfl,(kX.out.1.fI ah _).fI ah _,by rw[aG (by simp[kpe.out]),aD kf.out]⟩
    ·have jJ:decide (n<=dH)=ay:=(by simp;omega);have kP2:aq (fE n (ar.drop (i+1))=fE (-1) ar):=⟨by rw[<-qR,cz (ah:dH<n),cz h1.2];rfl⟩;have h3: -1<=n:=(by omega);clear qR tw p1 p2 h2 h1 kP s4 s5 m1 m2;refine cq @xd @ck ?_;exact⟨ar.length - (i+1),by omega,i+1,n,by omega,rfl,h3,kP2,by simp⟩
   ·have hU:(decide (0<=n)&&decide (n<=63))=ay:=(by simp only[ZN,decide_eq_false_iff_not];omega);rw[hU] at cp;have hf:fE (-1) ar=ay:=(by rw[<-qR];simp only[ZN,decide_eq_false_iff_not];omega);have kf:=aq.mk hf;clear qR hf tw p1 p2 h1 kP;refine cq @xd @ck ?_;exact⟨_,_,rfl,(kX.out.1.fI ah _).fI ah _,by rw[aG (by simp[kpe.out]),aD kf.out]⟩
  ·have jz:i=ar.length:=(by omega);subst jz;have hf:fE (-1) ar=ai:=(by rw[<-kP.out,sK (aJ _)];rfl);have kf:=aq.mk hf;clear hf kP;obtain⟨o1,o2,o3,o4⟩:=qZ kpe.out;obtain⟨n1,n2⟩:=tY kpe.out;have FW:=(Xf ar (-1) kf.out).2;have asc:=ab8 kf.out;have ko:=aq.mk (ax o3 FW);have yb:(ae≠[]->s0=1)/\∀(i:Nat) (a:AV) (r:List Int),xs[i]?=aa a->ae[i]?=aa r->IL a r:=(by obtain⟨k',s',xs',he,BU,-,hh⟩:=kyz.out.1;injection he with _ hse he;have:=(Lr (λx y h=>by injection h)).1 he;subst this;subst hse;exact⟨BU,hh⟩);have kRL:=aq.mk yb;have ko1:=aq.mk o1;have l22:aF aj Gt H1 22 (.ptr (.box h.boxes.length) 0)=aa (.list k0 s0 (xs.map λa=>[a])):=vw kp.out.1;have u22:=oR;have dG:(xs.map λa=>[a]).length=ae.length:=(by rw[bJ];exact ff);have mk:=O6 H1 (bV ae) ah .i64 .i64;have Aa:bm (bV ae) (im 0)=(bm (bV ae) (0:Int)).map im:=(by rw[Ip]);rw[Aa] at mk;have sk:=Ez (H:=H1.push ((bm (bV ae) (0:Int)).map im)) (b:=H1.boxes.length) (r:=bm (bV ae) (0:Int)) (k:=0) (x:=1) (bp _ _) (by rw[qC];exact n1);have Ad:(bm (bV ae) (0:Int)).set 0 1=gY (bV ae):=(by obtain⟨c,hc⟩:∃c,bV ae=c+1:=⟨bV ae - 1,by omega⟩;rw[hc];unfold gY;rw[CP];rfl);rw[ss,Ad] at sk;have ix:dx aj 23 (.arr H1.boxes.length 0 (bV ae) (bV ae)) (.v (.int .i64 0))=aa (.ptr (.box H1.boxes.length) 0):=ur (n:=0) (k:=.i64) n1;have l25:aF aj Gt (H1.push ((gY (bV ae)).map im)) 25 (.ptr (.box h.boxes.length) 0)=aa (.agg [.list k0 s0 (xs.map λa=>[a]),y]):=vx (aZ kp.out.1);have ow:=ajC (H1.push ((gY (bV ae)).map im)) (.list k0 s0 (xs.map λa=>[a])) y (.list kz sz (ints ar)) bx rfl;have kmk:=aq.mk (ax p1 p2);have oq:((0:Nat):Int)=0:=rfl;clear Ad Aa FW o3 o4 o1 yb p1 p2 s4 Jt qO;unfold im at *
   have US:(ae.length=0->bV ae=1)/\∀r0,ae[0]?=aa r0->r0.length=bV ae:=(by refine⟨λq=>by unfold bV;rw[aD q],λr0 q=>?_⟩;exact(ko.out.1 r0 (ez q)).1);have kcols:=aq.mk US;clear US;generalize bV ae=cw at *
   have two:ae.length=0∨0<ae.length:=(by omega);rcases two with eO|eO
   case' inl=>
    have Jk:=kcols.out.1 eO;have hY:¬((0:Int)<(ae.length:Int)):=(by omega);have mk':yz aj H1 23 (.v (.int .i64 1)) (.v (.int .i64 1))=aa (.arr H1.boxes.length 0 cw cw,H1.push ((bm cw (0:Int)).map λn=>.v (.int .i64 n))):=(by have:=mk;rw[show((cw:Nat):Int)=1 by omega] at this;exact this);clear eO mk Jk
    repeat' (first|simp(maxSteps:=999999)(disch:=first|exact dZ|fail)only[gW,reduceIte,aY,aR,xd,eN,gq,ck, *]|refine dX ?_ ?_<;>(intro _;try omega))
   case' inr=>
    obtain⟨a0,jd⟩:∃a,xs[0]?=aa a:=⟨_,a9 ah⟩;obtain⟨r0,iN⟩:∃r,ae[0]?=aa r:=⟨_,a9 ah⟩;have cK:s0=1:=kRL.out.1 (by intro q;rw[q,jP] at eO;omega);have ixr:dx aj 22 (.list k0 s0 (xs.map λa=>[a])) (.v (.int .i64 0))=aa (.elem 1 (xs.map λa=>[a]) 0 0):=(by rw[cK];exact ck u22 jN (Ld _) (by rw[dG];omega));clear cK;have ld0:=oY (H:=H1) (s:=1) jd;obtain⟨ka0,sa0,rfl,-⟩:=kRL.out.2 0 a0 r0 jd iN;have ej:(ints r0).length=cw:=(by rw[eT];exact kcols.out.2 r0 iN);have hY:(0:Int)<(ae.length:Int):=(by omega);have z0:(0:Int).toNat=0:=rfl;have z23':=jN;clear jd iN
    repeat' (first|simp(maxSteps:=999999)(disch:=first|exact dZ|fail)only[gW,reduceIte,aY,aR,xd,eN,gq,ck, *]|refine dX ?_ ?_<;>(intro _;try omega))
   all_goals
    refine bM.gen λe4 fV rP uk rW=>?_;have f4:e4.get 4=.ptr (.box (h.boxes.length+1)) 0:=(by rw[fV];simp only[gW,reduceIte,aY,aR];exact g4);have f5:e4.get 5=.ptr (.box (h.boxes.length+1+1)) 0:=(by rw[fV];simp only[gW,reduceIte,aY,aR];exact g5);have f6:e4.get 6=.arr H1.boxes.length 0 cw cw:=(by rw[fV];exact gS);have f50:e4.get 50=.func (.func 197) [] [.ptr (.box (H1.push ((gY cw).map λn=>.v (.int .i64 n))).boxes.length) 0,.ptr (.box ((H1.push ((gY cw).map λn=>.v (.int .i64 n))).boxes.length+1)) 0]:=(by rw[fV];exact gS);have fd:e4.defers=[]:=(by rw[rP];simp only[gW,reduceIte,aY,aR];exact hd);clear fV rP uk rW g1 g2 g4 g5 g8 g19 g20 g21 hd;refine Ct (by rw[zw];exact f50) λrec w1 w2 w3 w4 w5 w6=>?_;obtain⟨x1,vB,gu,tn1⟩:=kX.out;obtain⟨p0,p1,p2⟩:=kp.out;have X3:Ext h (((H1.push ((gY cw).map im)).push [.list k0 s0 (xs.map λa=>[a]),y]).push [.list kz sz (ints ar)]):=((x1.trans (.push _ _)).trans (.push _ _)).trans (.push _ _);have b0:(((H1.push ((gY cw).map im)).push [.list k0 s0 (xs.map λa=>[a]),y]).push [.list kz sz (ints ar)]).boxes[H1.boxes.length]?=aa ((gY cw).map im):=aZ (aZ (bp _ _));have b1:(((H1.push ((gY cw).map im)).push [.list k0 s0 (xs.map λa=>[a]),y]).push [.list kz sz (ints ar)]).boxes[h.boxes.length+1]?=aa [.list .nil 0 []]:=aZ (aZ (aZ p1));have b2:(((H1.push ((gY cw).map im)).push [.list k0 s0 (xs.map λa=>[a]),y]).push [.list kz sz (ints ar)]).boxes[h.boxes.length+1+1]?=aa [.list .nil 0 []]:=aZ (aZ (aZ p2));have b3:(((H1.push ((gY cw).map im)).push [.list k0 s0 (xs.map λa=>[a]),y]).push [.list kz sz (ints ar)]).boxes[H1.boxes.length+1]?=aa [.list k0 s0 (xs.map λa=>[a]),y]:=aZ (ng (by rw[cH]));have b4:(((H1.push ((gY cw).map im)).push [.list k0 s0 (xs.map λa=>[a]),y]).push [.list kz sz (ints ar)]).boxes[H1.boxes.length+1+1]?=aa [.list kz sz (ints ar)]:=ng (by rw[cH,cH]);have ok3:dj (((H1.push ((gY cw).map im)).push [.list k0 s0 (xs.map λa=>[a]),y]).push [.list kz sz (ints ar)])=ai:=vB;have dy:(((H1.push ((gY cw).map im)).push [.list k0 s0 (xs.map λa=>[a]),y]).push [.list kz sz (ints ar)]).loops.length=H1.loops.length:=rfl;have Dt:h.loops.length<=H1.loops.length:=x1.D5;rw[cH] at f50;unfold im at *
    rw[cH];generalize ((H1.push ((gY cw).map λn=>AV.v (.int .i64 n))).push [.list k0 s0 (xs.map λa=>[a]),y]).push [.list kz sz (ints ar)]=H3 at *
    have arD:h.boxes.length+1<H3.boxes.length:=(aQ.1 b1).1;have arE:h.boxes.length+1+1<H3.boxes.length:=(aQ.1 b2).1;have gv:(H3.loop rec).loops[H1.loops.length]?=aa rec:=(by rw[<-dy];exact @Ch H3 rec);have feed:=ajD H1.loops.length (H1.boxes.length+1) (H1.boxes.length+1+1) k0 s0 xs y (.list kz sz (ints ar)) ae ag ar
     (Ix h (H3.loop rec).loops (h.boxes.length+1) (h.boxes.length+1+1) H1.boxes.length (H1.boxes.length+1) (H1.boxes.length+1+1) ((gY cw).map λn=>.v (.int .i64 n)) [.list k0 s0 (xs.map λa=>[a]),y] [.list kz sz (ints ar)] xs ag ar)
     kyz.out.2.1 kyz.out.2.2.1 ff ko1.out.symm kRL.out.1 ko.out.2 ah ah
     (λk H q=>by obtain⟨_,_,_,_,_,_,_,_,_,_,_,q1,q2⟩:=q;exact⟨q1,q2⟩)
     ?_
     (λk H _ hc q=>by
      unfold Ix at *
      rw[aj2 hc,aj5 hc];exact q)
     (H3.loop rec) ⟨.nil,0,.nil,0,rfl,b1,b2,.inr ⟨rfl,rfl⟩,.inr ⟨rfl,rfl⟩,⟨.inl rfl,.inl rfl,λa q=>(nomatch q),ok3,X3.trans ((Fr.Ai (bn:=H3.boxes.length) (l0:=H3.loops.length) (n0:=H3.tn) H3 rec).ext (aJ _) (aJ _) (aJ _))⟩,b0,b3,b4⟩
    rotate_left 1
    ·rintro k a H hk Bl hc ⟨t1,s1,t2,s2,i1,i2,i3,i4,i5,i6,i7,i8,i9⟩;have ui:H.loops[H1.loops.length]?=aa rec:=(by rw[i1];exact gv);have w:=i6;have q0:(H.busy H1.loops.length rec).boxes=H.boxes:=rfl;have e22:=λhc=>aj3 (xs:=xs) (ag:=ag) (ar:=ar) (k:=k) (a:=a) hc Bl;have e23:=aj6 (ag:=ag) (ar:=ar) (k:=k) hc;have wA:=w.app;refine Hg (Post:=Ix h (H3.loop rec).loops (h.boxes.length+1) (h.boxes.length+1+1) H1.boxes.length (H1.boxes.length+1) (H1.boxes.length+1+1) ((gY cw).map λn=>.v (.int .i64 n)) [.list k0 s0 (xs.map λa=>[a]),y] [.list kz sz (ints ar)] xs ag ar (k+1)) ui (by rw[w2];rfl) w5 w6 ?_;have r1:∀t,(mT H1.loops.length rec [im (k:Nat),a]).get t=if 52=t then a else if 51=t then im (k:Nat) else e4.get t:=λt=>Hd w2 w1
     have d1:(mT H1.loops.length rec [im (k:Nat),a]).defers=[]:=rfl;obtain⟨K,hK⟩:∃K,H.busy H1.loops.length rec=K:=⟨_,rfl⟩;have kc1:dQ h.tn K t1:=(by rw[<-hK];exact w.c1);have kc2:dQ h.tn (K.app t1) t2:=(by rw[<-hK,SG];exact wA.1);have kb1:K.boxes[h.boxes.length+1]?=aa [.list t1 s1 ((jW xs ag ar k).map λa=>[a])]:=(by rw[<-hK];exact i2);have kb2:(K.app t1).boxes[h.boxes.length+1+1]?=aa [.list t2 s2 (ints (dg (jC ag ar k)))]:=(by rw[eS,<-hK];exact i3);have kb22:K.boxes[h.boxes.length+1+1]?=aa [.list t2 s2 (ints (dg (jC ag ar k)))]:=(by rw[<-hK];exact i3);have pl1:=aj1 (xs:=xs) (ag:=ag) (ar:=ar) (k:=k);have pl2:=aj4 (ag:=ag) (ar:=ar) (k:=k);have ap1:=abT (x:=a) (ah:(jW xs ag ar k).length<1000000) i4 kc1;have ap2:=y7 (x:=(k:Int)) (show(dg (jC ag ar k)).length<1099511627776 by omega) i5 kc2;rw[<-e22 hc] at ap1;rw[<-akS,<-e23] at ap2;have lA:=JP kb1;have lB:=uu kb2;have lB0:=uu kb22;have sA:=QD (H:=(K.app t1).app t2) (b:=h.boxes.length+1) (k:=.free K.tn) (s:=1) (es:=(jW xs ag ar (k+1)).map λa=>[a]) (by rw[eS,eS];exact kb1);have sB:=KH (H:=((K.app t1).app t2).put (h.boxes.length+1) [.list (.free K.tn) 1 ((jW xs ag ar (k+1)).map λa=>[a])]) (b:=h.boxes.length+1+1) (k:=.free (K.app t1).tn) (s:=1) (es:=ints (dg (jC ag ar (k+1)))) (by rw[cP ah,eS];exact kb2);have blA:gN aj 22 1 [(0,a)]=aa (.list .tight 1 [[a]]):=(by obtain⟨r',fN⟩:∃r',ae[k]?=aa r':=⟨_,a9 hk⟩;exact Ss a (kRL.out.2 k a r' Bl fN).cell);have blB:=rC (k:Int);have svs:=Yl t2 s2 (dg (jC ag ar k));have eZ:aq (Ix h (H3.loop rec).loops (h.boxes.length+1) (h.boxes.length+1+1) H1.boxes.length (H1.boxes.length+1) (H1.boxes.length+1+1) ((gY cw).map λn=>.v (.int .i64 n)) [.list k0 s0 (xs.map λa=>[a]),y] [.list kz sz (ints ar)] xs ag ar (k+1) ((((H.app t1).app t2).put (h.boxes.length+1) [.list (.free H.tn) 1 ((jW xs ag ar (k+1)).map λa=>[a])]).put (h.boxes.length+1+1) [.list (.free (H.app t1).tn) 1 (ints (dg (jC ag ar (k+1))))])):=by
      have tE:=(aQ.1 i2).1;have jK:=(aQ.1 i3).1;refine⟨_,1,_,1,?_,?_,?_,.inl rfl,.inl rfl,(wA.2.put ah _).put ah _,?_,?_,?_⟩
      ·show((H.app t1).app t2).loops=_;rw[wc,wc];exact i1
      ·rw[cP ah];exact ey (by rw[eS,eS];exact tE)
      ·exact ey (by rw[mc,eS,eS];exact jK)
      ·rw[cP ah,cP ah,eS,eS];exact i7
      ·rw[cP ah,cP ah,eS,eS];exact i8
      ·rw[cP ah,cP ah,eS,eS];exact i9
     clear i1 i2 i3 i4 i5 i6 i7 i8 i9 w wA q0 e22 e23 b0 b1 b2 b3 b4 kb1 kb2 kb22 pl1 pl2 hc Bl kc1 kc2 X3 ok3 dy p0 p1 p2 x1 vB f50;rw[hK];unfold im at *
     rw[w3,w4];refine xY ?_;refine⟨aT,aT,?_⟩;refine bM.gen λe2 jf jJ nM DO=>?_;have q4:e2.get 4=.ptr (.box (h.boxes.length+1)) 0:=(by rw[jf];simp only[gW,reduceIte,aY,aR,r1];exact f4);have q5:e2.get 5=.ptr (.box (h.boxes.length+1+1)) 0:=(by rw[jf];simp only[gW,reduceIte,aY,aR,r1];exact f5);have q12:e2.get 12=.v (.int .i64 k):=(by rw[jf];simp only[gW,reduceIte,aY,aR,r1]);have q13:e2.get 13=a:=(by rw[jf];simp only[gW,reduceIte,aY,aR,r1]);clear jf jJ nM DO r1 d1 w1 w2 w3 w4 w5 w6;refine xY ?_;refine oG [(3,4)] zh aw (λp hp=>?_) ?_
     ·simp only[ph] at hp;subst hp;refine vM (x:=.ptr (.box (h.boxes.length+1+1)) 0) (v:=.list t2 s2 (ints (dg (jC ag ar k)))) aw rfl rfl rfl aw (svs) ?_ ?_<;>(simp only[iK,gm];exact jq @jv.{0} @and_self)
     refine xY ?_;have kf2:=eZ.out;rw[gu] at kf2;refine⟨aT,?_,?_⟩
     ·show((K.app t1).app t2).loops=_;rw[wc,wc]
     ·rw[<-hK,afi,SG];exact kf2
    ·obtain⟨Hf,c1,t1,s1,t2,s2,i1,i2,i3,i4,i5,i6,i7,i8,i9⟩:=feed;rw[dy];refine⟨_,_,c1,rec,by rw[i1];exact gv,by rw[w5];decide,.inl ⟨w6,?_⟩⟩;have hf1:=(aQ.1 i2).1;have zN:=(aQ.1 i3).1;have q1:(Hf.eH H1.loops.length {rec with state:=.exhausted}).boxes[h.boxes.length+1]?=aa [.list t1 s1 ((jW xs ag ar ae.length).map λa=>[a])]:=i2;have q2:(Hf.eH H1.loops.length {rec with state:=.exhausted}).boxes[h.boxes.length+1+1]?=aa [.list t2 s2 (ints (dg (jC ag ar ae.length)))]:=i3;have q7:(Hf.eH H1.loops.length {rec with state:=.exhausted}).boxes[H1.boxes.length]?=aa ((gY cw).map λn=>.v (.int .i64 n)):=i7;have XF:Ext h (Hf.eH H1.loops.length {rec with state:=.exhausted}):=((Fr.Cj (bn:=h.boxes.length) (l0:=h.loops.length) (n0:=h.tn) i6.ext (aJ _)).trans (.eH Dt _)).ext (aJ _) (aJ _) (aJ _);generalize Hf.eH H1.loops.length {rec with state:=.exhausted}=HF at *
     have hg1:=(aQ.1 q1).1;have NG:=(aQ.1 q2).1;have lA:=JP q1;have lB:=uu q2;have sA:=QD (k:=t1) (s:=s1) (es:=(jW xs ag ar ae.length).map λa=>[a]) q1;have lB2:aF aj Gt (HF.put (h.boxes.length+1) [.list t1 s1 ((jW xs ag ar ae.length).map λa=>[a])]) 23 (.ptr (.box (h.boxes.length+1+1)) 0)=aa (.list t2 s2 (ints (dg (jC ag ar ae.length)))):=uu (by rw[cP ah];exact q2);have sB:=KH (H:=HF.put (h.boxes.length+1) [.list t1 s1 ((jW xs ag ar ae.length).map λa=>[a])]) (b:=h.boxes.length+1+1) (k:=t2) (s:=s2) (es:=ints (dg (jC ag ar ae.length))) (by rw[cP ah];exact q2);have eA:=nt q1;have eB:=nt (h:=HF) q2;rw[eA] at sA sB lB2;rw[eB] at sB;have svs:=Yl t2 s2 (dg (jC ag ar ae.length));have eZ:=aq.mk (ax XF (ax i4 (ax i5 q7)));clear q1 q2 q7 XF i1 i2 i3 i4 i5 i6 i7 i8 i9 c1 b0 b1 b2 b3 b4 X3 ok3 dy p0 p1 p2 x1 vB f50 gv w1 w2 w3 w4 w5 w6 eA eB;refine bR @xd ?_;refine oG [(1,3)] zh aw (λp hp=>?_) ?_
     ·simp only[ph] at hp;subst hp;refine yH (x:=.ptr (.box (h.boxes.length+1+1)) 0) (v:=.list t2 s2 (ints (dg (jC ag ar ae.length)))) aw rfl rfl rfl aw (svs) ?_ ?_<;>(simp only[iK,gm];exact jq @xd @and_self)
     refine bR @xd ?_;exact⟨_,_,rfl,eZ.out.1,by rw[aG (by simp[kpe.out]),aG (by simp[kf.out])];exact⟨_,_,_,_,_,rfl,eZ.out.2.1,eZ.out.2.2.1,by rw[<-gu];exact eZ.out.2.2.2⟩⟩
def IL.hold{x}{l}(h:IL x l):IL (aI x) l/\aW 0 0 0 (aI x)=ai:=by obtain⟨k,s,rfl,hs⟩:=h;rw[aI,Vt];exact⟨⟨ct k,s,rfl,hs⟩,by rw[aW,fJ,ud];rfl⟩
def BN:∀xs:List AV,fS (xs.map λa=>[a])=(xs.map aI).map λa=>[a]
 | []=>rfl
 |x::xs=>by rw[ev,fS,BN xs];rfl
def xW:∀xs:List AV,(∀a∈xs,aW 0 0 0 a=ai)->iU 0 0 0 (xs.map λa=>[a])=ai
 | [],_=>rfl
 |x::xs,h=>by rw[ev,iU,xW xs λa ha=>h a (fR _ ha),bg,h x ga];rfl
def RL.hold{k}{s}{xs:List AV}{ae}(h:RL (.list k s (xs.map λa=>[a])) ae):
 RL (.list (ct k) s ((xs.map aI).map λa=>[a])) ae/\∀a∈xs.map aI,aW 0 0 0 a=ai:=by
 obtain⟨k',s',xs',he,hs,hl,hr⟩:=h;injection he with e1 e2 e3;have e4:=(Lr (λx y h=>by injection h)).1 e3;subst e1;subst e2;subst e4;refine⟨⟨ct k,s,xs.map aI,rfl,hs,by rw[bJ];exact hl,λi a r ha fN=>?_⟩,λa ha=>?_⟩
 ·rw[eR] at ha;cases hx:xs[i]? with
  |none=>rw[hx] at ha;cases ha
  |some b=>rw[hx] at ha;injection ha with ha;rw[<-ha];exact(hr i b r hx fN).hold.1
 ·obtain⟨b,hb,rfl⟩:=jE.1 ha;obtain⟨i,hi⟩:=vT hb;have dG:=(aQ.1 hi).1;exact(hr i b _ hi (a9 (by rw[<-hl];exact dG))).hold.2
def L3:List bq:=[28,29,30,46,65,66,69,78,82,94,97,118,119,120,121,123,132,138,140,143,144,146,194,201]
noncomputable def Xo:bq->Option (List AV->ao->Option (AV × ao)):=tX W2 L3
noncomputable abbrev W3:=whole aj Gt Xo
section
variable (a b n x:Int)
def abt:∀h,W3.call 28 [im a,im b] h=aa (.ret (im (cS a b)),h):=cC (L:=L3) rfl rfl rfl (R5 a b _) rfl rfl
def ai0:∀h,W3.call 29 [im a,im b] h=aa (.ret (im (db a b)),h):=cC (L:=L3) rfl rfl rfl (O7 a b _) rfl rfl
def aqJ:∀h,W3.call 46 [im x] h=aa (.ret (.v (.bool (b9 x))),h):=cC (L:=L3) rfl rfl rfl (aqI x _) rfl rfl
def afU:∀h,W3.call 69 [im a,im b] h=aa (.ret (.tuple [im (jy a b),im (nf a b)]),h):=cC (L:=L3) rfl rfl rfl (afT a b _) rfl rfl
def afZ:∀h,W3.call 30 [im a,im n] h=aa (.ret (.tuple [im (eU a n),im (mo a)]),h):=cC (L:=L3) rfl rfl rfl (afY a n _) rfl rfl
def aoc:∀h,W3.call 94 [im x] h=aa (.ret (.v (.bool (b9 x))),h):=cC (L:=L3) rfl rfl rfl (aob x _) rfl rfl
def als:∀h,W3.call 140 [im a,im b] h=aa (.ret (.tuple [im (jy a b),im (nf a b)]),h):=cC (L:=L3) rfl rfl rfl (alr a b _) rfl rfl
def alA:∀h,W3.call 132 [im a,im n] h=aa (.ret (.tuple [im (eU a n),im (mo a)]),h):=cC (L:=L3) rfl rfl rfl (alz a n _) rfl rfl
def alO:∀h,W3.call 120 [im n] h=aa (.ret (.agg (bf 1 n [] .nil 0 [])),h):=cC (L:=L3) rfl rfl rfl (alN n _) rfl rfl
end
def RL.form{x}{ae}(h:RL x ae):∃(k:Tok) (s:Nat) (xs:List AV),x=.list k s (xs.map λa=>[a])/\xs.length=ae.length:=by obtain⟨k,s,xs,he,-,hl,-⟩:=h;exact⟨k,s,xs,he,hl⟩
def RL.qc{x}{ae}(h:RL x ae):RL (aI x) ae/\aW 0 0 0 (aI x)=ai:=by obtain⟨k,s,xs,rfl,-⟩:=h.form;obtain⟨h1,h2⟩:=h.hold;rw[aI,BN];exact⟨h1,by rw[aW,fJ,xW _ h2];rfl⟩
def adQ(x y)(ae)(ag)(hx:RL x ae)(hy:IL y ag):∀h,W3.call 97 [.agg [x,y]] h=aa (.ret (.v (.int .i64 (dn ae ag))),h):=by obtain⟨h1,h2⟩:=hx.qc;obtain⟨h3,h4⟩:=hy.hold;obtain⟨h',hc,-⟩:=S6 ⟨[],[],0,[]⟩ (aI x) (aI y) ae ag h1 h3;exact cC (L:=L3) (dL:=[.agg [aI x,aI y]]) rfl rfl (by simp[bg,aW,h2,h4]) hc rfl rfl
def TP(l):(l.map im).map (λc=>[c])=ints l:=by unfold ints;rw[List.map_map];rfl
def OD{h}{b n}{l}(hb:h.boxes[b]?=aa (l.map im))(hn:l.length=n):gJ h (.arr b 0 n n)=.list .held 1 (ints l):=by subst hn;rw[gJ,hb];simp only;rw[aD (by rw[bJ];omega),List.drop_zero,fK (by rw[bJ];exact aJ _),TP]
def ad9(x y)(ae)(target)(hx:RL x ae)(hy:IL y target)(hr:ae.length<=64)(hw:∀r∈ae,r.length=target.length)(vn:target.length<=64)(bD:∀r∈ae,∀x∈r,okF x)(zW:∀x∈target,okF x):
 (uU ae target=au/\∀h,W3.call 144 [x,y] h=aa (.ret (.tuple [.list .nil 0 [],.v (.bool ay),im 0]),h))∨∃l,uU ae target=aa l/\l.length=ae.length/\∀h,W3.call 144 [x,y] h=aa (.ret (.tuple [.list .held 1 (ints l),.v (.bool ai),im 0]),h):=by
 obtain⟨h1,h2⟩:=hx.qc;obtain⟨h3,h4⟩:=hy.hold;obtain⟨r,h',hc,-,⟨e1,rfl⟩|⟨l,b,e1,e2,rfl,e3⟩⟩:=aea ⟨[],[],0,[]⟩ (aI x) (aI y) ae target h1 h3 hr hw vn bD zW rfl
 ·exact .inl ⟨e1,cC (L:=L3) (dL:=[aI x,aI y]) rfl rfl (by simp[bg,h2,h4]) hc rfl rfl⟩
 ·refine .inr ⟨l,e1,e2,cC (L:=L3) (dL:=[aI x,aI y]) rfl rfl (by simp[bg,h2,h4]) hc ?_ (by simp[aW,bg,ud,AD,im])⟩;rw[gJ,vp,OD e3 e2];rfl
def Xh{xs}{ag ar}{n i:Nat}{a}(h:(jW xs ag ar n)[i]?=aa a):∃j,(jC ag ar n)[i]?=aa j/\j<n/\a=xs.getD j default:=by
 unfold jW at h;rw[eR] at h;cases hj:((bL n).filter λi=>ar.contains (al ag i))[i]? with
 |none=>rw[hj] at h;cases h
 |some j=>rw[hj] at h;injection h with h;exact⟨j,hj,fD.1 (xG.1 (ez hj)).1,h.symm⟩
def akU(k0)(s0)(xs:List AV)(y z)(ae)(ag ar)(hx:RL (.list k0 s0 (xs.map λa=>[a])) ae)(hy:IL y ag)(hz:IL z ar)(ji:ar.length<=1099511627776):
 (dn ae ag≠0/\∀h,W3.call 143 [.agg [.list k0 s0 (xs.map λa=>[a]),y],z] h=aa (.ret (.tuple [.list .nil 0 [],.list .nil 0 [],.list .nil 0 [],.v (.int .i64 (dn ae ag))]),h))∨
 (dn ae ag=0/\fE (-1) ar=ay/\∀h,W3.call 143 [.agg [.list k0 s0 (xs.map λa=>[a]),y],z] h=aa (.ret (.tuple [.list .nil 0 [],.list .nil 0 [],.list .nil 0 [],.v (.int .i64 1)]),h))∨
 (dn ae ag=0/\fE (-1) ar=ai/\∃X A,RL X ((jk ag ar).map λi=>ae.getD i [])/\IL A (dg (jk ag ar))/\∀h,W3.call 143 [.agg [.list k0 s0 (xs.map λa=>[a]),y],z] h=aa (.ret (.tuple [X,A,.list .held 1 (ints (gY (bV ae))),.v (.int .i64 0)]),h)):=by
 obtain⟨h1,h2⟩:=hx.hold;obtain⟨h3,h4⟩:=hy.hold;obtain⟨h5,h6⟩:=hz.hold;have ff:(xs.map aI).length=ae.length:=by obtain⟨_,_,xs',he,-,hl,-⟩:=h1;injection he with _ _ e3;have e4:=(Lr (λx y h=>by injection h)).1 e3;rw[e4];exact hl
 have ea:cA [.agg [.list k0 s0 (xs.map λa=>[a]),y],z]=[.agg [.list (ct k0) s0 ((xs.map aI).map λa=>[a]),aI y],aI z]:=by rw[cA,aI,cA,cA,cA,aI,BN];rfl
 have ef:bg 0 0 0 [.agg [.list (ct k0) s0 ((xs.map aI).map λa=>[a]),aI y],aI z]=ai:=by have hf:=xW _ h2;rw[bg,aW,bg,bg,bg,bg,aW,fJ,hf,h4,h6];rfl
 obtain⟨r,h',hc,-,hp⟩:=akT ⟨[],[],0,[]⟩ (ct k0) s0 (xs.map aI) (aI y) (aI z) ae ag ar h1 ff h3 h5 ji rfl;by_cases q1:dn ae ag≠0
 ·rw[aD q1] at hp;subst hp;exact .inl ⟨q1,cC (L:=L3) rfl ea ef hc rfl rfl⟩
 ·rw[aG q1] at hp;have q1':dn ae ag=0:=Lb.1 q1;cases q2:fE (-1) ar with
  |false=>rw[aD q2] at hp;subst hp;exact .inr (.inl ⟨q1',rfl,cC (L:=L3) rfl ea ef hc rfl rfl⟩)|true=>
   rw[aG (by rw[q2];simp)] at hp;obtain⟨k1,s1,k2,s2,tb,rfl,e1,e2,e3⟩:=hp;obtain⟨o1,-,-,-⟩:=qZ q1';have hN:jC ag ar ae.length=jk ag ar:=(by unfold jC jk;rw[o1]);obtain⟨n1,-⟩:=tY q1';have BW:(gY (bV ae)).length=bV ae:=(by unfold gY;simp;omega);refine .inr (.inr ⟨q1',rfl,.list (ct k1) s1 ((jW (xs.map aI) ag ar ae.length).map λa=>[a]),.list (ct k2) s2 (ints (dg (jk ag ar))),⟨_,_,_,rfl,λbE=>?_,?_,λi a r ha hr=>?_⟩,⟨_,_,rfl,λbE=>?_⟩,cC (L:=L3) rfl ea ef hc ?_ ?_⟩)
   ·rcases e1 with q|⟨q,-⟩
    ·exact q
    ·exfalso;apply bE;rw[<-hN];unfold jW at q;unfold jC;rw[EW] at q;rw[q];rfl
   ·rw[bJ,<-hN];unfold jW jC;rw[bJ]
   ·obtain⟨j,j1,j2,rfl⟩:=Xh ha;rw[hN] at j1;rw[eR,j1] at hr;injection hr with hr;subst hr;obtain⟨_,_,xs',he,-,hl,hh⟩:=h1;injection he with _ _ e5;have e4:=(Lr (λx y h=>by injection h)).1 e5;subst e4;refine hh j _ _ ?_ ?_
    ·rw[eQ,a9 ah];rfl
    ·show ae[j]?=aa (ae.getD j []);rw[eQ,a9 j2];rfl
   ·rcases e2 with q|⟨q,-⟩
    ·exact q
    ·rw[hN] at q;exact absurd q bE
   ·rw[gJ,vp,vp,vp,OD e3 BW,hN];rfl
   ·have nk:iU 0 0 0 ((jW (xs.map aI) ag ar ae.length).map λa=>[a])=ai:=xW _ λa ha=>(by obtain⟨i,hi⟩:=vT ha;obtain⟨j,-,j2,rfl⟩:=Xh hi;refine h2 _ ?_;rw[eQ,a9 ah];exact iS _);cases k1<;>cases k2<;>simp[aW,bg,ct,ud,nk,AD]
def Eu:Tryz.f76.results.toList=[.tmp 4,.tmp 5,.tmp 6]:=aw
def sF(n:Nat)(at_:List Nat)(l:List Int)(j:Nat):List Int:=(at_.zipIdx.take j).foldl (λy p=>y.set p.1 (al l p.2)) (bm n 0)
def YG{n j}{at_}{l}:(sF n at_ l j).length=n:=by unfold sF;rw[FJ (λp=>al l p.2),qC]
def ao5{n j p}{at_}{l}(h:at_[j]?=aa p):(sF n at_ l j).set p (al l j)=sF n at_ l (j+1):=by
 have hz:at_.zipIdx[j]?=aa (p,j):=by rw[aap,h];simp
 unfold sF;rw[gx hz,oL];rfl
def YF{n}{at_}{l}:sF n at_ l at_.length=sD n at_ l:=by unfold sF sD;rw[fK bG]
def akR{l}{j p:Nat}(h:l[j]?=aa p):al (dg l) j=(p:Int):=by
 have:(dg l)[j]?=aa (p:Int):=by unfold dg;rw[eR,h];rfl
 unfold al;rw[eQ,this];rfl
def QZ(ae:List (List Int))(ag ar:List Int)(h:ao)(r:eL)(h':ao):Prop:=
 Ext h h'/\((∃e,iL ae ag ar=([],ay,e)/\r=.ret (.tuple [.list .nil 0 [],.v (.bool ay),.v (.int .i64 e)]))∨∃l b,iL ae ag ar=(l,ai,0)/\l.length=ae.length/\r=.ret (.tuple [.arr b 0 ae.length ae.length,.v (.bool ai),.v (.int .i64 0)])/\h'.boxes[b]?=aa (l.map im))
def abq(h:ao)(k0:Tok)(s0:Nat)(xs:List AV)(y z:AV)(ae:List (List Int))(ag ar:List Int)(hx:RL (.list k0 s0 (xs.map λa=>[a])) ae)(hy:IL y ag)(hz:IL z ar)(ji:ar.length<=1099511627776):
 ∃r h',W3.call 76 [.agg [.list k0 s0 (xs.map λa=>[a]),y],z] h=aa (r,h')/\QZ ae ag ar h r h':=by
 have hq:=akU k0 s0 xs y z ae ag ar hx hy hz ji;obtain⟨_,_,xs',he,ff⟩:=hx.form;have ahF:(xs.map λa=>[a]).length=ae.length:=by injection he with _ _ e5;rw[e5,bJ];exact ff
 have bx:(AV.agg [.list k0 s0 (xs.map λa=>[a]),y]).bU=aa [.list k0 s0 (xs.map λa=>[a]),y]:=by obtain⟨ky,sy,rfl,-⟩:=hy;rfl
 have b0:(h.push [.list k0 s0 (xs.map λa=>[a]),y]).boxes[h.boxes.length]?=aa [.list k0 s0 (xs.map λa=>[a]),y]:=bp _ _;have l25:=vx b0;have l22:=vw b0;have u23:=eY;have u22:=oR;have z3:=iQ;clear he ff hx hy hz b0;unfold QZ;have eA:iL ae ag ar=if dn ae ag≠0 then ([],ay,dn ae ag) else if !fE (-1) ar then ([],ay,1) else match uU ((jk ag ar).map λi=>ae.getD i []) (gY (bV ae)) with|none=>([],ay,0)|some l=>(sD ae.length (jk ag ar) l,ai,0):=rfl
 refine ec rfl Tryz.func76 rfl ?_;rcases hq with⟨q1,c⟩|⟨q1,q2,c⟩|⟨q1,q2,X,A,hX,hA,c⟩
 ·rw[aD q1] at eA;generalize dn ae ag=pe at *
  have hdz:decide (pe=0)=ay:=by simp[q1]
  have ke:=aq.mk eA;clear eA q1;refine cq @Eu @bK ?_;exact⟨_,_,rfl,.push _ _,.inl ⟨pe,ke.out,rfl⟩⟩
 ·rw[aG (by simp[q1]),aD (by rw[q2];rfl)] at eA;have ke:=aq.mk eA;clear eA q1 q2;refine cq @Eu @bK ?_;exact⟨_,_,rfl,.push _ _,.inl ⟨1,ke.out,rfl⟩⟩
 ·rw[aG (by simp[q1]),aG (by rw[q2];simp)] at eA;obtain⟨o1,o2,o3,-⟩:=qZ q1;obtain⟨n1,n2⟩:=tY q1;have BW:(gY (bV ae)).length=bV ae:=by unfold gY;simp;omega
  have JC:∀i∈jk ag ar,i<ae.length:=λi hi=>by unfold jk at hi;rw[o1];exact fD.1 (xG.1 hi).1
  have bO:(jk ag ar).length<=64:=by unfold jk;exact fc (Im _ _) (by rw[List.length_range];omega)
  have dU:∀r∈(jk ag ar).map λi=>ae.getD i [],r∈ae:=λr hr=>by obtain⟨i,hi,rfl⟩:=jE.1 hr;have:=JC i hi;rw[eQ,a9 this];exact iS _
  have wJ:=ad9 X (.list .held 1 (ints (gY (bV ae)))) _ (gY (bV ae)) hX ⟨_,_,rfl,λ_=>rfl⟩ (by rw[bJ];exact bO) (λr hr=>by rw[BW];exact(o3 r (dU r hr)).1) (by rw[BW];exact n2) (λr hr=>(o3 r (dU r hr)).2.2.2) (λx hx=>by
   unfold gY at hx;rcases jm.1 hx with rfl|hx
   ·exact⟨aO,by decide⟩
   ·rw[List.eq_of_mem_replicate hx];exact⟨aO,by decide⟩)
  rcases wJ with⟨e1,c2⟩|⟨l,e1,e2,c2⟩
  ·rw[e1] at eA;have ke:=aq.mk eA;unfold im at c2;clear eA q1 q2 e1 dU JC o3;refine cq @Eu @bK ?_;exact⟨_,_,rfl,.push _ _,.inl ⟨0,ke.out,rfl⟩⟩
  ·rw[e1] at eA;have ke:=aq.mk eA;have mk:=O6 (h.push [.list k0 s0 (xs.map λa=>[a]),y]) ae.length ah .i64 .i64;have Aa:bm ae.length (im 0)=(sF ae.length (jk ag ar) l 0).map im:=(by unfold sF;rw[gm,Ll,Ip]);rw[Aa] at mk;rw[bJ] at e2;have ko:=aq.mk JC;obtain⟨ka,sa,rfl,mN⟩:=hA;have ksa:=aq.mk mN;have fM:=OG (jk ag ar);have dy:=eT l;clear eA q1 q2 e1 dU JC o3 Aa hX mN;unfold im at c2 mk;generalize jk ag ar=ow at *
   clear o1;refine eg @Eu @bK @eN ?_;refine bM.gen λe0 aV cY eV eO=>?_;have f4:e0.get 4=.arr (h.boxes.length+1) 0 ae.length ae.length:=(by rw[aV];simp only[gW,reduceIte,aY,aR,cH]);have f10:e0.get 10=.list .held 1 (ints l):=(by rw[aV];exact gS);have f42:e0.get 42=.list ka sa (ints (dg ow)):=(by rw[aV];exact gS);have f43:e0.get 43=.v (.int .i64 (ow.length:Nat)):=(by rw[aV];exact gS);have f44:e0.get 44=.v (.int .i64 (0:Nat)):=(by rw[aV];exact gR);have fd:e0.defers=[]:=(by rw[cY];exact gS);clear aV cY eV eO mk c c2 l25 l22;have gu:(h.push [.list k0 s0 (xs.map λa=>[a]),y]).boxes.length=h.boxes.length+1:=cH _ _;have X1:Ext h (h.push [.list k0 s0 (xs.map λa=>[a]),y]):=.push _ _;generalize h.push [.list k0 s0 (xs.map λa=>[a]),y]=H1 at *
   have kX:=aq.mk (ax X1 gu);clear X1;refine de (λm e H=>∃j:Nat,j<=ow.length/\m=ow.length - j/\e.get 4=.arr (h.boxes.length+1) 0 ae.length ae.length/\e.get 10=.list .held 1 (ints l)/\e.get 42=.list ka sa (ints (dg ow))/\e.get 43=.v (.int .i64 (ow.length:Nat))/\e.get 44=.v (.int .i64 (j:Nat))/\e.defers=[]/\H=H1.push ((sF ae.length ow l j).map im)) ?_ ow.length _ _ ?_;rotate_left 1
   ·exact⟨0,df _,rfl,f4,f10,f42,f43,f44,fd,rfl⟩
   clear f4 f10 f42 f43 f44 fd;rintro m e H ⟨j,hj,rfl,g4,g10,g42,g43,g44,hd,rfl⟩;by_cases az:j<ow.length
   ·obtain⟨p,fm⟩:∃p,ow[j]?=aa p:=⟨_,a9 az⟩;have Gs:=ko.out p (ez fm);have cK:sa=1:=ksa.out (by intro q;unfold dg at q;rw[EW] at q;rw[q] at az;exact sO _ az);subst cK;have l0:=fP (H:=H1.push ((sF ae.length ow l j).map im)) (l:=dg ow) (i:=j) (s:=1) (by unfold dg;rw[bJ];exact az);rw[akR fm] at l0;have l1:=fP (H:=H1.push ((sF ae.length ow l j).map im)) (l:=l) (i:=j) (s:=1) ah;have ix3:=ur (b:=h.boxes.length+1) (len:=ae.length) (aA:=ae.length) (k:=.i64) Gs;have sk:=Ez (H:=H1.push ((sF ae.length ow l j).map im)) (b:=H1.boxes.length) (r:=sF ae.length ow l j) (k:=p) (x:=al l j) (bp _ _) (by rw[YG];exact Gs);rw[ss,ao5 fm,gu] at sk;have ir:(j:Int)<(ow.length:Int):=(by omega);unfold im at *
    clear fm gu;refine cq @Eu @ck ?_;exact⟨ow.length - (j+1),by omega,j+1,by omega,rfl,by simp⟩
   ·have tC:j=ow.length:=(by omega);subst tC;refine bR @Eu ?_;refine⟨_,_,rfl,kX.out.1.trans (.push _ _),.inr ⟨_,h.boxes.length+1,ke.out,?_,rfl,?_⟩⟩
    ·rw[<-YF,YG]
    ·rw[<-YF];exact ng kX.out.2.symm
def IS(H:ao)(x:AV)(l:List Int):Prop:=IL x l∨∃b,x=.arr b 0 l.length l.length/\H.boxes[b]?=aa (l.map im)
def IS.mono{H H'}{x}{l}(s:IS H x l)(m:∀(c:Nat) cs,H.boxes[c]?=aa cs->H'.boxes[c]?=aa cs):IS H' x l:=by
 rcases s with q|⟨b,q1,q2⟩
 ·exact .inl q
 ·exact .inr ⟨b,q1,m _ _ q2⟩
def IS.len{H}{x}{l}(s:IS H x l):dN aj 23 x=aa (.v (.int .i64 (l.length:Nat))):=by
 rcases s with⟨k,z,rfl,-⟩|⟨b,rfl,-⟩
 ·rw[OX eY,eT]
 ·rw[OW eY]
def IS.at{H:ao}{x:AV}{l:List Int}(s:IS H x l){i:Nat}(hi:i<l.length):∃a,dx aj 23 x (.v (.int .i64 (i:Nat)))=aa a/\∀H':ao,IS H' x l->aF aj Gt H' 3 a=aa (.v (.int .i64 (al l i))):=by
 rcases s with⟨k,z,rfl,hz⟩|⟨b,rfl,hb⟩
 ·have:z=1:=hz (by intro q;rw[q] at hi;exact sO _ hi);subst this;have q:=ck (t:=23) (k:=k) (kk:=.i64) (sz:=1) (es:=ints l) (a:=((i:Nat):Int)) eY iQ ah (by rw[eT];omega);rw[dS] at q;exact⟨_,q,λH' _=>fP hi⟩
 ·refine⟨.ptr (.box b) i,ur (b:=b) (len:=l.length) (aA:=l.length) (n:=i) (k:=.i64) hi,λH' s'=>?_⟩;rcases s' with⟨k,z,e,-⟩|⟨b',e,gQ⟩
  ·cases e
  ·injection e with e1;subst e1;exact yy gQ (wY hi)
def L4:List bq:=[28,29,30,46,65,66,69,76,78,82,94,97,118,119,120,121,123,132,138,140,146,172,194,195,196,201]
noncomputable def Ei:bq->Option (List AV->ao->Option (AV × ao)):=tX W3 L4
noncomputable abbrev W4:=whole aj Gt Ei
def wm:tQ Ei L4:=FC
section
variable (a b n x:Int)
def R6:∀h,W4.call 28 [im a,im b] h=aa (.ret (im (cS a b)),h):=cC (L:=L4) rfl rfl rfl (abt a b _) rfl rfl
def WG:∀h,W4.call 29 [im a,im b] h=aa (.ret (im (db a b)),h):=cC (L:=L4) rfl rfl rfl (ai0 a b _) rfl rfl
def Zm:∀h,W4.call 46 [im x] h=aa (.ret (.v (.bool (b9 x))),h):=cC (L:=L4) rfl rfl rfl (aqJ x _) rfl rfl
def afV:∀h,W4.call 69 [im a,im b] h=aa (.ret (.tuple [im (jy a b),im (nf a b)]),h):=cC (L:=L4) rfl rfl rfl (afU a b _) rfl rfl
def MX:∀h,W4.call 30 [im a,im n] h=aa (.ret (.tuple [im (eU a n),im (mo a)]),h):=cC (L:=L4) rfl rfl rfl (afZ a n _) rfl rfl
def aod:∀h,W4.call 94 [im x] h=aa (.ret (.v (.bool (b9 x))),h):=cC (L:=L4) rfl rfl rfl (aoc x _) rfl rfl
def alu:∀h,W4.call 140 [im a,im b] h=aa (.ret (.tuple [im (jy a b),im (nf a b)]),h):=cC (L:=L4) rfl rfl rfl (als a b _) rfl rfl
def alB:∀h,W4.call 132 [im a,im n] h=aa (.ret (.tuple [im (eU a n),im (mo a)]),h):=cC (L:=L4) rfl rfl rfl (alA a n _) rfl rfl
def alP:∀h,W4.call 120 [im n] h=aa (.ret (.agg (bf 1 n [] .nil 0 [])),h):=cC (L:=L4) rfl rfl rfl (alO n _) rfl rfl
end
def abo(k0)(s0)(xs:List AV)(y z)(ae)(ag ar)(hx:RL (.list k0 s0 (xs.map λa=>[a])) ae)(hy:IL y ag)(hz:IL z ar)(ji:ar.length<=1099511627776):
 (∃e,iL ae ag ar=([],ay,e)/\∀h,W4.call 76 [.agg [.list k0 s0 (xs.map λa=>[a]),y],z] h=aa (.ret (.tuple [.list .nil 0 [],.v (.bool ay),.v (.int .i64 e)]),h))∨
 ∃l,iL ae ag ar=(l,ai,0)/\l.length=ae.length/\∀h,W4.call 76 [.agg [.list k0 s0 (xs.map λa=>[a]),y],z] h=aa (.ret (.tuple [.list .held 1 (ints l),.v (.bool ai),.v (.int .i64 0)]),h):=by
 obtain⟨h1,h2⟩:=hx.hold;obtain⟨h3,h4⟩:=hy.hold;obtain⟨h5,h6⟩:=hz.hold;have ea:cA [.agg [.list k0 s0 (xs.map λa=>[a]),y],z]=[.agg [.list (ct k0) s0 ((xs.map aI).map λa=>[a]),aI y],aI z]:=by rw[cA,aI,cA,cA,cA,aI,BN];rfl
 have ef:bg 0 0 0 [.agg [.list (ct k0) s0 ((xs.map aI).map λa=>[a]),aI y],aI z]=ai:=by have hf:=xW _ h2;rw[bg,aW,bg,bg,bg,bg,aW,fJ,hf,h4,h6];rfl
 obtain⟨r,h',hc,-,⟨e,e1,rfl⟩|⟨l,b,e1,e2,rfl,e3⟩⟩:=abq ⟨[],[],0,[]⟩ (ct k0) s0 (xs.map aI) (aI y) (aI z) ae ag ar h1 h3 h5 ji
 ·exact .inl ⟨e,e1,cC (L:=L4) rfl ea ef hc rfl rfl⟩
 ·refine .inr ⟨l,e1,e2,cC (L:=L4) rfl ea ef hc ?_ (by simp[aW,bg,ud,AD])⟩;rw[gJ,vp,OD e3 e2];rfl
def uE:Tryz.f93.results.toList=[.tmp 2]:=aw
def ajW(h:ao)(x:AV)(l:List Int)(hx:IL x l)(hl:l.length<=9223372036854775807):∃r h',W4.call 93 [x] h=aa (r,h')/\h'=h/\r=.ret (.v (.bool (fE (-1) l))):=by
 obtain⟨k,s,rfl,hs⟩:=hx;have ks:=aq.mk hs;clear hs;have u23:=eY;have z3:=iQ;have dG:=eT l;refine ec rfl Tryz.func93 rfl ?_;refine bR @uE ?_;refine de (λm e H=>∃(i:Nat) (dH:Int),i<=l.length/\m=l.length - i/\aq (fE dH (l.drop i)=fE (-1) l)/\ -1<=dH/\aq (i=0->dH= -1)/\aq (0<i->al l (i - 1)=dH)/\e.get 0=.list k s (ints l)/\e.get 3=.v (.int .i64 (i:Nat))/\e.defers=[]/\H=h) ?_ l.length _ _ ?_;rotate_left 1
 ·refine⟨0,-1,df _,rfl,⟨rfl⟩,Ld _,⟨λ_=>rfl⟩,⟨λq=>absurd q (Rs _)⟩,?_,?_,?_,rfl⟩<;>exact gR
 rintro m e H ⟨i,dH,hi,rfl,kP,ox,k0,k1,g0,g3,hd,rfl⟩;by_cases az:i<l.length;rotate_left 1
 ·have:i=l.length:=by omega
  subst this;have hf:fE (-1) l=ai:=by rw[<-kP.out,sK (aJ _)];rfl
  have kf:=aq.mk hf;clear hf;refine bR @uE ?_;exact⟨_,_,rfl,rfl,by rw[kf.out]⟩
 have cK:s=1:=ks.out (by intro q;rw[q] at az;simp at az);subst cK;have ld:=fP (H:=H) (s:=1) az;have ir:(i:Int)<(l.length:Int):=by omega
 have tw:l.drop i=al l i::l.drop (i+1):=by rw[fx az];exact ER az
 have qR:=kP.out;rw[tw,fE] at qR;have kpf:=aq.mk qR;clear qR tw;by_cases c1:al l i<0
 ·have hU:decide (al l i<0)=ai:=by simp[c1]
  have hf:fE (-1) l=ay:=by rw[<-kpf.out];simp;omega
  have kf:=aq.mk hf;clear hf c1;refine cq @uE @ck ?_;refine fQ wm aw ?_;refine cq @uE @ck ?_;exact⟨_,_,rfl,rfl,by rw[kf.out]⟩
 have hU:decide (al l i<0)=ay:=by simp[c1]
 by_cases c2:64<=al l i
 ·have jJ:decide (64<=al l i)=ai:=by simp[c2]
  have hf:fE (-1) l=ay:=by rw[<-kpf.out];simp;omega
  have kf:=aq.mk hf;clear hf c1 c2;refine cq @uE @ck ?_;refine fQ wm aw ?_;refine cq @uE @ck ?_;exact⟨_,_,rfl,rfl,by rw[kf.out]⟩
 have jJ:decide (64<=al l i)=ay:=by simp;omega
 by_cases hi0:i=0
 ·subst hi0;have DF:=k0.out rfl;have kP2:aq (fE (al l 0) (l.drop (0+1))=fE (-1) l):=⟨by rw[<-kpf.out,cz (ah:dH<al l 0),cz (ah:al l 0<=63)];rfl⟩;have BH: -1<=al l 0:=by omega
  have kk1:aq (0<0+1->al l (0+1 - 1)=al l 0):=⟨λ_=>rfl⟩;clear c1 c2 DF kpf;refine cq @uE @ck ?_;refine fQ wm aw ?_;refine cq @uE @ck ?_;exact⟨l.length - 1,by omega,0+1,al l 0,by omega,rfl,kP2,BH,⟨λq=>absurd q ah⟩,kk1,by simp⟩
 ·have NP:=k1.out ah;have ld1:=fP (H:=H) (l:=l) (i:=i - 1) (s:=1) ah;rw[NP] at ld1;have ahm:decide ((0:Int)<(i:Int))=ai:=cz ah;have jB:(i:Int) - 1=((i - 1:Nat):Int):=by omega
  have arQ:((i - 1:Nat):Int)<(l.length:Int):=by omega
  by_cases c3:al l i<=dH
  ·have wK:decide (al l i<=dH)=ai:=(by simp[c3]);have hf:fE (-1) l=ay:=(by rw[<-kpf.out];simp;omega);have kf:=aq.mk hf;clear hf c1 c2 c3 NP;refine cq @uE @ck ?_;refine fQ wm aw ?_;refine cq @uE @ck ?_;exact⟨_,_,rfl,rfl,by rw[kf.out]⟩
  ·have wK:decide (al l i<=dH)=ay:=(by simp;omega);have kP2:aq (fE (al l i) (l.drop (i+1))=fE (-1) l):=⟨by rw[<-kpf.out,cz (ah:dH<al l i),cz (ah:al l i<=63)];rfl⟩;have BH: -1<=al l i:=(by omega);have kk1:aq (0<i+1->al l (i+1 - 1)=al l i):=⟨λ_=>rfl⟩;clear c1 c2 c3 NP kpf;refine cq @uE @ck ?_;refine fQ wm aw ?_;refine cq @uE @ck ?_;exact⟨l.length - (i+1),by omega,i+1,al l i,by omega,rfl,kP2,BH,⟨λq=>absurd q ah⟩,kk1,by simp⟩
end Go.Proofs.YtnfciiiohoafaaaGreatDoor
end
