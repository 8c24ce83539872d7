/-
  Part of the proof: VE.
-/
import Derived.Test.YtnfciiiohoafaaaGreatDoorVD
open True renaming intro->aX
open Option renaming some->aa,none->ar
open List renaming getElem?_eq_some_iff->aV,mem_of_getElem?->dn,length_set->mS,getElem?_set_self->Mp,getElem?_eq_getElem->aT,mem_or_eq_of_mem_set->vY,range->bR,getElem_map->qN,getElem_range->AX,length_append->dE,length_take->fj,length_drop->hD,getElem?_map->ev,length_map->bE,map_set->acb,set_eq_take_append_cons_drop->A2,getElem?_set->mA,set_set->Db,contains_eq_mem->C9,set_set_perm->ack,length_cons->jn,length_nil->jY,map_append->mT,getElem_of_mem->ab3,mem_append->vX,mem_of_mem_take->oO,mem_map->ju,getElem?_of_mem->tT,range_succ->nH,foldl_append->oM,getD_eq_getElem?_getD->dS,mem_cons_self->gj,mem_singleton->lu,take_succ_cons->gl,take_zero->fm,mem_cons_of_mem->fN,replicate->bg,replicate_succ->A1,append_nil->jX,getElem?_append_left->rK,getElem?_concat_length->FH,take_of_length_le->gO,take_length->fI,any_append->Mm,any_eq_true->FE,nil_append->mC,any_eq_false->abR,length_replicate->mB,getElem?_zipIdx->ab2,mem_cons->iq,all_eq_true->ej,getElem?_drop->oN,foldl_nil->FG,map_replicate->xQ,map_eq_nil_iff->FL,mem_range->gB,getElem_mem->iG,filter_append->zB,filter_cons->FF,map_cons->eK,length_filter_le->FK,drop_eq_getElem_cons->xP,drop_of_length_le->pZ,map_inj_right->Mt,mem_filter->uL,all_eq_false->C8
open Go.Proofs.Tryz renaming prog->aq,underlying23->dN,underlying203->F1,underlying22->ir,func218->acX,func154->acP
open And renaming intro->av
open Nat renaming reduceEqDiff->aZ,le_refl->aM,le_trans->fJ,mul_le_mul->p7,zero_add->po,zero_le->cG,not_lt_zero->qO,lt_or_ge->dV,lt_irrefl->FW,sub_self->tU
open Bool renaming true->ai,and_eq_true->bL,not_eq_true'->zj,false->az,false_or->abu,false_and->xG,and_eq_false_iff->abr
open Int renaming zero_sub->Sm,le_refl->Mh,toNat_natCast->dK,lt_trans->abH
open Go renaming FuncId->bm
open Decidable renaming not_not->IM
set_option maxHeartbeats 64000000
set_option maxRecDepth 100000
set_option linter.unusedSimpArgs false
set_option linter.unusedVariables false
set_option linter.constructorNameAsVariable false
set_option linter.defProp false
section
namespace Go.Proofs.YtnfciiiohoafaaaGreatDoor
open Go.AE Go.NT
def Q2:Tryz.f203.results.toList=[]:=aw
structure jQ(H:ao)(tb:Nat)(B:List Nat)(t:List (List Int))(w:Nat):Prop where
 gQ:H.boxes[tb]?=aa (B.map λb=>AV.arr b 0 w w)
 len:B.length=t.length
 nd:B.Nodup
 row:∀(i b:Nat) (r:List Int),B[i]?=aa b->t[i]?=aa r->H.boxes[b]?=aa (r.map im)
 wid:∀r∈t,r.length=w
 out:tb∉B
def Yo{l:List Nat}(h:l.Nodup){i j x:Nat}(hi:l[i]?=aa x)(hj:l[j]?=aa x):i=j:=by obtain⟨h1,e1⟩:=aV.1 hi;obtain⟨h2,e2⟩:=aV.1 hj;exact(List.getElem_inj h).1 (e1.trans e2.symm)
def jQ.set{H}{tb w i b}{B}{t}(T:jQ H tb B t w)(hi:B[i]?=aa b){r}(hr:r.length=w):jQ (H.put b (r.map im)) tb B (t.set i r) w:=by
 have cK:=(aV.1 hi).1;have yo:=dn hi;refine⟨?_,by rw[mS];exact T.len,T.nd,λj b' r' hj fY=>?_,λr' fY=>?_,T.out⟩
 ·rw[dg (λe=>T.out (by rw[e];exact yo))];exact T.gQ
 ·by_cases GI:j=i
  ·subst GI;rw[hi] at hj;injection hj with hj;subst hj;rw[Mp (by rw[<-T.len];exact cK)] at fY;injection fY with fY;subst fY;have ku:j<t.length:=(by rw[<-T.len];exact cK);exact eP (aV.1 (T.row j b _ hi (aT ku))).1
  ·have bO:b'≠b:=λe=>GI (Yo T.nd (by rw[<-e];exact hj) hi);rw[dg bO];rw[List.getElem?_set_ne (λe=>GI e.symm)] at fY;exact T.row j b' r' hj fY
 ·rcases vY fY with q|q
  ·exact T.wid r' q
  ·rw[q];exact hr
def jQ.mono{H H'}{tb w}{B}{t}(T:jQ H tb B t w)(m:∀(c:Nat) cs,H.boxes[c]?=aa cs->H'.boxes[c]?=aa cs):jQ H' tb B t w:=
 ⟨m _ _ T.gQ,T.len,T.nd,λi b r hi hr=>m _ _ (T.row i b r hi hr),T.wid,T.out⟩
def mY(n:Int)(a own:List Int)(c k:Nat):List Int:=(bR a.length).map λj=>if c<=j/\j<k then jT n (ak a j) (ak own j) else ak a j
def tX{n}{a own}{c k}:(mY n a own c k).length=a.length:=by unfold mY;simp
def Ge{n}{a own}{c k j}(hj:j<a.length):ak (mY n a own c k) j=if c<=j/\j<k then jT n (ak a j) (ak own j) else ak a j:=by rw[ga (by rw[tX];exact hj)];unfold mY;rw[qN,AX]
def agE{n}{a own}{c}:mY n a own c c=a:=by refine xl tX λj hj=>?_;rw[tX] at hj;rw[Ge hj,aH ah]
def agD{n}{a own}{c k}(hc:c<=k)(hk:k<a.length):(mY n a own c k).set k (jT n (ak a k) (ak own k))=mY n a own c (k+1):=by
 refine xl (by rw[mS,tX,tX]) λj hj=>?_;rw[mS,tX] at hj;rw[Jg (by rw[tX];exact hk),Ge hj,Ge hj];by_cases Aj:j=k
 ·subst Aj;rw[aG rfl,aG ah]
 ·rw[aH Aj];by_cases q:c<=j/\j<k
  ·rw[aG q,aG ah]
  ·rw[aH q,aH ah]
def agC{n}{a own}{c}(hl:a.length=own.length)(hc:c<=a.length):mY n a own c a.length=a.take c++jb n (a.drop c) (own.drop c):=by
 have hd:(a.drop c).length=(own.drop c).length:=by simp[hl]
 refine xl (by rw[tX,dE,vy hd,fj,hD];omega) λj hj=>?_;rw[tX] at hj;rw[Ge hj,Ds hc];by_cases q:j<c
 ·rw[aH ah,aG q]
 ·rw[aG ah,aH q,wj hd (by rw[hD];omega),Jf,Jf,(ah:c+(j - c)=j)]
def xd{r}{k}(hk:k<r.length):(r.map im)[k]?=aa (im (ak r k)):=by rw[ev,aT hk,ga hk];rfl
def y8{H}{b k}{r:List Int}{x}(hb:H.boxes[b]?=aa (r.map im))(hk:k<r.length):cI aq H 3 (.ptr (.box b) k) (.v (.int .i64 x))=aa (H.put b ((r.set k x).map im)):=by rw[ig (xs:=[im x]) rfl fH hb rfl (by rw[bE];exact hk)];congr 2;unfold eT;rw[acb,A2,aG (by rw[bE];exact hk)];simp
def yT{x}(h:okF x):0<=x/\x<=9223372036854775807:=by obtain⟨h1,h2⟩:=h;have:Qi=1073741789:=rfl;omega
def afP(h:ao)(tb:Nat)(B:List Nat)(t:List (List Int))(w i y c:Nat)(a own:List Int)(T:jQ h tb B t w)(hi:t[i]?=aa a)(hy:t[y]?=aa own)(bO:i≠y)(hc:c<w)(hw:w<=1000000)(bJ:∀r∈t,∀x∈r,okF x):
 ∃h',W2.call 203 [.arr tb 0 B.length B.length,im (i:Nat),im (y:Nat),im (c:Nat)] h=aa (.ret (.tuple []),h')/\jQ h' tb B (t.set i (uV c a own)) w/\∀n0,gm B n0 h h':=by
 have cK:=(aV.1 hi).1;have yI:=(aV.1 hy).1;obtain⟨bi,uf⟩:∃b,B[i]?=aa b:=⟨_,aT (by rw[T.len];exact cK)⟩;obtain⟨bY,JR⟩:∃b,B[y]?=aa b:=⟨_,aT (by rw[T.len];exact yI)⟩;have ra:=T.row i bi a uf hi;have ro:=T.row y bY own JR hy;have wa:=T.wid a (dn hi);have wo:=T.wid own (dn hy);have ue:bi≠bY:=λe=>bO (Yo T.nd (by rw[e] at uf;exact uf) JR);have wN:=(aV.1 T.gQ).1;have au2:=(aV.1 ra).1;have au5:=(aV.1 ro).1;have ajW:tb≠bi:=λe=>T.out (by rw[e];exact dn uf);have V3:(B.map λb=>AV.arr b 0 w w)[i]?=aa (.arr bi 0 w w):=by rw[ev,uf];rfl
 have hdy:(B.map λb=>AV.arr b 0 w w)[y]?=aa (.arr bY 0 w w):=by rw[ev,JR];rfl
 have oka:=bJ a (dn hi);have oko:=bJ own (dn hy);have Oz:i<B.length:=by rw[T.len];exact cK
 have hyB:y<B.length:=by rw[T.len];exact yI
 have z3:=LW;have bx1:∀b n m:Nat,(AV.arr b 0 n m).cD=aa [.arr b 0 n m]:=λ_ _ _=>rfl;have bx2:∀n:Int,(AV.v (.int .i64 n)).cD=aa [.v (.int .i64 n)]:=λ_=>rfl;have ixi:=Es (b:=tb) (len:=B.length) (aC:=B.length) (k:=.i64) Oz;have ixy:=Es (b:=tb) (len:=B.length) (aC:=B.length) (k:=.i64) hyB;have ixc:=qy (b:=bi) (len:=w) (aC:=w) (k:=.i64) hc;have n0:=yT (p9 oka c);have unf:uV c a own=if ak a c=0 then a else mY (ak a c) a own c w:=by unfold uV;rw[<-wa,agC ah ah]
 rw[unf];clear unf;generalize hn:ak a c=n at *
 have Aa:∀(z:AV) (cs ds:List AV),((h.push cs).push ds).boxes[tb]?=aa (B.map λb=>AV.arr b 0 w w)/\((h.push cs).push ds).boxes[bi]?=aa (a.map im):=λz cs ds=>⟨bA (bA T.gQ),bA (bA ra)⟩;generalize nM:(h.push [.arr tb 0 B.length B.length]).push [im (i:Nat)]=H2;have l1:∀cs,aI aq Gt (H2.push cs) 203 (.ptr (.box h.boxes.length) 0)=aa (.arr tb 0 B.length B.length):=λcs=>wZ (by rw[<-nM];exact bA (bA (bh _ _)));have l1':aI aq Gt H2 203 (.ptr (.box h.boxes.length) 0)=aa (.arr tb 0 B.length B.length):=wZ (by rw[<-nM];exact bA (bh _ _));have l2:aI aq Gt H2 3 (.ptr (.box (h.boxes.length+1)) 0)=aa (.v (.int .i64 (i:Nat))):=jN (by rw[<-nM];exact nb (by rw[cX]));have l3:aI aq Gt H2 23 (.ptr (.box tb) i)=aa (.arr bi 0 w w):=ri (by rw[<-nM];exact bA (bA T.gQ)) V3;have l4:aI aq Gt H2 3 (.ptr (.box bi) c)=aa (.v (.int .i64 n)):=by have:=yR (k:=c) (x:=im (ak a c)) (show H2.boxes[bi]?=aa (a.map im) by rw[<-nM];exact bA (bA ra)) (xd ah);rw[hn] at this;exact this
 have l5:aI aq Gt (H2.push [.v (.int .i64 n)]) 3 (.ptr (.box H2.boxes.length) 0)=aa (.v (.int .i64 n)):=jN (bh _ _);have s5:cI aq (H2.push [im 0]) 3 (.ptr (.box H2.boxes.length) 0) (.v (.int .i64 n))=aa (H2.push [.v (.int .i64 n)]):=l9 rfl fH rfl rfl;have l6:∀cs,aI aq Gt (H2.push cs) 23 (.ptr (.box tb) y)=aa (.arr bY 0 w w):=λcs=>ri (by rw[<-nM];exact bA (bA (bA T.gQ))) hdy;have kH2l:al (H2.boxes.length=h.boxes.length+2):=⟨by rw[<-nM,cX,cX]⟩;have kM2:al (∀n0,gm B n0 h H2):=⟨λn0=>by rw[<-nM];exact(gm.refl.push _).push _⟩;have kT2:al (jQ H2 tb B t w):=⟨T.mono λcc cs q=>by rw[<-nM];exact bA (bA q)⟩;have e0:(h.push [AV.arr tb 0 B.length B.length]).push [.v (.int .i64 (i:Nat))]=H2:=nM;have kL2:al (H2.loops=h.loops):=⟨by rw[<-nM];rfl⟩;have kb0:al (H2.boxes[h.boxes.length]?=aa [.arr tb 0 B.length B.length]):=⟨by rw[<-nM];exact bA (bh _ _)⟩;have kb1:al (H2.boxes[h.boxes.length+1]?=aa [im (i:Nat)]):=⟨by rw[<-nM];exact nb (by rw[cX])⟩;have e1:(h.push [AV.arr tb 0 B.length B.length]).boxes.length=h.boxes.length+1:=cX _ _;have kT:=al.mk T;have ko:=al.mk (av oka oko);clear Aa wN T ra ro bJ oka oko nM;unfold im at *
 refine iu rfl Tryz.func203 rfl ?_;by_cases hz:n=0
 ·subst hz;rw[aG rfl];refine bV @Q2 @bB ?_;exact⟨_,rfl,by
   have e:t.set i a=t:=by
    apply List.ext_getElem?;intro j;rw[mA];split
    ·rename_i q;subst q;exact hi.symm
    ·rfl
   rw[e];exact kT2.out.mono λcc cs q=>bA q,λn0=>(kM2.out n0).push _⟩
 ·rw[aH hz];have af:=Tc bY w c (H2.push [.v (.int .i64 n)]);unfold im at af;refine bV @Q2 @bB ?_;refine bM.gen λe he hd hp kC=>?_;have g4:e.get 4=.ptr (.box h.boxes.length) 0:=by rw[he];exact gS
  have g5:e.get 5=.ptr (.box (h.boxes.length+1)) 0:=by rw[he];exact gS
  have g8:e.get 8=.ptr (.box H2.boxes.length) 0:=by rw[he];exact gS
  have g25:e.get 25=.func (.func 219) [] [.ptr (.box (H2.boxes.length+1+1)) 0,.ptr (.box (H2.boxes.length+1)) 0]:=by rw[he];simp only[gW,reduceIte,aZ,aQ];simp only[cX]
  have hdf:e.defers=[]:=by rw[hd];exact gS
  clear he hd hp kC;refine E4 (by rw[Bq];exact g25) λrec w1 w2 w3 w4 w5 w6=>?_;have hkk:=kH2l.out;have VJ:=kT2.out;have bJ:=ko.out;have VD:∀n0,gm B n0 h (((H2.push [.v (.int .i64 n)]).push [.arr bY 0 w w]).push [.v (.int .i64 c)]):=λn0=>(((kM2.out n0).push _).push _).push _;have Gw:jQ (((H2.push [.v (.int .i64 n)]).push [.arr bY 0 w w]).push [.v (.int .i64 c)]) tb B t w:=VJ.mono λcc cs q=>bA (bA (bA q));have p0:(((H2.push [.v (.int .i64 n)]).push [.arr bY 0 w w]).push [.v (.int .i64 c)]).boxes[H2.boxes.length]?=aa [.v (.int .i64 n)]:=bA (bA (bh _ _));have p1:(((H2.push [.v (.int .i64 n)]).push [.arr bY 0 w w]).push [.v (.int .i64 c)]).boxes[H2.boxes.length+1]?=aa [.arr bY 0 w w]:=bA (nb (by rw[cX]));have p2:(((H2.push [.v (.int .i64 n)]).push [.arr bY 0 w w]).push [.v (.int .i64 c)]).boxes[H2.boxes.length+1+1]?=aa [.v (.int .i64 c)]:=nb (by rw[cX,cX]);have p3:(((H2.push [.v (.int .i64 n)]).push [.arr bY 0 w w]).push [.v (.int .i64 c)]).boxes[h.boxes.length]?=aa [.arr tb 0 B.length B.length]:=bA (bA (bA kb0.out));have p4:(((H2.push [.v (.int .i64 n)]).push [.arr bY 0 w w]).push [.v (.int .i64 c)]).boxes[h.boxes.length+1]?=aa [.v (.int .i64 i)]:=bA (bA (bA kb1.out));have pL:(((H2.push [.v (.int .i64 n)]).push [.arr bY 0 w w]).push [.v (.int .i64 c)]).loops=h.loops:=kL2.out;generalize ((H2.push [.v (.int .i64 n)]).push [.arr bY 0 w w]).push [.v (.int .i64 c)]=H3 at *
  have VC:H3.loops.length=h.loops.length:=congrArg List.length pL;rw[VC];clear pL;clear l1 l1' l2 l3 l4 l5 s5 l6 e0 e1 af VJ kb0 kb1;have dJ:=Gw.row i bi a uf hi;have Pg:=Gw.row y bY own JR hy;have mh:=(aV.1 dJ).1;have yH:=(aV.1 (kT.out.gQ)).1;have au4:=(aV.1 (kT.out.row i bi a uf hi)).1;have ji:(H3.loop rec).loops[h.loops.length]?=aa rec:=by rw[<-VC];exact @EB H3 rec
  have I1:∀(k:Nat) (H:ao),H=(H3.loop rec).put bi ((mY n a own c k).map im)->H.boxes[H2.boxes.length+1+1]?=aa [im (c:Nat)]/\H.boxes[H2.boxes.length+1]?=aa [.arr bY 0 w w]/\(k<w->∃cs,H.boxes[bY]?=aa cs/\cs[k]?=aa (im (ak own k))):=by
   rintro k H rfl;refine⟨?_,?_,λhk=>⟨_,?_,xd ah⟩⟩
   ·rw[dg ah];exact p2
   ·rw[dg ah];exact p1
   ·rw[dg (Ne.symm ue)];exact Pg
  have I2:∀(k:Nat) (H:ao),c<=k->k<w->H=(H3.loop rec).put bi ((mY n a own c k).map im)->∃H',W2.round h.loops.length [im (k:Nat),im (ak own k)] H=aa (.ret (.v (.bool ai)),H')/\H'=(H3.loop rec).put bi ((mY n a own c (k+1)).map im):=by
   rintro k H Ak D3 rfl;refine KY (Post:=λH=>H=(H3.loop rec).put bi ((mY n a own c (k+1)).map im)) ji (by rw[w2];rfl) w5 w6 ?_;have kq:=agD (n:=n) (own:=own) Ak (ah:k<a.length);have cat:ak (mY n a own c k) k=ak a k:=(by rw[Ge ah,aH ah]);have r1:∀t,(nX h.loops.length rec [im (k:Nat),im (ak own k)]).get t=if 27=t then im (ak own k) else if 26=t then im (k:Nat) else e.get t:=λt=>KX w2 w1
   have d1:(nX h.loops.length rec [im (k:Nat),im (ak own k)]).defers=[]:=rfl;obtain⟨K,hK⟩:∃K,((H3.loop rec).put bi ((mY n a own c k).map im)).busy h.loops.length rec=K:=⟨_,rfl⟩;rw[hK];have b1:K.boxes[bi]?=aa ((mY n a own c k).map im):=(by rw[<-hK];exact eP mh);have b2:K.boxes[h.boxes.length]?=aa [.arr tb 0 B.length B.length]:=(by rw[<-hK];exact(dg ah).trans p3);have b3:K.boxes[h.boxes.length+1]?=aa [im (i:Nat)]:=(by rw[<-hK];exact(dg ah).trans p4);have b4:K.boxes[H2.boxes.length]?=aa [im n]:=(by rw[<-hK];exact(dg ah).trans p0);have b5:K.boxes[tb]?=aa (B.map λb=>AV.arr b 0 w w):=(by rw[<-hK];exact(dg ajW).trans Gw.gQ);have m1:=yR b1 (xd (r:=mY n a own c k) (k:=k) (by rw[tX];omega));rw[cat] at m1;have m2:=wZ b2;have m3:=jN b3;have m4:=jN b4;have m5:=ri b5 V3;have Eu:=qy (b:=bi) (len:=w) (aC:=w) (k:=.i64) D3;have sk:=y8 (r:=mY n a own c k) (k:=k) (x:=jT n (ak a k) (ak own k)) b1 (by rw[tX];omega);rw[kq] at sk;have vC:=yT (p9 bJ.1 k);have ok2:=yT (p9 bJ.2 k);have f1:=λh=>P5 n (ak own k) h;have f2:=λh=>Ta (ak a k) (0 - bX n (ak own k)) h;have f3:=yT (Gi n (ak own k));have fl:jT n (ak a k) (ak own k)=cQ (ak a k) (0 - bX n (ak own k)):=(by rw[Sm];rfl);rw[fl] at sk;generalize bX n (ak own k)=z at *
   generalize ak a k=z1 at *
   generalize ak own k=z2 at *
   clear hkk g25 dJ Pg p0 p1 p2 p3 p4 kH2l kM2 kT2 kT ko cat VD Gw b1 b2 b3 b4 b5 kq fl bJ;unfold im at *
   rw[w3,w4];refine yh ?_;refine⟨aX,aX,?_⟩;refine bM.gen λe2 fw gu ni Ee=>?_;have q4:e2.get 4=.ptr (.box h.boxes.length) 0:=(by rw[fw];simp only[gW,reduceIte,aZ,aQ,r1];exact g4);have q5:e2.get 5=.ptr (.box (h.boxes.length+1)) 0:=(by rw[fw];simp only[gW,reduceIte,aZ,aQ,r1];exact g5);have q8:e2.get 8=.ptr (.box H2.boxes.length) 0:=(by rw[fw];simp only[gW,reduceIte,aZ,aQ,r1];exact g8);have q9:e2.get 9=.v (.int .i64 k):=(by rw[fw];simp only[gW,reduceIte,aZ,aQ,r1]);have q10:e2.get 10=.v (.int .i64 z2):=(by rw[fw];simp only[gW,reduceIte,aZ,aQ,r1]);clear fw gu ni Ee r1 d1
   repeat' (first|simp(maxSteps:=999999)(disch:=first|exact dZ|fail)only[gW,reduceIte,aZ,aQ, *]|(refine dX ?_ ?_<;>(intro _;try omega))|refine dR zM aw ?_)
   rw[<-hK];simp only[ao.put,ao.busy,ao.loop,Db];exact⟨aX,aX,aX⟩
  obtain⟨h',c1,c2⟩:=Td h.loops.length (H2.boxes.length+1+1) (H2.boxes.length+1) bY w c own (λk H=>H=(H3.loop rec).put bi ((mY n a own c k).map im)) I1 I2 ah hw ((H3.loop rec).put bi ((mY n a own c c).map im)) rfl;have e3:H3.loop rec=(H3.loop rec).put bi ((mY n a own c c).map im):=by rw[agE];exact(sM (h:=H3.loop rec) dJ).symm
  rw[<-e3] at c1;subst c2;clear e3;refine⟨_,_,c1,rec,ji,by rw[w5];decide,.inl ⟨w6,?_⟩⟩;clear c1 w1 w2 w3 w4 w5 w6 ji dJ Pg p0 p1 p2 p3 p4 kH2l kM2 kT2 kT ko;refine bI @Q2 ?_;refine⟨_,rfl,?_,λn0=>(((VD n0).Cp _).trans (.put (dn uf) _)).fx (aM _) _⟩;have T5:=jQ.set (H:=H3.loop rec) (Gw.mono λ_ _ q=>q) uf (r:=mY n a own c w) (by rw[tX];exact wa);exact T5.mono λ_ _ q=>q
structure GM(S:List Nat)(n0:Nat)(h h':ao)(t:Tok):Prop where
 mu:gm S n0 h h'
 can:dD n0 h' t
 ok:cO h'=ai
section
variable {S S':List Nat} {n0:Nat} {h h' h2:ao} {t k:Tok}
def afl(m:∀n,gm S n h h')(c:dD n0 h t):dD n0 h' t:=by
 rcases c with q|q|⟨i,q,q1,q2⟩
 ·exact .inl q
 ·exact .inr (.inl q)
 ·refine .inr (.inr ⟨i,q,q1,?_⟩);have aB:=uQ q2;unfold alive at *
  simp only[bL,zj,C9,decide_eq_false_iff_not,decide_eq_true_eq] at *
  exact⟨Nat.lt_of_lt_of_le aB (m 0).tn,λhd=>q2.2 ((m (i+1)).dead i (Nat.lt_succ_self _) hd)⟩
def GM.then(g:GM S n0 h h' t)(m:∀n,gm S n h' h2):GM S n0 h h2 t:=⟨g.mu.trans (m n0),afl m g.can,(m 0).ok g.ok⟩
def GM.app(g:GM S n0 h h' t)(hn:n0<=h.tn):GM S n0 h (h'.app t) (.free h'.tn):=by have G:=Grown.one (n0:=n0) g.can g.ok (fJ hn g.mu.tn);exact⟨g.mu.trans G.P9,G.can,G.ok⟩
def GM.refl(hk:dD n0 h t)(ho:cO h=ai):GM S n0 h h t:=⟨.refl,hk,ho⟩
end
def uw:Tryz.f180.results.toList=[.tmp 4]:=aw
def jQ.swap{H}{tb w i j bi bj}{B}{t}{a b}(T:jQ H tb B t w)(hi:B[i]?=aa bi)(hj:B[j]?=aa bj)(ha:t[i]?=aa a)(hb:t[j]?=aa b):
 jQ (H.put tb (((B.set i bj).set j bi).map λb=>AV.arr b 0 w w)) tb ((B.set i bj).set j bi) ((t.set i b).set j a) w:=by
 have cK:=(aV.1 hi).1;have lF:=(aV.1 hj).1;have aB:=(aV.1 T.gQ).1;have WM:((B.set i bj).set j bi).Perm B:=by
  have q:=ack cK lF
  rwa [show B[j]=bj from(aV.1 hj).2,show B[i]=bi from(aV.1 hi).2] at q
 have pI:∀x,x∈(B.set i bj).set j bi->x∈B:=λx hx=>WM.mem_iff.1 hx;refine⟨eP aB,by simp[T.len],(WM.nodup_iff).2 T.nd,λk b' r hk hr=>?_,λr hr=>?_,λhx=>T.out (pI _ hx)⟩
 ·have bO:b'≠tb:=λe=>T.out (pI _ (by rw[<-e];exact dn hk));rw[dg bO];rw[mA] at hk hr;rw[mS] at hk hr;by_cases e1:j=k
  ·subst e1;rw[aG rfl,aG lF] at hk;rw[aG rfl,aG (by rw[<-T.len];exact lF)] at hr;injection hk with hk;injection hr with hr;subst hk;subst hr;exact T.row i _ _ hi ha
  ·rw[aH e1] at hk hr;rw[mA] at hk hr;by_cases e2:i=k
   ·subst e2;rw[aG rfl,aG cK] at hk;rw[aG rfl,aG (by rw[<-T.len];exact cK)] at hr;injection hk with hk;injection hr with hr;subst hk;subst hr;exact T.row j _ _ hj hb
   ·rw[aH e2] at hk hr;exact T.row k _ _ hk hr
 ·rcases vY hr with q|q
  ·rcases vY q with q|q
   ·exact T.wid r q
   ·rw[q];exact T.wid _ (dn hb)
  ·rw[q];exact T.wid _ (dn ha)
def qa(x):fX aq 23 1 [(0,.v (.int .i64 x))]=aa (.list .tight 1 [[.v (.int .i64 x)]]):=aw
def uR{H}{k}{n0 sz}{es}{x}(hl:es.length<1099511627776)(hs:sz=1∨(es=[]/\k=.nil))(hk:dD n0 H k):
 gP aq H #[23,23] (.list k sz (ints es)) (.list .tight 1 [[.v (.int .i64 x)]])=aa (.list (.free H.tn) 1 (ints (es++[x])),H.app k):=by
 obtain⟨i,q1,q2,q3,q4⟩:=Eo;have hb:=p7 (ah:es.length+1<=1099511627776) q3;have:=F8 (t0:=23) (t1:=23) (n0:=n0) (i:=i) (sz:=sz) (es:=ints es) (new:=ints [x]) (x:=.list .tight 1 (ints [x])) dN (.inl ⟨_,dN⟩) q1 ah (by rw[q2];exact q4) (by rw[q2];rfl) (by simp[ints])
  (by simp only[ints,bE,jn,jY,po];omega) (by simp only[ints,bE,jn,jY];omega) (hs.imp (λq=>q.trans q2.symm) λq=>⟨by rw[q.1];rfl,q.2⟩) hk
 rw[q2] at this;unfold ints at *
 rw[mT];exact this
def aax{H}{b k x w}{B:List Nat}(hb:H.boxes[b]?=aa (B.map λb=>AV.arr b 0 w w))(hk:k<B.length):cI aq H 23 (.ptr (.box b) k) (.arr x 0 w w)=aa (H.put b ((B.set k x).map λb=>AV.arr b 0 w w)):=by rw[ig (xs:=[AV.arr x 0 w w]) rfl iW hb rfl (by rw[bE];exact hk)];congr 2;unfold eT;rw[acb,A2,aG (by rw[bE];exact hk)];simp
def akV{n}{a b}:∀x∈jb n a b,okF x:=by intro x hx;unfold jb at hx;obtain⟨i,hi,rfl⟩:=ab3 hx;rw[List.getElem_zipWith];exact DN _
def afO{c}{a own}(h:∀x∈a,okF x):∀x∈uV c a own,okF x:=by
 intro x hx;unfold uV at hx;split at hx
 ·exact h x hx
 ·rcases vX.1 hx with q|q
  ·exact h x (oO q)
  ·exact akV x q
def arB{c}{a}{n}(h:∀x∈a,okF x):∀x∈iD c a n,okF x:=by
 intro x hx;unfold iD at hx;rcases vX.1 hx with q|q
 ·exact h x (oO q)
 ·obtain⟨y,-,rfl⟩:=ju.1 q;exact Gi _ _
def afR{c r j}{own}{t}(h:∀a∈t,∀x∈a,okF x):∀a∈qc c own r j t,∀x∈a,okF x:=by
 intro a ha;obtain⟨i,hi⟩:=tT ha;rw[wx] at hi;cases q:t[i]? with
 |none=>rw[q] at hi;cases hi
 |some y=>
  rw[q,Option.map_some] at hi;injection hi with hi;have hy:=h y (dn q);rw[<-hi];split
  ·exact afO hy
  ·exact hy
def aac{c}{a}{n}(hc:c<=a.length):(iD c a n).length=a.length:=by unfold iD;rw[dE,bE,fj,hD];omega
def bP(pv:List Nat):List Int:=pv.map λ(p:Nat)=>(p:Int)
def rq(t:List (List Int))(c:Nat):List (List Int) × List Nat:=(bR c).foldl xA (t,[])
def Zq(t)(c):rq t (c+1)=xA (rq t c) c:=by unfold rq;rw[nH,oM];rfl
def Zp{t}{w}(hl:∀a∈t,a.length=w)(ho:∀a∈t,∀x∈a,okF x):∀c,c<=w->v9 w c (rq t c)/\(rq t c).1.length=t.length/\(rq t c).2.length<=t.length:=by
 intro c
 induction c with
 |zero=>exactλ_=>⟨⟨hl,ho,λ_ _ _ _ j hj=>by omega⟩,rfl,cG _⟩|succ c ih=>
  intro hc;obtain⟨i1,i2,i3⟩:=ih ah;rw[Zq];refine⟨by rw[aaI i1 ah];exact LC i1 ah,?_⟩;unfold xA;cases hf:ov (rq t c).1 (rq t c).2.length c with|none=>exact⟨i2,i3⟩|some k=>obtain⟨k1,k2,k3⟩:=Bu hf;refine⟨by simp[i2],?_⟩;simp only[dE,jn,jY];omega
def PC(pv):(ints (bP pv)).length=pv.length:=by unfold ints bP;simp
def Zo(t)(many):EP t many=rq t many:=rfl
def an1(h:ao)(tb:Nat)(B:List Nat)(t:List (List Int))(w many:Nat)(T:jQ h tb B t w)(hm:many<=w)(hw:w<=1000000)(hn:t.length<=1000000)(bJ:∀r∈t,∀x∈r,okF x)(ho:cO h=ai):
 ∃r h',W2.call 180 [.arr tb 0 t.length t.length,im (many:Nat)] h=aa (r,h')/\∃(k:Tok) (s:Nat) (B':List Nat),r=.ret (.list k s (ints (bP (EP t many).2)))/\(s=1∨(bP (EP t many).2=[]/\k=.nil))/\jQ h' tb B' (EP t many).1 w/\B'.Perm B/\GM (tb::B) h.tn h h' k:=by
 have kT:=al.mk T;have kok:=al.mk bJ;have kBl:al (∀b∈B,b<h.boxes.length):=⟨λb hb=>by obtain⟨i,hi⟩:=tT hb;have cK:=(aV.1 hi).1;exact(aV.1 (T.row i b _ hi (aT (by rw[<-T.len];exact cK)))).1⟩;have z3:=LW;have bx1:∀b n m:Nat,(AV.arr b 0 n m).cD=aa [.arr b 0 n m]:=λ_ _ _=>rfl;have bx2:∀n:Int,(AV.v (.int .i64 n)).cD=aa [.v (.int .i64 n)]:=λ_=>rfl;have g0:GM (tb::B) h.tn h (h.push [.arr tb 0 t.length t.length]) .nil:=⟨gm.refl.push _,.inl rfl,ho⟩;have T0:jQ (h.push [.arr tb 0 t.length t.length]) tb B t w:=T.mono λ_ _ q=>bA q;have p0:(h.push [.arr tb 0 t.length t.length]).boxes[h.boxes.length]?=aa [.arr tb 0 t.length t.length]:=bh _ _;have r0:v9 w 0 (rq t 0):=⟨T.wid,bJ,λ_ _ _ _ _ q=>absurd q (qO _)⟩;have kk:=al.mk (av g0 (av T0 (av p0 r0)));clear g0 T0 p0 r0 T bJ ho;unfold im at *
 refine da rfl Tryz.func180 rfl ?_;refine bV @uw @bB ?_;refine bM.gen λe0 aF bD cN cH=>?_;have q2:e0.get 2=.ptr (.box h.boxes.length) 0:=by rw[aF];exact gS
 have q4:e0.get 4=.list .nil 0 (ints (bP [])):=by rw[aF];exact gR
 have q13:e0.get 13=.v (.int .i64 (many:Nat)):=by rw[aF];exact gS
 have q14:e0.get 14=.v (.int .i64 (0:Nat)):=by rw[aF];exact gR
 have qd:e0.defers=[]:=by rw[bD];exact gS
 clear aF bD cN cH;refine cE (λm e H=>∃(c:Nat) (B':List Nat) (k:Tok) (s:Nat),c<=many/\m=many - c/\jQ H tb B' (rq t c).1 w/\B'.Perm B/\H.boxes[h.boxes.length]?=aa [.arr tb 0 t.length t.length]/\e.get 2=.ptr (.box h.boxes.length) 0/\e.get 4=.list k s (ints (bP (rq t c).2))/\(s=1∨(bP (rq t c).2=[]/\k=.nil))/\e.get 13=.v (.int .i64 (many:Nat))/\e.get 14=.v (.int .i64 (c:Nat))/\e.defers=[]/\GM (tb::B) h.tn h H k) ?_ many _ _ ?_;rotate_left 1
 ·exact⟨0,B,.nil,0,cG _,rfl,kk.out.2.1,.refl _,kk.out.2.2.1,q2,q4,.inr ⟨rfl,rfl⟩,q13,q14,qd,kk.out.1⟩
 clear kk q2 q4 q13 q14 qd;rintro m e H ⟨c,B',tk,s,hc,rfl,T',hP,fP,g2,g4,hs,g13,g14,hd,hG⟩;have kT':=al.mk T';have kP:=al.mk hP;have ks:=al.mk hs;have kG:=al.mk hG;obtain⟨R,i2,i3⟩:=Zp kT.out.wid kok.out c ah;have kR:=al.mk R;clear T' hP hG R;by_cases aB:c<many;rotate_left 1
 ·have:c=many:=by omega
  subst this;clear fP i2 i3 hs;refine bI @uw ?_;refine⟨_,_,rfl,tk,s,B',?_⟩;rw[Zo];exact⟨rfl,ks.out,kT'.out,kP.out,kG.out⟩
 have rS:=Zq t c;generalize ct:rq t c=st at *
 obtain⟨t',pv⟩:=st;dsimp only at *
 have cS:=PC pv;have u23:=dN;have u203:=F1;have s0:∀n,cI aq (H.push [.v (.int .i64 0)]) 3 (.ptr (.box H.boxes.length) 0) (.v (.int .i64 n))=aa (H.push [.v (.int .i64 n)]):=λn=>l9 rfl fH rfl rfl;have l0:∀n,aI aq Gt (H.push [.v (.int .i64 n)]) 3 (.ptr (.box H.boxes.length) 0)=aa (.v (.int .i64 n)):=λn=>jN (bh _ _);refine bV @uw @bB ?_;refine bM.gen λe0 aF bD cN cH=>?_;have f2:e0.get 2=.ptr (.box h.boxes.length) 0:=by rw[aF];simp only[gW,reduceIte,aZ,aQ,g2]
 have f4:e0.get 4=.list tk s (ints (bP pv)):=by rw[aF];simp only[gW,reduceIte,aZ,aQ,g4]
 have f5:e0.get 5=.v (.int .i64 (c:Nat)):=by rw[aF];simp only[gW,reduceIte,aZ,aQ,g14]
 have f6:e0.get 6=.ptr (.box H.boxes.length) 0:=by rw[aF];exact gS
 have f7:e0.get 7=.v (.int .i64 (pv.length:Nat)):=by rw[aF];exact gS
 have f13:e0.get 13=.v (.int .i64 (many:Nat)):=by rw[aF];simp only[gW,reduceIte,aZ,aQ,g13]
 have f14:e0.get 14=.v (.int .i64 (c:Nat)):=by rw[aF];simp only[gW,reduceIte,aZ,aQ,g14]
 have fd:e0.defers=[]:=by rw[bD];simp only[gW,reduceIte,aZ,aQ];exact hd
 clear aF bD cN cH g2 g4 g13 g14 hd;have T2:jQ (H.push [.v (.int .i64 (pv.length:Nat))]) tb B' t' w:=kT'.out.mono λ_ _ q=>bA q;have G2:GM (tb::B) h.tn h (H.push [.v (.int .i64 (pv.length:Nat))]) tk:=kG.out.then λ_=>gm.refl.push _;have b2:(H.push [.v (.int .i64 (pv.length:Nat))]).boxes[h.boxes.length]?=aa [.arr tb 0 t.length t.length]:=bA fP;have b3:(H.push [.v (.int .i64 (pv.length:Nat))]).boxes[H.boxes.length]?=aa [.v (.int .i64 (pv.length:Nat))]:=bh _ _;have vd:(H.push [.v (.int .i64 (pv.length:Nat))]).boxes.length=H.boxes.length+1:=cX _ _;have hhl:h.boxes.length<H.boxes.length:=(aV.1 fP).1;generalize H.push [.v (.int .i64 (pv.length:Nat))]=H2 at *
 clear kT' kG s0 l0 fP;have kT2:=al.mk T2;have kG2:=al.mk G2;have kl:=al.mk vd;have l2:=wZ b2;have l3:=jN b3;have kb2:=al.mk b2;have kb3:=al.mk b3;clear T2 G2 vd b2 b3;generalize hHn:H.boxes.length=hl at *
 clear hHn;refine cE (λm e H3=>∃j:Nat,pv.length<=j/\j<=t.length/\m=t.length - j/\al (∀k,pv.length<=k->k<j->ak (t'.getD k []) c=0)/\e.get 2=.ptr (.box h.boxes.length) 0/\e.get 4=.list tk s (ints (bP pv))/\e.get 5=.v (.int .i64 (c:Nat))/\e.get 6=.ptr (.box hl) 0/\e.get 7=.v (.int .i64 (j:Nat))/\e.get 13=.v (.int .i64 (many:Nat))/\e.get 14=.v (.int .i64 (c:Nat))/\e.defers=[]/\H3=H2) ?_ (t.length - pv.length) _ _ ?_;rotate_left 1
 ·exact⟨pv.length,aM _,i3,rfl,⟨λk h1 h2=>absurd h1 ah⟩,f2,f4,f5,f6,f7,f13,f14,fd,rfl⟩
 clear f2 f4 f5 f6 f7 f13 f14 fd;rintro m e3 H2 ⟨j,Wh,Wi,rfl,kz,g2,g4,g5,g6,g7,g13,g14,hd,rfl⟩;by_cases lF:j<t.length;rotate_left 1
 ·have oA:j=t.length:=by omega
  subst oA;have BQ:=JC (t:=t') (c:=c) Wh ah kz.out (λq=>absurd q ah);rw[aG ah] at BQ;have ct:rq t (c+1)=(t',pv):=by rw[rS];unfold xA;simp only[BQ]
  have khst:=al.mk ct;clear BQ ct rS;refine bI @uw ?_;refine⟨many - (c+1),by omega,c+1,B',tk,s,by omega,rfl,?_⟩;rw[khst.out];exact⟨kT2.out,kP.out,kb2.out,aX,rfl,ks.out,aX,by simp,aX,kG2.out⟩
 obtain⟨b,hb⟩:∃b,t'[j]?=aa b:=⟨_,aT ah⟩;obtain⟨bj,vg⟩:∃b,B'[j]?=aa b:=⟨_,aT (by rw[kT2.out.len];omega)⟩;have wb:=kT2.out.wid b (dn hb);have dJ:=kT2.out.row j bj b vg hb;have ixj:=Es (b:=tb) (len:=t.length) (aC:=t.length) (k:=.i64) lF;have ixc:=qy (b:=bj) (len:=w) (aC:=w) (k:=.i64) (ah:c<w);have wM:(B'.map λb=>AV.arr b 0 w w)[j]?=aa (.arr bj 0 w w):=by rw[ev,vg];rfl
 have m1:=ri kT2.out.gQ wM;have m2:=yR dJ (xd (k:=c) ah);have gDj:t'.getD j []=b:=by rw[dS,hb];rfl
 have khr:=al.mk dJ;clear dJ;by_cases hzero:ak b c=0
 ·have ia:∀k,pv.length<=k->k<j+1->ak (t'.getD k []) c=0:=by
   intro k h1 h2;rcases dV k j with q|q
   ·exact kz.out k h1 q
   ·rw[(ah:k=j),gDj];exact hzero
  have kz2:=al.mk ia;rw[hzero] at m2;clear ia kz gDj hzero wM rS;unfold im at *
  refine bI @uw ?_;exact⟨t.length - (j+1),by omega,j+1,by omega,by omega,rfl,kz2,aX,aX,aX,aX,by simp,aX,aX,aX,aX⟩
 have BQ:=JC (t:=t') (c:=c) Wh ah kz.out (λ_=>by rw[gDj];exact hzero);rw[aH ah] at BQ;obtain⟨o,ho⟩:∃b,t'[pv.length]?=aa b:=⟨_,aT ah⟩;obtain⟨bo,wK⟩:∃b,B'[pv.length]?=aa b:=⟨_,aT (by rw[kT2.out.len];omega)⟩;have nO:=asI BQ hb ho;rw[<-rS] at nO;have kgo:=al.mk nO;have kne:=al.mk hzero;have okb:=kR.out.ok b (dn hb);have nz:=yT (p9 okb c);have ixr:=Es (b:=tb) (len:=t.length) (aC:=t.length) (k:=.i64) (ah:pv.length<t.length);have V5:(B'.map λb=>AV.arr b 0 w w)[pv.length]?=aa (.arr bo 0 w w):=by rw[ev,wK];rfl
 have m3:=ri kT2.out.gQ V5;have T3:=jQ.swap kT2.out wK vg ho hb;have nb1:bj<h.boxes.length:=kBl.out bj (kP.out.mem_iff.1 (dn vg));have nb2:tb≠bj:=λe=>kT2.out.out (by rw[e];exact dn vg);have avr:=(aV.1 kT.out.gQ).1;have Wu:h.boxes.length≠tb:=by omega
 have ajJ:hl≠tb:=by omega
 have s1:=aax (w:=w) (x:=bj) (k:=pv.length) kT2.out.gQ (by rw[kT2.out.len];omega);have gu:(H2.put tb ((B'.set pv.length bj).map λb=>AV.arr b 0 w w)).boxes[tb]?=aa ((B'.set pv.length bj).map λb=>AV.arr b 0 w w):=eP (aV.1 kT2.out.gQ).1;have s2:=aax (w:=w) (x:=bo) (k:=j) gu (by rw[mS,kT2.out.len];omega);rw[KQ] at s2;have l2b:aI aq Gt (H2.put tb ((B'.set pv.length bj).map λb=>AV.arr b 0 w w)) 203 (.ptr (.box h.boxes.length) 0)=aa (.arr tb 0 t.length t.length):=wZ ((dg Wu).trans kb2.out);have G3:GM (tb::B) h.tn h (H2.put tb (((B'.set pv.length bj).set j bo).map λb=>AV.arr b 0 w w)) tk:=kG2.out.then λ_=>.put (gj) _;have b2:(H2.put tb (((B'.set pv.length bj).set j bo).map λb=>AV.arr b 0 w w)).boxes[h.boxes.length]?=aa [.arr tb 0 t.length t.length]:=(dg Wu).trans kb2.out;have b3:(H2.put tb (((B'.set pv.length bj).set j bo).map λb=>AV.arr b 0 w w)).boxes[hl]?=aa [.v (.int .i64 (pv.length:Nat))]:=(dg ajJ).trans kb3.out;have N5:(H2.put tb (((B'.set pv.length bj).set j bo).map λb=>AV.arr b 0 w w)).boxes.length=H2.boxes.length:=mP _ _ _;have JP:((B'.set pv.length bj).set j bo).Perm B:=by have q:=ack (aV.1 wK).1 (aV.1 vg).1;rw[show B'[j]'(aV.1 vg).1=bj from(aV.1 vg).2,show B'[pv.length]'(aV.1 wK).1=bo from(aV.1 wK).2] at q;exact q.trans kP.out
 have wG:((B'.set pv.length bj).set j bo)[pv.length]?=aa bj:=by
  rw[mA];by_cases q:j=pv.length
  ·rw[aG q,aG (by rw[mS,kT2.out.len];omega)];rw[q,wK] at vg;exact vg
  ·rw[aH q,Mp (aV.1 wK).1]
 have yG:((t'.set pv.length b).set j o)[pv.length]?=aa b:=by
  rw[mA];by_cases q:j=pv.length
  ·rw[aG q,aG (by rw[mS];omega)];rw[q,ho] at hb;exact hb
  ·rw[aH q,Mp ah]
 have Xa:((t'.set pv.length b).set j o).length=t.length:=by rw[mS,mS];exact i2
 have Wx:∀a∈(t'.set pv.length b).set j o,∀x∈a,okF x:=by
  intro a ha;rcases vY ha with q|q
  ·rcases vY q with q|q
   ·exact kR.out.ok a q
   ·rw[q];exact okb
  ·rw[q];exact kR.out.ok o (dn ho)
 have kok3:=al.mk (av Wx (av okb Xa));clear Wx Xa;generalize (t'.set pv.length b).set j o=t3 at *
 generalize (B'.set pv.length bj).set j bo=B3 at *
 obtain⟨H3,wH⟩:∃H3,H2.put tb (B3.map λb=>AV.arr b 0 w w)=H3:=⟨_,rfl⟩;rw[wH] at s2 T3 G3 b2 b3 N5;have kP3:=al.mk JP;clear wH gu JP nO BQ kz gDj hb ho rS ct;have l23:=wZ b2;have l33:=jN b3;have tm:(B3.map λb=>AV.arr b 0 w w)[pv.length]?=aa (.arr bj 0 w w):=by rw[ev,wG];rfl
 have m13:=ri T3.gQ tm;have Ph:=T3.row pv.length bj b wG yG;have m23:=yR Ph (xd (k:=c) ah);have wQ:fmod (ak b c)=ak b c:=By (p9 okb c);have ci:=λh=>akj (ak b c) h;rw[wQ] at ci;simp only[aH hzero] at ci;have kokz:al (0<=eE (ak b c)/\eE (ak b c)<=9223372036854775807):=⟨yT (NH _)⟩;have auZ:tb<H3.boxes.length:=(aV.1 T3.gQ).1;have au3:bj<H3.boxes.length:=(aV.1 Ph).1;have hh3:h.boxes.length<H3.boxes.length:=(aV.1 b2).1;have au7:hl<H3.boxes.length:=(aV.1 b3).1;generalize hz:ak b c=z at *
 have kfz:al (okF (eE z)):=⟨NH _⟩;generalize hf:eE z=fz at *
 have s5:cI aq (H3.push [.v (.int .i64 0)]) 3 (.ptr (.box H3.boxes.length) 0) (.v (.int .i64 fz))=aa (H3.push [.v (.int .i64 fz)]):=l9 rfl fH rfl rfl;have T4:jQ (H3.push [.v (.int .i64 fz)]) tb B3 t3 w:=T3.mono λ_ _ q=>bA q;have G4:GM (tb::B) h.tn h (H3.push [.v (.int .i64 fz)]) tk:=G3.then λ_=>gm.refl.push _;have b24:(H3.push [.v (.int .i64 fz)]).boxes[h.boxes.length]?=aa [.arr tb 0 t.length t.length]:=bA b2;have b34:(H3.push [.v (.int .i64 fz)]).boxes[hl]?=aa [.v (.int .i64 (pv.length:Nat))]:=bA b3;have b44:(H3.push [.v (.int .i64 fz)]).boxes[H3.boxes.length]?=aa [.v (.int .i64 fz)]:=bh _ _;have Gq:(H3.push [.v (.int .i64 fz)]).boxes.length=H3.boxes.length+1:=cX _ _;have kH3:=al.mk N5;obtain⟨H4,zW⟩:∃H4,H3.push [.v (.int .i64 fz)]=H4:=⟨_,rfl⟩;rw[zW] at s5 T4 G4 b24 b34 b44 Gq;have l24:=wZ b24;have l34:=jN b34;have m14:=ri T4.gQ tm;have af:=Tc bj w c H4;have kT4:=al.mk T4;have kG4:=al.mk G4;have kb4:=al.mk (av b24 (av b34 (av b44 (av Gq (av wG yG)))));unfold im at af m2 m23 ci;clear zW T4 G4 b24 b34 b44 Gq T3 G3 b2 b3 N5 Ph tm wG yG wQ wM V5 wK vg;refine bI @uw ?_;refine my [(2,13)] zM aw (λp hp=>?_) ?_
 ·simp only[lu] at hp;subst hp;refine AP (x:=.ptr (.box h.boxes.length) 0) (v:=.arr tb 0 t.length t.length) aw rfl rfl rfl aw (by simp[fe,lY]) ?_ ?_<;>(simp only[gl,fm];exact jI @uw @and_self)
 refine bI @uw ?_;refine bM.gen λe4 jq sg wT uk=>?_;have f2:e4.get 2=.ptr (.box h.boxes.length) 0:=by rw[jq];simp only[gW,reduceIte,aZ,aQ];exact g2
 have f4:e4.get 4=.list tk s (ints (bP pv)):=by rw[jq];simp only[gW,reduceIte,aZ,aQ];exact g4
 have f5:e4.get 5=.v (.int .i64 (c:Nat)):=by rw[jq];simp only[gW,reduceIte,aZ,aQ];exact g5
 have f6:e4.get 6=.ptr (.box hl) 0:=by rw[jq];simp only[gW,reduceIte,aZ,aQ];exact g6
 have f8:e4.get 8=.ptr (.box H3.boxes.length) 0:=by rw[jq];exact gS
 have f13:e4.get 13=.v (.int .i64 (many:Nat)):=by rw[jq];simp only[gW,reduceIte,aZ,aQ];exact g13
 have f14:e4.get 14=.v (.int .i64 (c:Nat)):=by rw[jq];simp only[gW,reduceIte,aZ,aQ];exact g14
 have f70:e4.get 70=.func (.func 219) [] [.ptr (.box (H4.boxes.length+1)) 0,.ptr (.box H4.boxes.length) 0]:=by rw[jq];exact gS
 have fd:e4.defers=[]:=by rw[sg];simp only[gW,reduceIte,aZ,aQ];exact hd
 clear jq sg wT uk g2 g4 g5 g6 g7 g13 g14 hd;refine E4 (by rw[Bq];exact f70) λrec w1 w2 w3 w4 w5 w6=>?_;obtain⟨b24,b34,b44,Gq,wG,yG⟩:=kb4.out;have T5:jQ ((H4.push [.arr bj 0 w w]).push [.v (.int .i64 (c:Nat))]) tb B3 t3 w:=kT4.out.mono λ_ _ q=>bA (bA q);have G5:GM (tb::B) h.tn h ((H4.push [.arr bj 0 w w]).push [.v (.int .i64 (c:Nat))]) tk:=kG4.out.then λ_=>(gm.refl.push _).push _;have b25:((H4.push [.arr bj 0 w w]).push [.v (.int .i64 (c:Nat))]).boxes[h.boxes.length]?=aa [.arr tb 0 t.length t.length]:=bA (bA b24);have b35:((H4.push [.arr bj 0 w w]).push [.v (.int .i64 (c:Nat))]).boxes[hl]?=aa [.v (.int .i64 (pv.length:Nat))]:=bA (bA b34);have b45:((H4.push [.arr bj 0 w w]).push [.v (.int .i64 (c:Nat))]).boxes[H3.boxes.length]?=aa [.v (.int .i64 fz)]:=bA (bA b44);have b55:((H4.push [.arr bj 0 w w]).push [.v (.int .i64 (c:Nat))]).boxes[H4.boxes.length]?=aa [.arr bj 0 w w]:=bA (bh _ _);have b65:((H4.push [.arr bj 0 w w]).push [.v (.int .i64 (c:Nat))]).boxes[H4.boxes.length+1]?=aa [.v (.int .i64 (c:Nat))]:=nb (by rw[cX]);have aiH:((H4.push [.arr bj 0 w w]).push [.v (.int .i64 (c:Nat))]).boxes.length=H4.boxes.length+2:=by rw[cX,cX]
 generalize (H4.push [.arr bj 0 w w]).push [.v (.int .i64 (c:Nat))]=H5 at *
 clear l2 l3 l23 l33 m1 m2 m3 m13 m23 ci s1 s2 l2b s5 l24 l34 m14 af kb4 kT4 kG4 kb2 kb3 kT2 kG2 khr;have dJ:=T5.row pv.length bj b wG yG;have mh:=(aV.1 dJ).1;have ji:(H5.loop rec).loops[H5.loops.length]?=aa rec:=@EB H5 rec;have I1:∀(k:Nat) (H:ao),H=(H5.loop rec).put bj ((lE (λi=>bX (ak b i) fz) b c k).map im)->H.boxes[H4.boxes.length+1]?=aa [im (c:Nat)]/\H.boxes[H4.boxes.length]?=aa [.arr bj 0 w w]/\(k<w->∃cs,H.boxes[bj]?=aa cs/\cs[k]?=aa (im (ak b k))):=by
  rintro k H rfl;refine⟨?_,?_,λhk=>⟨_,eP mh,?_⟩⟩
  ·rw[dg ah];exact b65
  ·rw[dg ah];exact b55
  ·have:=xd (r:=lE (λi=>bX (ak b i) fz) b c k) (k:=k) (by rw[rY];omega);rw[DC ah,aH ah] at this;exact this
 have I2:∀(k:Nat) (H:ao),c<=k->k<w->H=(H5.loop rec).put bj ((lE (λi=>bX (ak b i) fz) b c k).map im)->∃H',W2.round H5.loops.length [im (k:Nat),im (ak b k)] H=aa (.ret (.v (.bool ai)),H')/\H'=(H5.loop rec).put bj ((lE (λi=>bX (ak b i) fz) b c (k+1)).map im):=by
  rintro k H Ak D3 rfl;refine KY (Post:=λH=>H=(H5.loop rec).put bj ((lE (λi=>bX (ak b i) fz) b c (k+1)).map im)) ji (by rw[w2];rfl) w5 w6 ?_;have kq:=Uz (f:=λi=>bX (ak b i) fz) Ak (ah:k<b.length);have r1:∀t,(nX H5.loops.length rec [im (k:Nat),im (ak b k)]).get t=if 72=t then im (ak b k) else if 71=t then im (k:Nat) else e4.get t:=λt=>KX w2 w1
  have d1:(nX H5.loops.length rec [im (k:Nat),im (ak b k)]).defers=[]:=rfl;obtain⟨K,hK⟩:∃K,((H5.loop rec).put bj ((lE (λi=>bX (ak b i) fz) b c k).map im)).busy H5.loops.length rec=K:=⟨_,rfl⟩;rw[hK];have c1:K.boxes[bj]?=aa ((lE (λi=>bX (ak b i) fz) b c k).map im):=by rw[<-hK];exact eP mh
  have c2:K.boxes[h.boxes.length]?=aa [.arr tb 0 t.length t.length]:=by rw[<-hK];exact(dg ah).trans b25
  have c3:K.boxes[hl]?=aa [.v (.int .i64 (pv.length:Nat))]:=by rw[<-hK];exact(dg ah).trans b35
  have c4:K.boxes[H3.boxes.length]?=aa [im fz]:=by rw[<-hK];exact(dg ah).trans b45
  have c5:K.boxes[tb]?=aa (B3.map λb=>AV.arr b 0 w w):=by rw[<-hK];exact(dg nb2).trans T5.gQ
  have tm:(B3.map λb=>AV.arr b 0 w w)[pv.length]?=aa (.arr bj 0 w w):=by rw[ev,wG];rfl
  have m2:=wZ c2;have m3:=jN c3;have m4:=jN c4;have m5:=ri c5 tm;have Eu:=qy (b:=bj) (len:=w) (aC:=w) (k:=.i64) D3;have sk:=y8 (r:=lE (λi=>bX (ak b i) fz) b c k) (k:=k) (x:=bX (ak b k) fz) c1 (by rw[rY];omega);rw[kq] at sk;have vC:=yT (p9 okb k);have f1:=λh=>P5 (ak b k) fz h;clear dJ b25 b35 b45 b55 b65 T5 G5 c1 c2 c3 c4 c5 kq tm I1 okb f70 ixj ixc;generalize bX (ak b k) fz=z1 at *
  generalize ak b k=z2 at *
  unfold im at *
  rw[w3,w4];refine yh ?_;refine⟨aX,aX,?_⟩;refine bM.gen λe2 fw gu ni Ee=>?_;have q2:e2.get 2=.ptr (.box h.boxes.length) 0:=by rw[fw];simp only[gW,reduceIte,aZ,aQ,r1];exact f2
  have q6:e2.get 6=.ptr (.box hl) 0:=by rw[fw];simp only[gW,reduceIte,aZ,aQ,r1];exact f6
  have q8:e2.get 8=.ptr (.box H3.boxes.length) 0:=by rw[fw];simp only[gW,reduceIte,aZ,aQ,r1];exact f8
  have q10:e2.get 10=.v (.int .i64 k):=by rw[fw];simp only[gW,reduceIte,aZ,aQ,r1]
  have q11:e2.get 11=.v (.int .i64 z2):=by rw[fw];simp only[gW,reduceIte,aZ,aQ,r1]
  clear fw gu ni Ee r1 d1
  repeat' (first|simp(maxSteps:=999999)(disch:=first|exact dZ|fail)only[gW,reduceIte,aZ,aQ, *]|(refine dX ?_ ?_<;>(intro _;try omega))|refine dR zM aw ?_)
  rw[<-hK];simp only[ao.put,ao.busy,ao.loop,Db];exact⟨aX,aX,aX⟩
 obtain⟨h',c1,c2⟩:=Td H5.loops.length (H4.boxes.length+1) H4.boxes.length bj w c b (λk H=>H=(H5.loop rec).put bj ((lE (λi=>bX (ak b i) fz) b c k).map im)) I1 I2 ah hw ((H5.loop rec).put bj ((lE (λi=>bX (ak b i) fz) b c c).map im)) rfl;have e3:H5.loop rec=(H5.loop rec).put bj ((lE (λi=>bX (ak b i) fz) b c c).map im):=by rw[UA];exact(sM (h:=H5.loop rec) dJ).symm
 rw[<-e3] at c1;have e4':lE (λi=>bX (ak b i) fz) b c w=iD c b fz:=by rw[<-wb];exact agB ah
 rw[e4'] at c2;subst c2;clear e3 I1 I2 e4';refine⟨_,_,c1,rec,ji,by rw[w5];decide,.inl ⟨w6,?_⟩⟩;clear c1;have JO:h.loops.length<=H5.loops.length:=by
  have:=G5.mu.loop;rcases dV H5.loops.length h.loops.length with q|q
  ·have:=(aV.1 (this _ _ (aT q))).1;omega
  ·exact q
 have okt:=kok3.out;have Gx:bj∈B:=kP3.out.mem_iff.1 (dn wG);have T6:jQ (((H5.loop rec).put bj ((iD c b fz).map im)).fx H5.loops.length {rec with state:=.exhausted}) tb B3 (t3.set pv.length (iD c b fz)) w:=by have q:=jQ.set (H:=H5.loop rec) (T5.mono λ_ _ q=>q) wG (r:=iD c b fz) (by rw[aac ah];exact wb);exact q.mono λ_ _ q=>q
 have G6:GM (tb::B) h.tn h (((H5.loop rec).put bj ((iD c b fz).map im)).fx H5.loops.length {rec with state:=.exhausted}) tk:=⟨((G5.mu.Cp rec).trans (.put (fN _ Gx) _)).fx JO _,G5.can,G5.ok⟩;have b26:(((H5.loop rec).put bj ((iD c b fz).map im)).fx H5.loops.length {rec with state:=.exhausted}).boxes[h.boxes.length]?=aa [.arr tb 0 t.length t.length]:=(dg ah).trans b25;have b36:(((H5.loop rec).put bj ((iD c b fz).map im)).fx H5.loops.length {rec with state:=.exhausted}).boxes[hl]?=aa [.v (.int .i64 (pv.length:Nat))]:=(dg ah).trans b35;have WO:(t3.set pv.length (iD c b fz))[pv.length]?=aa (iD c b fz):=Mp (aV.1 yG).1;have ok4:∀a∈t3.set pv.length (iD c b fz),∀x∈a,okF x:=by
  intro a ha;rcases vY ha with q|q
  ·exact okt.1 a q
  ·rw[q];exact arB okb
 have GL:(t3.set pv.length (iD c b fz)).length=t.length:=by rw[mS];exact okt.2.2
 have nO:=kgo.out;rw[i2] at nO;have T7:jQ (((H5.loop rec).put bj ((iD c b fz).map im)).fx H5.loops.length {rec with state:=.exhausted}) tb B3 (qc c (iD c b fz) pv.length 0 (t3.set pv.length (iD c b fz))) w:=by rw[afW];exact T6
 have hso:(iD c b fz).length=w:=by rw[aac ah];exact wb
 generalize (((H5.loop rec).put bj ((iD c b fz).map im)).fx H5.loops.length {rec with state:=.exhausted})=H6 at *
 clear T6 ji dJ b25 b35 b45 b55 b65 T5 G5 aiH mh w1 w2 w3 w4 w5 w6 JO wG yG okt f70 f8 Gq ixj ixr ixc;have l26:=wZ b26;have l36:=jN b36;generalize iD c b fz=own at *
 generalize t3.set pv.length own=t4 at *
 have k7:=al.mk (av T7 (av G6 (av b26 b36)));have kok4:=al.mk (av ok4 (av WO (av GL nO)));clear T7 G6 b26 b36 ok4 WO nO okb kok3 GL;refine bI @uw ?_;refine bM.gen λe5 yp V2 hp5 Pd=>?_;have r2:e5.get 2=.ptr (.box h.boxes.length) 0:=by rw[yp];simp only[gW,reduceIte,aZ,aQ];exact f2
 have r4:e5.get 4=.list tk s (ints (bP pv)):=by rw[yp];simp only[gW,reduceIte,aZ,aQ];exact f4
 have r5:e5.get 5=.v (.int .i64 (c:Nat)):=by rw[yp];simp only[gW,reduceIte,aZ,aQ];exact f5
 have r6:e5.get 6=.ptr (.box hl) 0:=by rw[yp];simp only[gW,reduceIte,aZ,aQ];exact f6
 have r13:e5.get 13=.v (.int .i64 (many:Nat)):=by rw[yp];simp only[gW,reduceIte,aZ,aQ];exact f13
 have r14:e5.get 14=.v (.int .i64 (c:Nat)):=by rw[yp];simp only[gW,reduceIte,aZ,aQ];exact f14
 have r83:e5.get 83=.v (.int .i64 (t.length:Nat)):=by rw[yp];exact gS
 have r84:e5.get 84=.v (.int .i64 (0:Nat)):=by rw[yp];exact gR
 have rd:e5.defers=[]:=by rw[V2];simp only[gW,reduceIte,aZ,aQ];exact fd
 clear yp V2 hp5 Pd f2 f4 f5 f6 f13 f14 fd l26 l36;refine cE (λm e H=>∃i:Nat,i<=t.length/\m=t.length - i/\al (jQ H tb B3 (qc c own pv.length i t4) w)/\al (GM (tb::B) h.tn h H tk)/\al (H.boxes[h.boxes.length]?=aa [.arr tb 0 t.length t.length])/\al (H.boxes[hl]?=aa [.v (.int .i64 (pv.length:Nat))])/\e.get 2=.ptr (.box h.boxes.length) 0/\e.get 4=.list tk s (ints (bP pv))/\e.get 5=.v (.int .i64 (c:Nat))/\e.get 6=.ptr (.box hl) 0/\e.get 13=.v (.int .i64 (many:Nat))/\e.get 14=.v (.int .i64 (c:Nat))/\e.get 83=.v (.int .i64 (t.length:Nat))/\e.get 84=.v (.int .i64 (i:Nat))/\e.defers=[]) ?_ t.length _ _ ?_;rotate_left 1
 ·exact⟨0,cG _,rfl,⟨k7.out.1⟩,⟨k7.out.2.1⟩,⟨k7.out.2.2.1⟩,⟨k7.out.2.2.2⟩,r2,r4,r5,r6,r13,r14,r83,r84,rd⟩
 clear r2 r4 r5 r6 r13 r14 r83 r84 rd k7;rintro m e6 K ⟨i,hi,rfl,kT7,kG7,kb7,kc7,g2,g4,g5,g6,g13,g14,g83,g84,hd⟩;have l27:=wZ kb7.out;have l37:=jN kc7.out;by_cases hit:i<t.length;rotate_left 1
 ·have gT:i=t.length:=by omega
  subst gT;have bl:=qa (c:Int);have ap:=uR (x:=(c:Int)) (show(bP pv).length<1099511627776 by unfold bP;rw[bE];omega) hs kG7.out.can;refine bI @uw ?_;refine⟨many - (c+1),by omega,c+1,B3,.free K.tn,1,by omega,rfl,?_⟩;rw[kok4.out.2.2.2];have GL:=kok4.out.2.2.1;rw[<-GL] at kT7;have ee:bP (pv++[c])=bP pv++[(c:Int)]:=by unfold bP;simp
  dsimp only;rw[ee];exact⟨by rw[<-GL];exact kT7.out.mono λ_ _ q=>by rw[eL];exact q,kP3.out,by rw[eL];exact kb7.out,aX,rfl,.inl rfl,aX,by simp,aX,kG7.out.app (aM _)⟩
 have Vu:B3.length=t.length:=by rw[kT7.out.len,Un];exact kok4.out.2.2.1
 by_cases OE:i=pv.length
 ·subst OE;have T8:=kT7.out;rw[<-afU] at T8;have kT8:=al.mk T8;clear T8;refine bI @uw ?_;exact⟨t.length - (pv.length+1),by omega,pv.length+1,by omega,rfl,kT8,aX,aX,aX,aX,aX,aX,aX,aX,aX,aX,by simp,aX⟩
 ·obtain⟨a,ha⟩:∃a,t4[i]?=aa a:=⟨_,aT (by rw[kok4.out.2.2.1];exact hit)⟩;obtain⟨K2,c1,c2,c3⟩:=afP K tb B3 (qc c own pv.length i t4) w i pv.length c a own kT7.out (afT.trans ha) (afS.trans kok4.out.2.1) OE ah hw (afR kok4.out.1);rw[afV ha OE] at c2;rw[Vu] at c1;have cM:∀n0,gm (tb::B) n0 K K2:=λn0=>(c3 n0).mono λb hb=>fN _ (kP3.out.mem_iff.1 hb);have Gx:∀b∈B3,b<h.boxes.length:=λb hb=>kBl.out b (kP3.out.mem_iff.1 hb);have kb8:=al.mk ((c3 0).box _ _ (λq=>absurd (Gx _ q) ah) kb7.out);have kc8:=al.mk ((c3 0).box _ _ (λq=>absurd (Gx _ q) ah) kc7.out);have kG8:=al.mk (kG7.out.then cM);have kT8:=al.mk c2;have au8:¬((i:Int)=(pv.length:Int)):=by omega
  clear c2 c3 cM Gx ha Vu kT7 kG7 kb7 kc7;unfold im at c1;refine bI @uw ?_;exact⟨t.length - (i+1),by omega,i+1,by omega,rfl,kT8,aX,aX,aX,aX,aX,aX,aX,aX,aX,aX,by simp,aX⟩
def IL(x:AV)(l:List Int):Prop:=∃k s,x=.list k s (ints l)/\(l≠[]->s=1)
def RL(x:AV)(ae:List (List Int)):Prop:=∃(k:Tok) (s:Nat) (xs:List AV),x=.list k s (xs.map λa=>[a])/\(ae≠[]->s=1)/\xs.length=ae.length/\∀(i:Nat) (a:AV) (r:List Int),xs[i]?=aa a->ae[i]?=aa r->IL a r
def aj4{l}{i}(h:i<l.length):(ints l)[i]?=aa [.v (.int .i64 (ak l i))]:=by unfold ints yL;rw[ev,aT h,ga h];rfl
def e7{H}{l}{i s}(h:i<l.length):aI aq Gt H 3 (.elem s (ints l) i 0)=aa (.v (.int .i64 (ak l i))):=by rw[rm fa (aj4 h)];rfl
def lh{H}{xs:List AV}{i s}{x}(h:xs[i]?=aa x):aI aq Gt H 23 (.elem s (xs.map λa=>[a]) i 0)=aa x:=by rw[rm pC (row:=[x]) (by rw[ev,h];rfl)];rfl
def ET:Tryz.f179.results.toList=[.tmp 4]:=aw
def aqz:Tryz.f199.results.toList=[]:=aw
def wO(w:Nat)(B:List Nat):List AV:=B.map λb=>AV.arr b 0 w w
def Mf(H:ao)(B:List Nat)(tb base:Nat)(cur:AV)(l:List Int):Prop:=(l=[]/\cur=.list .nil 0 [])∨(l≠[]/\∃b,cur=.arr b 0 l.length l.length/\H.boxes[b]?=aa (l.map im)/\b∉B/\b≠tb/\base<=b)
def atx{h0 H}{B}{tb}{cur}{l}(hc:Mf H B tb h0.boxes.length cur l)(hx:Ext h0 H)(hb:h0.boxes.length<=tb)(x)(hl:l.length<1000000)(hB:∀b∈B,b<H.boxes.length)(Xb:tb<H.boxes.length):
 ∃H2,rF aq H #[23,23] cur (.list .tight 1 [[.v (.int .i64 x)]])=aa (.arr H.boxes.length 0 (l.length+1) (l.length+1),H2)/\Mf H2 B tb h0.boxes.length (.arr H.boxes.length 0 (l.length+1) (l.length+1)) (l++[x])/\Ext h0 H2/\H2.loops=H.loops/\H2.boxes.length=H.boxes.length+1/\∀c cs,(c∈B∨c=tb)->H.boxes[c]?=aa cs->H2.boxes[c]?=aa cs:=by
 obtain⟨i,q1,q2,q3,q4⟩:=Eo;have ue:=p7 (ah:l.length+1<=1000000) q3;have bZ:=hx.len;rcases hc with⟨rfl,rfl⟩|⟨bO,b,rfl,h1,h2,h3,h4⟩
 ·have:=LL (h:=H) (k:=.nil) (sz:=0) (es:=[]) (new:=[[.v (.int .i64 x)]]) (x:=.list .tight 1 [[.v (.int .i64 x)]]) dN dN q1 ah (by rw[q2];exact q4) bH (by simp;omega) bH (.inr rfl) (.inl rfl) (by rw[q2];rfl);refine⟨_,this,.inr ⟨bH,H.boxes.length,rfl,bh _ _,λq=>absurd (hB _ q) (FW _),by omega,bZ⟩,hx.trans (.push _ _),rfl,cX _ _,λc cs _ q=>bA q⟩
 ·have aB:=(aV.1 h1).1;have lG:0<l.length:=List.length_pos_iff.2 bO;have:=RK (h:=H) (b:=b) (len:=l.length) (cs:=l.map im) (new:=[[.v (.int .i64 x)]]) (x:=.list .tight 1 [[.v (.int .i64 x)]]) dN dN q1 ah (by rw[q2];exact q4) bH (by simp;omega) (by simp;omega) h1 lG (by rw[q2,bE];omega) (by rw[q2];rfl);refine⟨_,this,.inr ⟨bH,H.boxes.length,by simp,?_,λq=>absurd (hB _ q) (FW _),by omega,bZ⟩,(hx.gh h4 _).trans (.push _ _),rfl,by rw[cX,mP],λc cs hc q=>bA ((dg ?_).trans q)⟩
  ·rw[mT];exact nb (by rw[mP])
  ·rcases hc with hc|hc
   ·rintro rfl;exact h2 hc
   ·rintro rfl;exact h3 hc
structure xJ(H:ao)(tb base w m:Nat)(B:List Nat)(t:List (List Int))(cur:AV)(l:List Int):Prop where
 gQ:H.boxes[tb]?=aa (wO w B++cur::bg (m - B.length - 1) (.list .nil 0 []))
 lt:B.length<m
 len:B.length=t.length
 nd:B.Nodup
 row:∀(i b:Nat) (r:List Int),B[i]?=aa b->t[i]?=aa r->H.boxes[b]?=aa (r.map im)
 wid:∀r∈t,r.length=w
 out:tb∉B
 low:∀b∈B,base<=b
 cur:Mf H B tb base cur l
def Yd{P}{h}{t elem}{i}{zero}{n}{k k'}(hu:P.underlying t=aa (.slice elem))(hi:P.info? elem=aa i)(hz:(jf P elem).bind AV.cD=aa zero)(h1:zero.length=i.size)(h2:0<i.size)(h3:i.bytes * n<=281474976710656)(h4:n<9223372036854775808):
 yS P h t (.v (.int k (n:Nat))) (.v (.int k' (n:Nat)))=aa (.arr h.boxes.length 0 n n,h.push (bg n zero).flatten):=by
 unfold yS;have h5:(i.bytes:Int) * (n:Nat)<=281474976710656:=by rw[<-Int.natCast_mul];omega
 simp only[hu,hi,hz];rw[aG ⟨ah,Mh _,by omega,h5,h2,h1⟩];simp[ao.push]
def Kp:∃i,aq.info? 23=aa i/\i.size=1/\i.bytes<=24/\(i.zero.map λz=>z.cells.size)=aa 1:=by
 have h:(match aq.info? 23 with|some i=>Nat.beq i.size 1&&Nat.ble i.bytes 24&&decide ((i.zero.map λz=>z.cells.size)=aa 1)|none=>az)=ai:=aw;cases hi:aq.info? 23 with
 |none=>rw[hi] at h;cases h
 |some i=>rw[hi] at h;simp only[bL,decide_eq_true_eq] at h;exact⟨i,rfl,Nat.eq_of_beq_eq_true h.1.1,Nat.le_of_ble_eq_true h.1.2,h.2⟩
def alw(h)(n)(hn:n<=1000000)(k k'):yS aq h 203 (.v (.int k (n:Nat))) (.v (.int k' (n:Nat)))=aa (.arr h.boxes.length 0 n n,h.push (bg n (.list .nil 0 []))):=by obtain⟨i,q1,q2,q3,q4⟩:=Kp;have hb:=p7 q3 hn;have:=Yd (h:=h) (n:=n) (k:=k) (k':=k') (zero:=[.list .nil 0 []]) F1 q1 aw (by rw[q2];rfl) ah ah ah;rw[this];simp
def AB(h)(n)(hn:n<=1000000)(k k'):yS aq h 23 (.v (.int k (n:Nat))) (.v (.int k' (n:Nat)))=aa (.arr h.boxes.length 0 n n,h.push (bg n (im 0))):=by obtain⟨i,q1,q2,q3,q4⟩:=Eo;have hb:=p7 q3 hn;have:=Yd (h:=h) (n:=n) (k:=k) (k':=k') (zero:=[im 0]) dN q1 LW (by rw[q2];rfl) ah ah ah;rw[this];simp
structure A3(H:ao)(tb base w m:Nat)(B:List Nat)(t:List (List Int)):Prop where
 gQ:H.boxes[tb]?=aa (wO w B++bg (m - B.length) (.list .nil 0 []))
 len:B.length=t.length
 nd:B.Nodup
 row:∀(i b:Nat) (r:List Int),B[i]?=aa b->t[i]?=aa r->H.boxes[b]?=aa (r.map im)
 wid:∀r∈t,r.length=w
 out:tb∉B
 low:∀b∈B,base<=b
def A3.half{H}{tb base w m}{B}{t}(M:A3 H tb base w m B t)(hm:B.length<m):xJ H tb base w m B t (.list .nil 0 []) []:=by refine⟨?_,hm,M.len,M.nd,M.row,M.wid,M.out,M.low,.inl ⟨rfl,rfl⟩⟩;rw[M.gQ,(ah:m - B.length=m - B.length - 1+1),A1];rfl
def A3.Ix{H}{tb base w m}{B}{t}(M:A3 H tb base w m B t)(hm:B.length=m):jQ H tb B t w:=by refine⟨?_,M.len,M.nd,M.row,M.wid,M.out⟩;rw[M.gQ,hm,tU,List.replicate_zero,jX];rfl
def GD(w)(B):(wO w B).length=B.length:=by unfold wO;simp
def ai9(w)(B)(c)(r):(wO w B++c::r)[B.length]?=aa c:=by rw[List.getElem?_append_right (by rw[GD];exact aM _),GD,tU];rfl
def aja(w)(B)(c d)(r):(wO w B++c::r).set B.length d=wO w B++d::r:=by rw[List.set_append_right _ _ (by rw[GD];exact aM _),GD,tU];rfl
def asH{H}{b k x n}{cs}(hb:H.boxes[b]?=aa cs)(hk:k<cs.length):cI aq H 23 (.ptr (.box b) k) (.arr x 0 n n)=aa (H.put b (cs.set k (.arr x 0 n n))):=by rw[ig (xs:=[AV.arr x 0 n n]) rfl iW hb rfl hk];congr 2;unfold eT;rw[A2,aG hk];simp
def xJ.lts{H}{tb base w m}{B}{t}{cur}{l}(F:xJ H tb base w m B t cur l):∀b∈B,b<H.boxes.length:=by intro b hb;obtain⟨i,hi⟩:=tT hb;have cK:=(aV.1 hi).1;exact(aV.1 (F.row i b _ hi (aT (by rw[<-F.len];exact cK)))).1
def xJ.more{h0 H}{tb w m}{B}{t}{cur}{l}(F:xJ H tb h0.boxes.length w m B t cur l)(hx:Ext h0 H)(hb:h0.boxes.length<=tb)(x)(hl:l.length<1000000):
 ∃H2 H3 cur',rF aq H #[23,23] cur (.list .tight 1 [[.v (.int .i64 x)]])=aa (cur',H2)/\cI aq H2 23 (.ptr (.box tb) B.length) cur'=aa H3/\xJ H3 tb h0.boxes.length w m B t cur' (l++[x])/\Ext h0 H3/\H3.loops=H.loops:=by
 have Xb:=(aV.1 F.gQ).1;obtain⟨H2,c1,c2,c3,c4,c5,c6⟩:=atx F.cur hx hb x hl F.lts Xb;have hd:=c6 tb _ (.inr rfl) F.gQ;have s1:=asH (x:=H.boxes.length) (n:=l.length+1) (k:=B.length) hd (by simp[GD]);rw[aja] at s1;refine⟨H2,_,_,c1,s1,⟨eP (aV.1 hd).1,F.lt,F.len,F.nd,λi b r hi hr=>?_,F.wid,F.out,F.low,?_⟩,c3.gh hb _,c4⟩
 ·have yo:=dn hi;rw[dg (λe=>F.out (by rw[<-e];exact yo))];exact c6 b _ (.inl yo) (F.row i b r hi hr)
 ·rcases c2 with⟨q,-⟩|⟨q,b,q1,q2,q3,q4,q5⟩
  ·simp at q
  ·exact .inr ⟨q,b,q1,by rw[dg q4];exact q2,q3,q4,q5⟩
def xJ.mid{H}{tb base w m}{B}{t}{cur}{l}(F:xJ H tb base w m B t cur l)(hl:l.length=w)(hw:0<w):∃b,A3 H tb base w m (B++[b]) (t++[l]):=by
 rcases F.cur with⟨rfl,-⟩|⟨q,b,q1,q2,q3,q4,q5⟩
 ·simp at hl;omega
 ·refine⟨b,?_,by simp[F.len],?_,λi c r hi hr=>?_,λr hr=>?_,?_,λc hc=>?_⟩
  ·rw[F.gQ,q1,hl];unfold wO;rw[mT,dE,List.append_assoc];rfl
  ·rw[List.nodup_append];refine⟨F.nd,by simp,λx hx y hy=>?_⟩;rw[lu] at hy;subst hy;rintro rfl;exact q3 hx
  ·rcases dV i B.length with aB|ec
   ·rw[rK aB] at hi;rw[rK (by rw[<-F.len];exact aB)] at hr;exact F.row i c r hi hr
   ·have:=(aV.1 hi).1;rw[dE] at this;have Oz:i=B.length:=(by simp at this;omega);subst Oz;rw[FH] at hi;rw[F.len,FH] at hr;injection hi with hi;injection hr with hr;subst hi;subst hr;exact q2
  ·rcases vX.1 hr with z|z
   ·exact F.wid r z
   ·rw[lu] at z;rw[z];exact hl
  ·intro z;rcases vX.1 z with z|z
   ·exact F.out z
   ·rw[lu] at z;exact q4 z.symm
  ·rcases vX.1 hc with z|z
   ·exact F.low c z
   ·rw[lu] at z;rw[z];exact q5
def atJ(h:ao)(x y:AV)(ae:List (List Int))(target:List Int)(hx:RL x ae)(hy:IL y target)(hr:ae.length<=1000)(ht:target.length<=1000)(hw:∀r∈ae,r.length=target.length):
 ∃r h',W2.call 179 [x,y] h=aa (r,h')/\∃tb B,r=.ret (.arr tb 0 target.length target.length)/\jQ h' tb B (fS ae target) (ae.length+1)/\Ext h h'/\h.boxes.length<=tb/\∀b∈B,h.boxes.length<=b:=by
 obtain⟨kx0,sx,xs,rfl,uo,dB,eg⟩:=hx;obtain⟨ky,sy,rfl,jL⟩:=hy;have kx:=al.mk (av uo (av eg (av jL hw)));clear uo eg jL hw;have mk:=alw h target.length ah .i64 .i64;have u23:=dN;have u22:=ir;have u203:=F1;have z23:=iW;have z3:=fH;have cK:=dp target;have Kl:(xs.map λa=>[a]).length=ae.length:=by rw[bE];exact dB
 refine da rfl Tryz.func179 rfl ?_;refine bI @ET ?_;refine bM.gen λe0 aF bD cN cH=>?_;have f0:e0.get 0=.list kx0 sx (xs.map λa=>[a]):=by rw[aF];exact gS
 have f5:e0.get 5=.arr h.boxes.length 0 target.length target.length:=by rw[aF];exact gS
 have f13:e0.get 13=.list ky sy (ints target):=by rw[aF];exact gS
 have f14:e0.get 14=.v (.int .i64 (target.length:Nat)):=by rw[aF];exact gS
 have f15:e0.get 15=.v (.int .i64 (0:Nat)):=by rw[aF];exact gR
 have fd:e0.defers=[]:=by rw[bD];exact gS
 clear aF bD cN cH mk;have tl:=RM ae target;have M0:A3 (h.push (bg target.length (.list .nil 0 []))) h.boxes.length h.boxes.length (ae.length+1) target.length [] ((fS ae target).take 0):=by refine⟨by rw[bh];simp[wO],rfl,.nil,λi b r hi=>by simp at hi,λr hr=>by simp at hr,by simp,λb hb=>by simp at hb⟩
 refine cE (λm e H=>∃(k:Nat) (B:List Nat),k<=target.length/\m=target.length - k/\B.length=k/\al (A3 H h.boxes.length h.boxes.length (ae.length+1) target.length B ((fS ae target).take k))/\al (Ext h H)/\e.get 0=.list kx0 sx (xs.map λa=>[a])/\e.get 5=.arr h.boxes.length 0 target.length target.length/\e.get 13=.list ky sy (ints target)/\e.get 14=.v (.int .i64 (target.length:Nat))/\e.get 15=.v (.int .i64 (k:Nat))/\e.defers=[]) ?_ target.length _ _ ?_;rotate_left 1
 ·exact⟨0,[],cG _,rfl,rfl,⟨M0⟩,⟨.push _ _⟩,f0,f5,f13,f14,f15,fd⟩
 clear M0 f0 f5 f13 f14 f15 fd;rintro m e H ⟨k,B,hk,rfl,u7,kM,kX,g0,g5,g13,g14,g15,hd⟩;by_cases JY:k<target.length;rotate_left 1
 ·have:k=target.length:=by omega
  subst this;have T:=kM.out.Ix u7;rw[gO ah] at T;have kT:=al.mk T;clear T;refine bI @ET ?_;exact⟨_,_,rfl,_,B,rfl,kT.out,kX.out,aM _,kM.out.low⟩
 have bF:sy=1:=kx.out.2.2.1 (by intro q;rw[q] at JY;simp at JY);subst bF;have l0:=e7 (H:=H) (s:=1) JY;have F0:=kM.out.half ah;have kF0:=al.mk F0;have hkI:(k:Int)<(target.length:Int):=by omega
 clear F0;refine bV @ET @a9 ?_;refine bM.gen λe0 aF bD cN cH=>?_;have f0:e0.get 0=.list kx0 sx (xs.map λa=>[a]):=by rw[aF];simp only[gW,reduceIte,aZ,aQ];exact g0
 have f5:e0.get 5=.arr h.boxes.length 0 target.length target.length:=by rw[aF];simp only[gW,reduceIte,aZ,aQ];exact g5
 have f6:e0.get 6=.v (.int .i64 (k:Nat)):=by rw[aF];exact gS
 have f7:e0.get 7=.v (.int .i64 (ak target k)):=by rw[aF];exact gS
 have f13:e0.get 13=.list ky 1 (ints target):=by rw[aF];simp only[gW,reduceIte,aZ,aQ];exact g13
 have f14:e0.get 14=.v (.int .i64 (target.length:Nat)):=by rw[aF];simp only[gW,reduceIte,aZ,aQ];exact g14
 have f15:e0.get 15=.v (.int .i64 (k:Nat)):=by rw[aF];simp only[gW,reduceIte,aZ,aQ];exact g15
 have f20:e0.get 20=.list kx0 sx (xs.map λa=>[a]):=by rw[aF];exact gS
 have f21:e0.get 21=.v (.int .i64 (ae.length:Nat)):=by rw[aF];exact gS
 have f22:e0.get 22=.v (.int .i64 (0:Nat)):=by rw[aF];exact gR
 have fd:e0.defers=[]:=by rw[bD];simp only[gW,reduceIte,aZ,aQ];exact hd
 clear aF bD cN cH g0 g5 g13 g14 g15 hd l0;refine cE (λm e H=>∃(i:Nat) (cur:AV),i<=ae.length/\m=ae.length - i/\al (xJ H h.boxes.length h.boxes.length (ae.length+1) target.length B ((fS ae target).take k) cur ((ae.take i).map λr=>ak r k))/\al (Ext h H)/\e.get 0=.list kx0 sx (xs.map λa=>[a])/\e.get 5=.arr h.boxes.length 0 target.length target.length/\e.get 6=.v (.int .i64 (k:Nat))/\e.get 7=.v (.int .i64 (ak target k))/\e.get 13=.list ky 1 (ints target)/\e.get 14=.v (.int .i64 (target.length:Nat))/\e.get 15=.v (.int .i64 (k:Nat))/\e.get 20=.list kx0 sx (xs.map λa=>[a])/\e.get 21=.v (.int .i64 (ae.length:Nat))/\e.get 22=.v (.int .i64 (i:Nat))/\e.defers=[]) ?_ ae.length _ _ ?_;rotate_left 1
 ·exact⟨0,_,cG _,rfl,kF0,kX,f0,f5,f6,f7,f13,f14,f15,f20,f21,f22,fd⟩
 clear f0 f5 f6 f7 f13 f14 f15 f20 f21 f22 fd kF0 kM kX;rintro m e2 H2 ⟨i,cur,hi,rfl,kF,kX,g0,g5,g6,g7,g13,g14,g15,g20,g21,g22,hd⟩;have lc:((ae.take i).map λr=>ak r k).length=i:=by rw[bE,fj];omega
 have ql:(wO (ae.length+1) B++cur::bg (target.length - B.length - 1) (.list .nil 0 []))[k]?=aa cur:=by rw[<-u7];exact ai9 _ _ _ _
 have m1:=ri kF.out.gQ ql;have Eu:=Es (b:=h.boxes.length) (len:=target.length) (aC:=target.length) (k:=.i64) JY;clear ql;by_cases iR:i<ae.length
 ·obtain⟨a,ha⟩:∃a,xs[i]?=aa a:=⟨_,aT ah⟩;obtain⟨r,hr⟩:∃r,ae[i]?=aa r:=⟨_,aT iR⟩;have uo:sx=1:=kx.out.1 (by intro q;rw[q] at iR;simp at iR);subst uo;obtain⟨ka,sa,rfl,iT⟩:=kx.out.2.1 i a r ha hr;have cS:=kx.out.2.2.2 r (dn hr);have Pl:sa=1:=iT (by intro q;rw[q] at cS;simp at cS;omega);subst Pl;have l1:=lh (H:=H2) (s:=1) ha;have l2:=e7 (H:=H2) (l:=r) (i:=k) (s:=1) ah;have vn:(ints r).length=target.length:=by rw[dp];exact cS
  obtain⟨H3,H4,cur',c1,c2,c3,c4,-⟩:=kF.out.more kX.out (aM _) (ak r k) (by rw[lc];omega);have jA:((ae.take i).map λr=>ak r k)++[ak r k]=(ae.take (i+1)).map λr=>ak r k:=by rw[fW hr,mT];rfl
  rw[jA] at c3;rw[u7] at c2;have bl:=qa (ak r k);have kF2:=al.mk c3;have kX2:=al.mk c4;have JX:(i:Int)<(ae.length:Int):=by omega
  clear c3 c4 jA ha hr iT lc u7 tl cS;refine bV @ET @a9 ?_
  repeat' (first|simp(maxSteps:=999999)(disch:=first|exact dZ|fail)only[gW,reduceIte,aZ,aQ,ET,a9, *]|(refine dX ?_ ?_<;>(intro _;try omega))|refine dR zM aw ?_)
  exact⟨ae.length - (i+1),by omega,i+1,cur',by omega,rfl,kF2,by simp⟩
 ·have gT:i=ae.length:=by omega
  subst gT;obtain⟨H3,H4,cur',c1,c2,c3,c4,-⟩:=kF.out.more kX.out (aM _) (ak target k) (by rw[lc];omega);rw[fI] at c3;have dJ:(ae.map λr=>ak r k)++[ak target k]=((fS ae target)[k]' ah):=by unfold fS;rw[qN,AX]
  rw[dJ] at c3;obtain⟨b,M2⟩:=c3.mid (by rw[<-dJ];simp) ah;rw[<-fW (aT (ah:k<(fS ae target).length))] at M2;have kM2:=al.mk M2;have kX2:=al.mk c4;have hBl:(B++[b]).length=k+1:=by rw[dE,u7];rfl
  rw[u7] at c2;have bl:=qa (ak target k);clear c3 c4 M2 dJ lc u7 tl;refine bI @ET ?_;exact⟨target.length - (k+1),by omega,k+1,B++[b],by omega,rfl,hBl,kM2,by simp⟩
def ZH:Tryz.f126.results.toList=[.tmp 4]:=aw
def AJ:Tryz.f167.results.toList=[.tmp 4]:=aw
def aqk:Tryz.f152.results.toList=[.tmp 4]:=aw
def Lh:Tryz.f185.results.toList=[.tmp 4]:=aw
def ZW:Tryz.f218.results.toList=[.tmp 2]:=aw
def Ic:Tryz.f200.results.toList=[]:=aw
def ZS:Tryz.f178.results.toList=[]:=aw
def aj7(g:bm)(p:Int->Bool)(h:ao)(x:AV)(l:List Int)(hx:IL x l)(hl:l.length<=1000000)(hp:∀n∈l,W2.call g [im n] h=aa (.ret (.v (.bool (p n))),h)):
 ∃r h',W2.call 167 [x,.func (.func g) [] []] h=some (r,h')/\h'=h/\∃i:Int,r=.ret (im i)/\decide (0<=i)=l.any p:=by
 obtain⟨k,s,rfl,hs⟩:=hx;have kp:=al.mk hp;have ks:=al.mk hs;clear hp hs;have u23:=dN;have z3:=fH;have cK:=dp l;refine da rfl Tryz.func167 rfl ?_;refine bI @AJ ?_;refine cE (λm e H=>∃i:Nat,i<=l.length/\m=l.length - i/\(l.take i).any p=az/\e.get 0=.list k s (ints l)/\e.get 1=.func (.func g) [] []/\e.get 7=.v (.int .i64 (l.length:Nat))/\e.get 8=.v (.int .i64 (i:Nat))/\e.defers=[]/\H=h) ?_ l.length _ _ ?_;rotate_left 1
 ·refine⟨0,cG _,rfl,by simp,?_,?_,?_,?_,?_,rfl⟩<;>exact gR
 rintro m e H ⟨i,hi,rfl,ha,g0,g1,g7,g8,hd,rfl⟩;have ka:=al.mk ha;clear ha;by_cases aB:i<l.length
 ·have bF:s=1:=ks.out (by intro q;rw[q] at aB;simp at aB);subst bF;have ld:=e7 (H:=H) (s:=1) aB;have hv:l[i]?=aa (ak l i):=by rw[aT aB,ga aB]
  have hc:=kp.out (ak l i) (dn hv);have fA:(i:Int)<(l.length:Int):=by omega
  have pM:(l.take (i+1)).any p=p (ak l i):=by rw[fW hv,Mm,ka.out];simp
  have kt:=al.mk pM;have kh:=al.mk hv;clear hv pM;unfold im at hc;cases fG:p (ak l i) with
  |true=>rw[fG] at hc;have mg:l.any p=ai:=FE.2 ⟨_,dn kh.out,fG⟩;have kan:=al.mk mg;clear mg fG;refine bG @AJ @a9 @mC.{0} @jX.{0} ?_;exact⟨_,_,rfl,rfl,(i:Int),rfl,by rw[kan.out];simp⟩
  |false=>rw[fG] at hc;have kt2:(l.take (i+1)).any p=az:=kt.out.trans fG;clear fG;refine bG @AJ @a9 @mC.{0} @jX.{0} ?_;exact⟨l.length - (i+1),by omega,i+1,by omega,rfl,kt2,by simp⟩
 ·have:i=l.length:=by omega
  subst this;have:=ka.out;rw[fI] at this;have kan:=al.mk this;clear this;refine bI @AJ ?_;exact⟨_,_,rfl,rfl,-1,rfl,by rw[kan.out];rfl⟩
def Uv(g)(p)(h)(x)(l)(hx:IL x l)(hl:l.length<=1000000)(hp:∀n∈l,W2.call g [im n] h=aa (.ret (.v (.bool (p n))),h)):
 W2.call 126 [x,.func (.func g) [] []] h=aa (.ret (.v (.bool (l.any p))),h):=by
 obtain⟨r,h',c,rfl,i,rfl,hi⟩:=aj7 g p h x l hx hl hp;have oW:(0<=i)=(l.any p=ai):=by rw[<-hi];simp
 have DW:decide (0<=i)=l.any p:=hi;unfold im at c;refine cL rfl Tryz.func126 rfl ?_;clear hi oW;exact lP @ZH
def aj8(g:bm)(p:List Int->Bool)(h:ao)(x:AV)(l:List (List Int))(hx:RL x l)(hl:l.length<=1000000)(hp:∀a r,r∈l->IL a r->W2.call g [a] h=aa (.ret (.v (.bool (p r))),h)):
 ∃r h',W2.call 185 [x,.func (.func g) [] []] h=some (r,h')/\h'=h/\∃i:Int,r=.ret (im i)/\decide (0<=i)=l.any p:=by
 obtain⟨k,s,xs,rfl,hs,dB,eg⟩:=hx;have kxr:=al.mk eg;clear eg;have kp:=al.mk hp;have ks:=al.mk hs;clear hp hs;have u22:=ir;have z23:=iW;have cK:(xs.map λa=>[a]).length=l.length:=by rw[bE];exact dB
 refine da rfl Tryz.func185 rfl ?_;refine bI @Lh ?_;refine cE (λm e H=>∃i:Nat,i<=l.length/\m=l.length - i/\(l.take i).any p=az/\e.get 0=.list k s (xs.map λa=>[a])/\e.get 1=.func (.func g) [] []/\e.get 7=.v (.int .i64 (l.length:Nat))/\e.get 8=.v (.int .i64 (i:Nat))/\e.defers=[]/\H=h) ?_ l.length _ _ ?_;rotate_left 1
 ·refine⟨0,cG _,rfl,by simp,?_,?_,?_,?_,?_,rfl⟩<;>exact gR
 rintro m e H ⟨i,hi,rfl,ha,g0,g1,g7,g8,hd,rfl⟩;have ka:=al.mk ha;clear ha;by_cases aB:i<l.length
 ·have bF:s=1:=ks.out (by intro q;rw[q] at aB;simp at aB);subst bF;obtain⟨a,fE⟩:∃a,xs[i]?=aa a:=⟨_,aT ah⟩;obtain⟨r,hv⟩:∃r,l[i]?=aa r:=⟨_,aT aB⟩;have ld:=lh (H:=H) (s:=1) fE;have hc:=kp.out a r (dn hv) (kxr.out i a r fE hv);clear fE;have fA:(i:Int)<(l.length:Int):=by omega
  have pM:(l.take (i+1)).any p=p r:=by rw[fW hv,Mm,ka.out];simp
  have kt:=al.mk pM;have kh:=al.mk hv;clear hv pM;cases fG:p r with
  |true=>rw[fG] at hc;have mg:l.any p=ai:=FE.2 ⟨_,dn kh.out,fG⟩;have kan:=al.mk mg;clear mg fG;refine bG @Lh @a9 @mC.{0} @jX.{0} ?_;exact⟨_,_,rfl,rfl,(i:Int),rfl,by rw[kan.out];simp⟩
  |false=>rw[fG] at hc;have kt2:(l.take (i+1)).any p=az:=kt.out.trans fG;clear fG;refine bG @Lh @a9 @mC.{0} @jX.{0} ?_;exact⟨l.length - (i+1),by omega,i+1,by omega,rfl,kt2,by simp⟩
 ·have:i=l.length:=by omega
  subst this;have:=ka.out;rw[fI] at this;have kan:=al.mk this;clear this;refine bI @Lh ?_;exact⟨_,_,rfl,rfl,-1,rfl,by rw[kan.out];rfl⟩
def agj(g)(p)(h)(x)(l)(hx:RL x l)(hl:l.length<=1000000)(hp:∀a r,r∈l->IL a r->W2.call g [a] h=aa (.ret (.v (.bool (p r))),h)):
 W2.call 152 [x,.func (.func g) [] []] h=aa (.ret (.v (.bool (l.any p))),h):=by
 obtain⟨r,h',c,rfl,i,rfl,hi⟩:=aj8 g p h x l hx hl hp;have oW:(0<=i)=(l.any p=ai):=by rw[<-hi];simp
 have DW:decide (0<=i)=l.any p:=hi;unfold im at c;refine cL rfl Tryz.func152 rfl ?_;clear hi oW;exact lP @aqk
def qA(n:Int):Bool:=decide (n<0)||decide (1073741789<=n)
def alW(n:Int)(h:ao):W2.call 218 [im n] h=aa (.ret (.v (.bool (qA n))),h):=by
 unfold im qA;by_cases h0:n<0
 ·refine cL rfl acX rfl ?_;have:decide (n<0)=ai:=by simp[h0]
  exact jI @ZW @Bool.true_or
 ·refine cL rfl acX rfl ?_;have:decide (n<0)=az:=by simp[h0]
  exact jI @ZW @abu
def KD(e:Int)(h:ao):W2.call 199 [.v (.bool ai),im e] h=aa (.ret (.tuple []),h):=by unfold im;refine cL rfl Tryz.func199 rfl ?_;exact lP @aqz
def alY{l:List Int}(h:∀x∈l,okF x):l.any qA=az:=by rw[abR];intro x hx;obtain⟨h1,h2⟩:=h x hx;have:Qi=1073741789:=rfl;unfold qA;simp;omega
def Uh(h:ao)(x:AV)(ae:List (List Int))(w:Nat)(hx:RL x ae)(hr:ae.length<=1000)(hw:∀r∈ae,r.length=w)(nU:w<=64)(bJ:∀r∈ae,∀x∈r,okF x):∃h',W2.call 200 [x] h=aa (.ret (.tuple []),h')/\h'=h:=by
 obtain⟨k,s,xs,rfl,hs,dB,eg⟩:=hx;have kk:=al.mk (av hs (av eg (av hw bJ)));clear hs eg hw bJ;have u23:=dN;have u22:=ir;have z23:=iW;have cK:(xs.map λa=>[a]).length=ae.length:=by rw[bE];exact dB
 have n2:=KD 2;have n130:=KD 130;unfold im at n2 n130;refine iu rfl Tryz.func200 rfl ?_;refine bI @Ic ?_;refine cE (λm e H=>∃i:Nat,i<=ae.length/\m=ae.length - i/\e.get 0=.list k s (xs.map λa=>[a])/\e.get 7=.list k s (xs.map λa=>[a])/\e.get 8=.v (.int .i64 (ae.length:Nat))/\e.get 9=.v (.int .i64 (i:Nat))/\e.defers=[]/\H=h) ?_ ae.length _ _ ?_;rotate_left 1
 ·refine⟨0,cG _,rfl,?_,?_,?_,?_,?_,rfl⟩<;>exact gR
 rintro m e H ⟨i,hi,rfl,g0,g7,g8,g9,hd,rfl⟩;by_cases aB:i<ae.length
 ·have bF:s=1:=kk.out.1 (by intro q;rw[q] at aB;simp at aB);subst bF;obtain⟨a,fE⟩:∃a,xs[i]?=aa a:=⟨_,aT ah⟩;obtain⟨r,hv⟩:∃r,ae[i]?=aa r:=⟨_,aT aB⟩;have ld:=lh (H:=H) (s:=1) fE;obtain⟨ka,sa,rfl,iT⟩:=kk.out.2.1 i a r fE hv;have cS:=kk.out.2.2.1 r (dn hv);have vn:(ints r).length=w:=by rw[dp];exact cS
  have fA:(i:Int)<(ae.length:Int):=by omega
  have hwd:decide ((w:Int)<=64)=ai:=by simp;omega
  clear fE hv iT cS;refine bV @Ic @a9 ?_;exact⟨ae.length - (i+1),by omega,i+1,by omega,rfl,by simp⟩
 ·refine bI @Ic ?_;refine bM.gen λe0 aF bD cN cH=>?_;have f0:e0.get 0=.list k s (xs.map λa=>[a]):=by rw[aF];simp only[gW,reduceIte,aZ,aQ];exact g0
  have f4:e0.get 4=.func (.func 218) [] []:=by rw[aF];exact gS
  have f18:e0.get 18=.list k s (xs.map λa=>[a]):=by rw[aF];exact gS
  have f19:e0.get 19=.v (.int .i64 (ae.length:Nat)):=by rw[aF];exact gS
  have f20:e0.get 20=.v (.int .i64 (0:Nat)):=by rw[aF];exact gR
  have fd:e0.defers=[]:=by rw[bD];simp only[gW,reduceIte,aZ,aQ];exact hd
  clear aF bD cN cH g0 g7 g8 g9 hd hi aB;refine cE (λm e H2=>∃i:Nat,i<=ae.length/\m=ae.length - i/\e.get 0=.list k s (xs.map λa=>[a])/\e.get 4=.func (.func 218) [] []/\e.get 18=.list k s (xs.map λa=>[a])/\e.get 19=.v (.int .i64 (ae.length:Nat))/\e.get 20=.v (.int .i64 (i:Nat))/\e.defers=[]/\H2=H) ?_ ae.length _ _ ?_;rotate_left 1
  ·exact⟨0,cG _,rfl,f0,f4,f18,f19,f20,fd,rfl⟩
  clear f0 f4 f18 f19 f20 fd;rintro m e H ⟨i,hi,rfl,g0,g4,g18,g19,g20,hd,rfl⟩;by_cases aB:i<ae.length
  ·have bF:s=1:=kk.out.1 (by intro q;rw[q] at aB;simp at aB);subst bF;obtain⟨a,fE⟩:∃a,xs[i]?=aa a:=⟨_,aT ah⟩;obtain⟨r,hv⟩:∃r,ae[i]?=aa r:=⟨_,aT aB⟩;obtain⟨a0,gf⟩:∃a,xs[0]?=aa a:=⟨_,aT ah⟩;obtain⟨r0,gg⟩:∃r,ae[0]?=aa r:=⟨_,aT ah⟩;have ld:=lh (H:=H) (s:=1) fE;have ld0:=lh (H:=H) (s:=1) gf;obtain⟨ka,sa,rfl,iT⟩:=kk.out.2.1 i a r fE hv;obtain⟨ka0,sa0,rfl,pK⟩:=kk.out.2.1 0 a0 r0 gf gg;have cS:=kk.out.2.2.1 r (dn hv);have tB:=kk.out.2.2.1 r0 (dn gg);have cc:=Uv 218 qA H (.list ka sa (ints r)) r ⟨_,_,rfl,iT⟩ ah (λn _=>alW n H);rw[alY (kk.out.2.2.2 r (dn hv))] at cc;have vn:(ints r).length=w:=(by rw[dp];exact cS);have Ed:(ints r0).length=w:=(by rw[dp];exact tB);have fA:(i:Int)<(ae.length:Int):=(by omega);have yi:(0:Int)<(ae.length:Int):=(by omega);have z0:(0:Int).toNat=0:=rfl;clear fE hv iT cS gf gg pK tB;refine bV @Ic @a9 ?_;exact⟨ae.length - (i+1),by omega,i+1,by omega,rfl,by simp⟩
  ·refine bI @Ic ?_;exact⟨_,rfl,rfl⟩
def ER:Tryz.f144.results.toList=[.tmp 4,.tmp 5,.cell 6 32]:=aw
def aqu:Tryz.f177.results.toList=[]:=aw
def Ji(x)(hx:x.ek=ai):fX aq 22 1 [(0,x)]=aa (.list .tight 1 [[x]]):=by cases x<;>first|(cases hx;done)|kernel_rfl
def IL.cell{x}{l}(h:IL x l):x.ek=ai:=by obtain⟨k,s,rfl,-⟩:=h;rfl
def TZ(b:Nat)(h:ao):W2.jR 177 [.ptr (.box b) 0] ar h=aa (.ret (.tuple []),ar,h):=by have u20:=Tryz.underlying20;refine agH Tryz.func177 rfl ?_;exact td @aqu @aeo @and_self
def ahr(h:ao)(x y:AV)(ae:List (List Int))(target:List Int)(hx:RL x ae)(hy:IL y target)(hr:ae.length<=64)(hw:∀r∈ae,r.length=target.length)(nU:target.length<=64)(bJ:∀r∈ae,∀x∈r,okF x)(oB:∀x∈target,okF x):
 W2.call 178 [x,y] h=aa (.ret (.tuple []),h):=by
 obtain⟨h1,c1,e1⟩:=Uh h x ae target.length hx ah hw nU bJ;rw[e1] at c1;clear e1 h1;have ub:RL (.list .tight 1 [[y]]) [target]:=⟨.tight,1,[y],rfl,λ_=>rfl,rfl,λi a r ha hr=>by
  cases i with
  |zero=>simp only[List.getElem?_cons_zero] at ha hr;injection ha with ha;injection hr with hr;subst ha;subst hr;exact hy
  |succ i=>simp at ha⟩
 obtain⟨h2,c2,e2⟩:=Uh h (.list .tight 1 [[y]]) [target] target.length ub bH bH nU (by simpa using oB);rw[e2] at c2;clear e2 h2;have bl:=Ji y hy.cell;have n2:=KD 2;have n130:=KD 130;obtain⟨k,s,xs,rfl,hs,dB,eg⟩:=hx;obtain⟨ky,sy,rfl,jL⟩:=hy;have u23:=dN;have u22:=ir;have z23:=iW;have cK:(xs.map λa=>[a]).length=ae.length:=by rw[bE];exact dB
 have tw:=dp target;have Pe:decide ((ae.length:Int)<=64)=ai:=by simp;omega
 unfold im at n2 n130;clear ub bJ oB;refine cL rfl Tryz.func178 rfl ?_;by_cases h0:ae.length=0
 ·have hq:decide ((ae.length:Int)=0)=ai:=by simp[h0]
  clear hw eg h0;exact lP @ZS
 ·have hq:decide ((ae.length:Int)=0)=az:=by simp[h0]
  obtain⟨a0,gf⟩:∃a,xs[0]?=aa a:=⟨_,aT ah⟩;obtain⟨r0,gg⟩:∃r,ae[0]?=aa r:=⟨_,aT ah⟩;have bF:s=1:=hs (by intro q;rw[q] at h0;simp at h0);subst bF;have ld0:=lh (H:=h) (s:=1) gf;obtain⟨ka0,sa0,rfl,pK⟩:=eg 0 a0 r0 gf gg;have tB:=hw r0 (dn gg);have Ed:(ints r0).length=target.length:=by rw[dp];exact tB
  have yi:(0:Int)<(ae.length:Int):=by omega
  have z0:(0:Int).toNat=0:=rfl;clear hw eg gf gg tB hs;exact jI @ZS @a9
def Bd:gU aq 32=aa az:=aw
def aa1:dC aq 32=aa 1:=aw
def auH:(jf aq 32).bind AV.cD=aa [im 0]:=aw
def XO{H}{b}{x}(hb:H.boxes[b]?=aa [x]):aI aq Gt H 32 (.ptr (.box b) 0)=aa x:=by rw[mw Bd hb];rfl
def aaD{H}{b}{x}{n}(hb:H.boxes[b]?=aa [x]):cI aq H 32 (.ptr (.box b) 0) (.v (.int .i64 n))=aa (H.put b [.v (.int .i64 n)]):=ig (off:=0) (cs:=[x]) (xs:=[im n]) rfl aa1 hb rfl (aM 1)
def asc{b n k}(hk:k<=n):∃off,gY aq 203 (.arr b 0 n n) (aa (.v (.int .i64 (k:Nat)))) ar ar=aa (.arr b off (n - k) (n - k))/\(k<n->off=k):=by
 refine⟨if n=k then 0 else 0+k * 1,?_,λh=>by rw[aH ah];omega⟩;have e1:gE n ar n=aa n:=rfl;have e3:gE n (aa (.v (.int .i64 (k:Nat)))) 0=aa k:=by show(if 0<=(k:Int)/\(k:Int)<=(n:Int) then aa (k:Int).toNat else ar)=_;rw[aG ⟨ah,by omega⟩];rfl
 unfold gY;simp only[F1,iW,e1,e3,Option.isSome_none,xG,Bool.false_eq_true,false_and,if_false];rfl
def akr{b off len aC n}{k}(hn:n<len):dG aq 203 (.arr b off len aC) (.v (.int k (n:Nat)))=aa (.ptr (.box b) (off+n)):=by rw[Ep F1 iW ah ah,dK,Nat.mul_one]
def lV(t:List (List Int))(pv:List Nat)(n j:Nat):List Int:=(pv.zipIdx.take j).foldl (λy p=>y.set p.1 (ak (t.getD p.2 []) n)) (bg n 0)
def KS(t)(pv)(n j):(lV t pv n j).length=n:=by unfold lV;rw[Gj (λp=>ak (t.getD p.2 []) n),mB]
def Zl{t}{pv}{n j p}(h:pv[j]?=aa p):(lV t pv n j).set p (ak (t.getD j []) n)=lV t pv n (j+1):=by
 have hz:pv.zipIdx[j]?=aa (p,j):=by rw[ab2,h];simp
 unfold lV;rw[fW hz,oM];rfl
def Zk(t)(pv)(n):lV t pv n pv.length=ph (t,pv) n:=by unfold lV ph;rw[gO bH]
def abB(ae:List (List Int))(target:List Int)(h:ao)(r:eX)(h':ao):Prop:=
 Ext h h'/\((pG ae target=ar/\r=.ret (.tuple [.list .nil 0 [],.v (.bool az),im 0]))∨∃l b,pG ae target=aa l/\l.length=ae.length/\r=.ret (.tuple [.arr b 0 ae.length ae.length,.v (.bool ai),im 0])/\h'.boxes[b]?=aa (l.map im))
def agb(h:ao)(x y:AV)(ae:List (List Int))(target:List Int)(hx:RL x ae)(hy:IL y target)(hr:ae.length<=64)(hw:∀r∈ae,r.length=target.length)(nU:target.length<=64)(bJ:∀r∈ae,∀x∈r,okF x)(oB:∀x∈target,okF x)(ho:cO h=ai):
 ∃r h',W2.call 144 [x,y] h=aa (r,h')/\abB ae target h r h':=by
 have c1:=ahr (h.push [im 0]) x y ae target hx hy hr hw nU bJ oB;obtain⟨_,H2,c2,tb,B,rfl,T2,X2,kj,fP⟩:=atJ (h.push [im 0]) x y ae target hx hy ah ah hw;obtain⟨t1,t2⟩:=RN bJ oB;have tl:=RM ae target;obtain⟨_,H3,c3,tk,s3,B3,rfl,qw,T3,JP,G3⟩:=an1 H2 tb B (fS ae target) (ae.length+1) ae.length T2 ah ah ah t2 (X2.ok ho);have iJ:=an2 (many:=ae.length) t1 t2 ah;obtain⟨R,V⟩:=HO t1 t2 (ah:ae.length<=ae.length+1);rw[iJ] at qw T3 c3;rw[tl] at c3;have e1:pG ae target=if ((jd (fS ae target) ae.length).1.drop (jd (fS ae target) ae.length).2.length).all (λa=>decide (ak a ae.length=0)) then aa (ph (jd (fS ae target) ae.length) ae.length) else ar:=rfl
 have GK:(jd (fS ae target) ae.length).1.length=target.length:=by have:=(Zp t1 t2 ae.length ah).2.1;rw[<-Zo,iJ] at this;omega
 have X3:Ext (h.push [im 0]) H3:=X2.P9 (G3.mu.tN X2.tn) (λb hb=>by
  rcases iq.1 hb with q|q
  ·rw[q];exact kj
  ·exact fP b q)
 have b0:H3.boxes[h.boxes.length]?=aa [im 0]:=X3.box _ _ (bh _ _);have X0:Ext h H3:=(Ext.push h [im 0]).trans X3;obtain⟨k,s,xs,rfl,hs,dB,eg⟩:=hx;obtain⟨ky,sy,rfl,jL⟩:=hy;have cK:(xs.map λa=>[a]).length=ae.length:=by rw[bE];exact dB
 have avm:=V.len;generalize ct:jd (fS ae target) ae.length=st at *
 obtain⟨t',pv⟩:=st;dsimp only at *
 have wU:=PC pv;have kk:=al.mk (av T3 (av V (av e1 (av X0 (av b0 qw)))));clear T2 X2 kj fP t1 t2 tl iJ R V e1 JP G3 X3 b0 X0 T3 hs dB eg jL ct qw bJ oB hw ho;have u23:=dN;have u22:=ir;have u203:=F1;have z23:=iW;have z32:=auH;obtain⟨off,kK,Ao⟩:=asc (b:=tb) (ah:pv.length<=target.length);have khoff:=al.mk Ao;clear Ao;unfold im at *
 refine da rfl Tryz.func144 rfl ?_;refine bI @ER ?_;refine bM.gen λe0 aF bD cN cH=>?_;have f6:e0.get 6=.ptr (.box h.boxes.length) 0:=by rw[aF];exact gS
 have f7:e0.get 7=.v (.int .i64 (ae.length:Nat)):=by rw[aF];exact gS
 have f8:e0.get 8=.arr tb 0 target.length target.length:=by rw[aF];exact gS
 have f9:e0.get 9=.list tk s3 (ints (bP pv)):=by rw[aF];exact gS
 have f28:e0.get 28=.arr tb off (target.length - pv.length) (target.length - pv.length):=by rw[aF];exact gS
 have f29:e0.get 29=.v (.int .i64 ((target.length - pv.length:Nat):Int)):=by rw[aF];exact gS
 have f30:e0.get 30=.v (.int .i64 (0:Nat)):=by rw[aF];exact gR
 have fd:e0.defers=[(177,[.ptr (.box h.boxes.length) 0])]:=by rw[bD];exact gS
 have fp:e0.cV=ar:=by rw[cN];exact gS
 clear aF bD cN cH c1 c2 c3 kK;refine cE (λm e H=>∃j:Nat,j<=target.length - pv.length/\m=target.length - pv.length - j/\al (∀i,i<j->∀a,t'[pv.length+i]?=aa a->ak a ae.length=0)/\e.get 6=.ptr (.box h.boxes.length) 0/\e.get 7=.v (.int .i64 (ae.length:Nat))/\e.get 8=.arr tb 0 target.length target.length/\e.get 9=.list tk s3 (ints (bP pv))/\e.get 28=.arr tb off (target.length - pv.length) (target.length - pv.length)/\e.get 29=.v (.int .i64 ((target.length - pv.length:Nat):Int))/\e.get 30=.v (.int .i64 (j:Nat))/\e.defers=[(177,[.ptr (.box h.boxes.length) 0])]/\e.cV=ar/\H=H3) ?_ (target.length - pv.length) _ _ ?_;rotate_left 1
 ·exact⟨0,cG _,rfl,⟨λi hi=>absurd hi (qO _)⟩,f6,f7,f8,f9,f28,f29,f30,fd,fp,rfl⟩
 clear f6 f7 f8 f9 f28 f29 f30 fd fp;rintro m e H3 ⟨j,hj,rfl,kz,g6,g7,g8,g9,g28,g29,g30,hd,hp,rfl⟩;obtain⟨T3,V,e1,X0,b0,qw⟩:=kk.out;have s6:=λn=>aaD (n:=n) b0;by_cases aB:j<target.length - pv.length
 ·obtain⟨a,ha⟩:∃a,t'[pv.length+j]?=aa a:=⟨_,aT ah⟩;obtain⟨b,hb⟩:∃b,B3[pv.length+j]?=aa b:=⟨_,aT (by rw[T3.len];omega)⟩;have wa:=T3.wid a (dn ha);have wM:(B3.map λb=>AV.arr b 0 (ae.length+1) (ae.length+1))[off+j]?=aa (.arr b 0 (ae.length+1) (ae.length+1)):=by rw[khoff.out ah,ev,hb];rfl
  have m1:=ri T3.gQ wM;have m2:=yR (T3.row _ _ _ hb ha) (xd (k:=ae.length) ah);have ix1:=akr (b:=tb) (off:=off) (aC:=target.length - pv.length) (k:=.i64) aB;have ix2:=qy (b:=b) (len:=ae.length+1) (aC:=ae.length+1) (k:=.i64) (ah:ae.length<ae.length+1);have fA:(j:Int)<((target.length - pv.length:Nat):Int):=by omega
  by_cases hz:ak a ae.length=0
  ·have kz2:al (∀i,i<j+1->∀a,t'[pv.length+i]?=aa a->ak a ae.length=0):=⟨λi hi a' nf=>by
    rcases dV i j with q|q
    ·exact kz.out i q a' nf
    ·rw[(ah:i=j),ha] at nf;injection nf with nf;rw[<-nf];exact hz⟩
   rw[hz] at m2;unfold im at *
   clear T3 V e1 X0 b0 qw s6 ha hb wa wM hz kz;refine bI @ER ?_;exact⟨target.length - pv.length - (j+1),by omega,j+1,by omega,rfl,kz2,by simp⟩
  ·have e2:pG ae target=ar:=(by rw[e1,aH];intro q;rw[ej] at q;have:=q a (dn (i:=j) (by rw[oN];exact ha));exact hz (of_decide_eq_true this));have ke:=al.mk e2;have kX:=al.mk X0;have kb:=al.mk b0;have l6:∀n,aI aq Gt (H3.put h.boxes.length [.v (.int .i64 n)]) 32 (.ptr (.box h.boxes.length) 0)=aa (.v (.int .i64 n)):=λn=>XO (eP (aV.1 b0).1);unfold im at *
   clear T3 V e1 X0 b0 qw ha hb wa wM kz e2
   repeat' (first|simp(maxSteps:=999999)(disch:=first|exact dZ|fail)only[gW,reduceIte,aZ,aQ,ER,RR (TZ _ _), *]|refine dX ?_ ?_<;>(intro _;try omega))
   exact⟨_,_,rfl,kX.out.gh (aM _) _,.inl ⟨ke.out,rfl⟩⟩
 ·have oA:j=target.length - pv.length:=by omega
  subst oA;have e2:pG ae target=aa (ph (t',pv) ae.length):=by rw[e1,aG];rw[ej];intro a ha;obtain⟨i,hi⟩:=tT ha;rw[oN] at hi;have cK:=(aV.1 hi).1;exact cz (kz.out i ah a hi)
  rw[<-Zk] at e2;have ke:=al.mk e2;have mk:=AB H3 ae.length ah .i64 .i64;have nR:bg ae.length (im 0)=(lV t' pv ae.length 0).map im:=by unfold lV;rw[fm,FG,xQ]
  rw[nR] at mk;clear e1 e2 nR kz b0 s6 X0 T3 V qw;unfold im at mk;refine bI @ER ?_;refine bM.gen λe0 aF bD cN cH=>?_;have f4:e0.get 4=.arr H3.boxes.length 0 ae.length ae.length:=by rw[aF];exact gS
  have f6:e0.get 6=.ptr (.box h.boxes.length) 0:=by rw[aF];simp only[gW,reduceIte,aZ,aQ];exact g6
  have f7:e0.get 7=.v (.int .i64 (ae.length:Nat)):=by rw[aF];simp only[gW,reduceIte,aZ,aQ];exact g7
  have f8:e0.get 8=.arr tb 0 target.length target.length:=by rw[aF];simp only[gW,reduceIte,aZ,aQ];exact g8
  have f42:e0.get 42=.list tk s3 (ints (bP pv)):=by rw[aF];exact gS
  have f43:e0.get 43=.v (.int .i64 (pv.length:Nat)):=by rw[aF];exact gS
  have f44:e0.get 44=.v (.int .i64 (0:Nat)):=by rw[aF];exact gR
  have fd:e0.defers=[(177,[.ptr (.box h.boxes.length) 0])]:=by rw[bD];simp only[gW,reduceIte,aZ,aQ];exact hd
  have fp:e0.cV=ar:=by rw[cN];simp only[gW,reduceIte,aZ,aQ];exact hp
  clear aF bD cN cH g6 g7 g8 g9 g28 g29 g30 hd hp mk;refine cE (λm e H=>∃j:Nat,j<=pv.length/\m=pv.length - j/\e.get 4=.arr H3.boxes.length 0 ae.length ae.length/\e.get 6=.ptr (.box h.boxes.length) 0/\e.get 7=.v (.int .i64 (ae.length:Nat))/\e.get 8=.arr tb 0 target.length target.length/\e.get 42=.list tk s3 (ints (bP pv))/\e.get 43=.v (.int .i64 (pv.length:Nat))/\e.get 44=.v (.int .i64 (j:Nat))/\e.defers=[(177,[.ptr (.box h.boxes.length) 0])]/\e.cV=ar/\H=H3.push ((lV t' pv ae.length j).map im)) ?_ pv.length _ _ ?_;rotate_left 1
  ·exact⟨0,cG _,rfl,f4,f6,f7,f8,f42,f43,f44,fd,fp,rfl⟩
  clear f4 f6 f7 f8 f42 f43 f44 fd fp;rintro m e H ⟨j,hj,rfl,g4,g6,g7,g8,g42,g43,g44,hd,hp,rfl⟩;obtain⟨T3,V,-,X0,b0,qw⟩:=kk.out;by_cases aB:j<pv.length
  ·obtain⟨p,fG⟩:∃p,pv[j]?=aa p:=⟨_,aT aB⟩;have yA:=V.lt j p fG;have bF:s3=1:=by
    rcases qw with q|⟨q,-⟩
    ·exact q
    ·exfalso;unfold bP at q;rw[FL] at q;rw[q] at aB;exact qO _ aB
   subst bF;obtain⟨a,ha⟩:∃a,t'[j]?=aa a:=⟨_,aT ah⟩;obtain⟨b,hb⟩:∃b,B3[j]?=aa b:=⟨_,aT (by rw[T3.len];omega)⟩;have wa:=T3.wid a (dn ha);have wM:(B3.map λb=>AV.arr b 0 (ae.length+1) (ae.length+1))[j]?=aa (.arr b 0 (ae.length+1) (ae.length+1)):=(by rw[ev,hb];rfl);have O1:ak (bP pv) j=(p:Int):=(by have:(bP pv)[j]?=aa (p:Int):=(by unfold bP;rw[ev,fG];rfl);unfold ak;rw[dS,this];rfl);have l0:=e7 (H:=H3.push ((lV t' pv ae.length j).map im)) (l:=bP pv) (i:=j) (s:=1) (by unfold bP;rw[bE];exact aB);rw[O1] at l0;have m1:=ri (H:=H3.push ((lV t' pv ae.length j).map im)) (bA T3.gQ) wM;have m2:=yR (H:=H3.push ((lV t' pv ae.length j).map im)) (bA (T3.row _ _ _ hb ha)) (xd (k:=ae.length) ah);have ix1:=Es (b:=tb) (len:=target.length) (aC:=target.length) (k:=.i64) (ah:j<target.length);have ix2:=qy (b:=b) (len:=ae.length+1) (aC:=ae.length+1) (k:=.i64) (ah:ae.length<ae.length+1);have ix3:=qy (b:=H3.boxes.length) (len:=ae.length) (aC:=ae.length) (k:=.i64) yA;have sk:=y8 (H:=H3.push ((lV t' pv ae.length j).map im)) (b:=H3.boxes.length) (r:=lV t' pv ae.length j) (k:=p) (x:=ak a ae.length) (bh _ _) (by rw[KS];exact yA);have gD:t'.getD j []=a:=(by rw[dS,ha];rfl);rw[pg,<-gD,Zl fG,gD] at sk;have fA:(j:Int)<(pv.length:Int):=(by omega);have z3:=fH;unfold im at *
   clear T3 V X0 b0 qw ha hb wa wM gD O1 fG kk ke;refine bV @ER @a9 ?_;exact⟨pv.length - (j+1),by omega,j+1,by omega,rfl,by simp⟩
  ·have oA:j=pv.length:=(by omega);subst oA;have b1:(H3.push ((lV t' pv ae.length pv.length).map im)).boxes[h.boxes.length]?=aa [im 0]:=bA b0;have s6:=λn=>aaD (n:=n) b1;have OO:=(aV.1 b1).1;have l6:∀n,aI aq Gt ((H3.push ((lV t' pv ae.length pv.length).map im)).put h.boxes.length [.v (.int .i64 n)]) 32 (.ptr (.box h.boxes.length) 0)=aa (.v (.int .i64 n)):=λn=>XO (eP OO);have bO:H3.boxes.length≠h.boxes.length:=(by have:=(aV.1 b0).1;omega);have kX:=al.mk X0;clear T3 V X0 b0 b1 qw OO
   repeat' (first|simp(maxSteps:=999999)(disch:=first|exact dZ|fail)only[gW,reduceIte,aZ,aQ,ER,RR (TZ _ _), *]|refine dX ?_ ?_<;>(intro _;try omega))
   exact⟨_,_,rfl,(kX.out.trans (.push _ _)).gh (aM _) _,.inr ⟨_,_,ke.out,KS _ _ _ _,rfl,(dg bO).trans (bh _ _)⟩⟩
def ZN:Tryz.f154.results.toList=[.tmp 6]:=aw
def aqm:Tryz.f155.results.toList=[.tmp 2]:=aw
def aqj:Tryz.f151.results.toList=[.tmp 2]:=aw
def aql:Tryz.f153.results.toList=[.tmp 2]:=aw
def xr:Tryz.f97.results.toList=[.tmp 2]:=aw
def aa9(n a b)(h):W2.call 154 [im n,im a,im b] h=aa (.ret (.v (.bool (decide (a<=n)&&decide (n<=b)))),h):=by
 unfold im;by_cases h0:a<=n
 ·have:decide (a<=n)=ai:=by simp[h0]
  refine cL rfl acP rfl ?_;exact jI @ZN @Bool.true_and
 ·have:decide (a<=n)=az:=by simp[h0]
  refine cL rfl acP rfl ?_;exact jI @ZN @xG
def vH(n:Int):Bool:=decide (0<=n)&&decide (n<=63)
def YP(n)(h):W2.call 155 [im n] h=aa (.ret (.v (.bool (vH n))),h):=by
 have w:=aa9 n 0 63 h;unfold vH;unfold im at *
 refine cL rfl Tryz.func155 rfl ?_;exact lP @aqm
def ak8(a)(r)(ha:IL a r)(h):W2.call 151 [a] h=aa (.ret (.v (.bool (decide (64<r.length)))),h):=by
 obtain⟨k,s,rfl,-⟩:=ha;have u23:=dN;have hl:=dp r;have hd:decide (64<r.length)=decide ((64:Int)<(r.length:Int)):=by rw[decide_eq_decide];omega
 rw[hd];refine cL rfl Tryz.func151 rfl ?_;exact lP @aqj
def alU(n)(h):W2.call 153 [im n] h=aa (.ret (.v (.bool (!cU n))),h):=by
 have w:=aa9 n 0 1073741788 h;have e:cU n=(decide (0<=n)&&decide (n<=1073741788)):=by unfold cU Qi;congr 1;rw[decide_eq_decide];omega
 rw[e];unfold im at *
 refine cL rfl Tryz.func153 rfl ?_;exact lP @aql
def MU:gU aq 22=aa az:=aw
def sW:gU aq 25=aa ai:=aw
def dw{b}:iy aq 25 (.ptr (.box b) 0) 0=aa (.ptr (.box b) 0):=aw
def eG{b}:iy aq 25 (.ptr (.box b) 0) 1=aa (.ptr (.box b) 1):=aw
def pO{H}{b}{x y}(hb:H.boxes[b]?=aa [x,y]):aI aq Gt H 22 (.ptr (.box b) 0)=aa x:=by rw[mw MU hb];rfl
def Cn{H}{b}{x y}(hb:H.boxes[b]?=aa [x,y]):aI aq Gt H 23 (.ptr (.box b) 1)=aa y:=by rw[mw pC hb];rfl
def sZ(ae:List (List Int))(ag:List Int)(i:Nat):Bool:= !(ae.getD i []).isEmpty&&decide ((ae.getD i []).length=(ae.getD 0 []).length)&&(decide (0<=ak ag i)&&decide (ak ag i<=63))&&(ae.getD i []).all cU
def Uk(h:ao)(x y:AV)(ae:List (List Int))(ag:List Int)(hx:RL x ae)(hy:IL y ag):
 ∃h',W2.call 97 [.agg [x,y]] h=aa (.ret (.v (.int .i64 (de ae ag))),h')/\h'=h.push [x,y]:=by
 have c1:=λ(hl:ae.length<=64)=>agj 151 (λr=>decide (64<r.length)) (h.push [x,y]) x ae hx ah (λa r _ ha=>ak8 a r ha _);obtain⟨k,s,xs,rfl,hs,dB,eg⟩:=hx;obtain⟨ky,sy,rfl,jL⟩:=hy;have kk:=al.mk (av hs (av eg jL));clear hs eg jL;have u23:=dN;have u22:=ir;have z23:=iW;have z3:=fH;have cK:(xs.map λa=>[a]).length=ae.length:=by rw[bE];exact dB
 have oY:=dp ag;have b0:(h.push [.list k s (xs.map λa=>[a]),.list ky sy (ints ag)]).boxes[h.boxes.length]?=aa [.list k s (xs.map λa=>[a]),.list ky sy (ints ag)]:=bh _ _;have l0:=pO b0;have l1:=Cn b0;have bx:(AV.agg [.list k s (xs.map λa=>[a]),.list ky sy (ints ag)]).cD=aa [.list k s (xs.map λa=>[a]),.list ky sy (ints ag)]:=rfl;clear b0;unfold de;refine iu rfl Tryz.func97 rfl ?_;by_cases h1:64<ae.length
 ·have hq:decide ((64:Int)<(ae.length:Int))=ai:=by simp;omega
  rw[aG (by simp[h1])];clear c1;generalize hH:h.push [.list k s (xs.map λa=>[a]),.list ky sy (ints ag)]=H at *
  refine bG @xr @dw @eG (av @bB @hH) ?_;exact⟨_,rfl,rfl⟩
 have hq:decide ((64:Int)<(ae.length:Int))=az:=by simp;omega
 have c2:=c1 ah;have dU:decide (64<ae.length)=az:=by simp[h1]
 rw[dU,abu];clear c1 dU;cases h2:ae.any λr=>decide (64<r.length) with
 |true=>rw[h2] at c2;rw[aG rfl];clear h2;refine bG @xr @dw @eG @bB ?_;exact⟨_,rfl,rfl⟩|false=>
  rw[h2] at c2;rw[aH bH];by_cases h3:ae.length=ag.length;rotate_left 1
  ·rw[aG h3];clear h2;have hn:¬((ae.length:Int)=(ag.length:Int)):=(by omega);refine bG @xr @dw @eG @bB ?_;exact⟨_,rfl,rfl⟩
  rw[aH (by simpa using h3)];have wF:=al.mk h2;have hn:(ae.length:Int)=(ag.length:Int):=by omega
  have kn:=al.mk h3;clear h2 h3;obtain⟨H,hH⟩:∃H,h.push [.list k s (xs.map λa=>[a]),.list ky sy (ints ag)]=H:=⟨_,rfl⟩;rw[hH] at l0 l1 c2;rw[hH];generalize gG:(if ((bR ae.length).all λi=> !(ae.getD i []).isEmpty&&decide ((ae.getD i []).length=(ae.getD 0 []).length)&&(decide (0<=ak ag i)&&decide (ak ag i<=63))&&(ae.getD i []).all cU)=ai then (0:Int) else 230)=res;have kres:al (res=if ((bR ae.length).all (sZ ae ag))=ai then (0:Int) else 230):=⟨gG.symm⟩;have kH:=al.mk hH;clear gG hn;have eI:ae.length<=64:=by omega
  have D8:(ag.length:Int)=(ae.length:Int):=by have:=kn.out;omega
  refine bG @xr @dw @eG (av @bB @hH) ?_;refine bM.gen λe0 aF bD cN cH=>?_;have f1:e0.get 1=.ptr (.box h.boxes.length) 0:=by rw[aF];exact gS
  have f25:e0.get 25=.list k s (xs.map λa=>[a]):=by rw[aF];exact gS
  have f26:e0.get 26=.v (.int .i64 (ae.length:Nat)):=by rw[aF];exact gS
  have f27:e0.get 27=.v (.int .i64 (0:Nat)):=by rw[aF];exact gR
  have fd:e0.defers=[]:=by rw[bD];exact gS
  clear aF bD cN cH hH bx c2 hq h1;refine cE (λm e H2=>∃i:Nat,i<=ae.length/\m=ae.length - i/\al (∀j,j<i->sZ ae ag j=ai)/\e.get 1=.ptr (.box h.boxes.length) 0/\e.get 25=.list k s (xs.map λa=>[a])/\e.get 26=.v (.int .i64 (ae.length:Nat))/\e.get 27=.v (.int .i64 (i:Nat))/\e.defers=[]/\H2=H) ?_ ae.length _ _ ?_;rotate_left 1
  ·exact⟨0,cG _,rfl,⟨λj hj=>absurd hj (qO _)⟩,f1,f25,f26,f27,fd,rfl⟩
  clear f1 f25 f26 f27 fd;rintro m e H2 ⟨i,hi,rfl,kf,g1,g25,g26,g27,hd,Vy⟩;rw[<-Vy] at l0 l1 kH ⊢;clear Vy;by_cases aB:i<ae.length;rotate_left 1
  ·have gT:i=ae.length:=(by omega);subst gT;have h0:res=0:=(by rw[kres.out,aG];rw[ej];intro j hj;exact kf.out j (gB.1 hj));have k0:=al.mk h0;clear h0;refine bI @xr ?_;exact⟨_,by rw[k0.out],rfl⟩
  have bF:s=1:=kk.out.1 (by intro q;rw[q] at aB;simp at aB);subst bF;have jr:sy=1:=kk.out.2.2 (by intro q;have h0:=kn.out;rw[q,jY] at h0;omega);subst jr;obtain⟨a,fE⟩:∃a,xs[i]?=aa a:=⟨_,aT ah⟩;obtain⟨r,hv⟩:∃r,ae[i]?=aa r:=⟨_,aT aB⟩;obtain⟨a0,gf⟩:∃a,xs[0]?=aa a:=⟨_,aT ah⟩;obtain⟨r0,gg⟩:∃r,ae[0]?=aa r:=⟨_,aT ah⟩;have ld:=lh (H:=H2) (s:=1) fE;have ld0:=lh (H:=H2) (s:=1) gf;have tw:=kk.out.2.1 i a r fE hv;obtain⟨ka,sa,rfl,iT⟩:=tw;obtain⟨ka0,sa0,rfl,pK⟩:=kk.out.2.1 0 a0 r0 gf gg;have cS:=dp r;have tB:=dp r0;have ldo:=e7 (H:=H2) (l:=ag) (i:=i) (s:=1) (by have:=kn.out;omega);have VT:r.length<=64:=by have:=wF.out;rw[abR] at this;have:=this r (dn hv);simpa using this
  have cc:=Uv 153 (λn=> !cU n) H2 (.list ka sa (ints r)) r ⟨_,_,rfl,iT⟩ ah (λn _=>alU n H2);have cp:=YP (ak ag i) H2;have Ag:sZ ae ag i=(!r.isEmpty&&decide (r.length=r0.length)&&vH (ak ag i)&&r.all cU):=by unfold sZ vH;have g1:ae.getD i []=r:=(by rw[dS,hv];rfl);have g2:ae.getD 0 []=r0:=(by rw[dS,gg];rfl);rw[g1,g2]
  have mg:(r.any λn=> !cU n)= !(r.all cU):=by rw[List.any_eq_not_all_not];simp
  rw[mg] at cc;have gv:=al.mk Ag;have bad:sZ ae ag i=az->res=230:=by intro q;rw[kres.out,aH];intro z;rw[ej] at z;have:=z i (gB.2 aB);rw[q] at this;cases this
  have kbad:=al.mk bad;have fA:(i:Int)<(ae.length:Int):=by omega
  have yi:(0:Int)<(ae.length:Int):=by omega
  have z0:(0:Int).toNat=0:=rfl;clear Ag bad mg VT fE hv iT gf gg pK;unfold im at *
  generalize ak ag i=o at *
  by_cases e1:r.length=0
  ·have oZ:decide ((r.length:Int)=0)=ai:=(by simp[e1]);have hb:res=230:=kbad.out (by rw[gv.out,List.length_eq_zero_iff.1 e1];rfl);have kb:=al.mk hb;clear hb e1 cc cp;refine bG @xr @dw @eG @a9 ?_;exact⟨_,by rw[kb.out],rfl⟩
  have oZ:decide ((r.length:Int)=0)=az:=by simp[e1]
  have iI:r.isEmpty=az:=by cases r with|nil=>exact absurd rfl e1|cons _ _=>rfl
  by_cases e2:r.length=r0.length;rotate_left 1
  ·have nQ:decide ((r.length:Int)=(r0.length:Int))=az:=(by simp;omega);have hb:res=230:=kbad.out (by rw[gv.out,iI,cT e2];rfl);have kb:=al.mk hb;clear hb e1 e2 iI cc cp;refine bG @xr @dw @eG @a9 ?_;exact⟨_,by rw[kb.out],rfl⟩
  have nQ:decide ((r.length:Int)=(r0.length:Int))=ai:=by simp;omega
  cases e3:vH o with
  |false=>have hb:res=230:=kbad.out (by rw[gv.out,e3];simp);have kb:=al.mk hb;rw[e3] at cp;clear hb e1 e2 iI cc e3;refine bG @xr @dw @eG @a9 ?_;exact⟨_,by rw[kb.out],rfl⟩
  |true=>
   rw[e3] at cp;cases e4:r.all cU with
   |false=>have hb:res=230:=kbad.out (by rw[gv.out,e4];simp);have kb:=al.mk hb;rw[e4] at cc;clear hb e1 e2 iI e3 e4;refine bG @xr @dw @eG @a9 ?_;exact⟨_,by rw[kb.out],rfl⟩
   |true=>
    rw[e4] at cc;have kf2:al (∀j,j<i+1->sZ ae ag j=ai):=⟨λj hj=>by
     rcases dV j i with q|q
     ·exact kf.out j q
     ·rw[(ah:j=i),gv.out,iI,cz e2,e3,e4];rfl⟩
    clear e1 e2 iI e3 e4 gv kf;refine bG @xr @dw @eG @a9 ?_;exact⟨ae.length - (i+1),by omega,i+1,by omega,rfl,kf2,by simp⟩
def EW:Tryz.f198.results.toList=[.tmp 4,.tmp 5]:=aw
def aqC:Tryz.f216.results.toList=[.tmp 4]:=aw
def aqD:Tryz.f217.results.toList=[.tmp 2]:=aw
def aqG:Tryz.f226.results.toList=[.tmp 2]:=aw
def Yn(n)(h):W2.call 226 [im n] h=aa (.ret (.v (.bool az)),h):=by
 unfold im;refine cL rfl Tryz.func226 rfl ?_
 repeat' (first|simp(maxSteps:=999999)(disch:=first|exact dZ|fail)only[gW,reduceIte,aZ,aQ,aqG,ne_eq,not_true_eq_false,decide_false, *]|refine dX ?_ ?_<;>(intro _;try omega))
def alF(n)(h):W2.call 217 [im n] h=aa (.ret (.v (.bool az)),h):=by
 unfold im;refine cL rfl Tryz.func217 rfl ?_
 repeat' (first|simp(maxSteps:=999999)(disch:=first|exact dZ|fail)only[gW,reduceIte,aZ,aQ,aqD,ne_eq,not_true_eq_false,decide_false, *]|refine dX ?_ ?_<;>(intro _;try omega))
def akS(a b)(h):W2.call 216 [im a,im b] h=aa (.ret (.v (.bool (decide (a<b)))),h):=by
 have n1:=Yn a h;have n2:=Yn b h;unfold im at *
 refine cL rfl Tryz.func216 rfl ?_;exact lP @aqC
def UB(n)(h):nm aq h 179 3 (.v (.int .u64 n))=aa (.v (.int .i64 (IntKind.i64.wrap n)),h):=aw
def aak{t}{x y}{n}:cZ aq .shr t x y (.v (.int .u64 (n:Nat))) (.v (.int .u64 1))=aa (.v (.int .u64 ((n/2:Nat):Int))):=by rw[Bg aO];congr 3;show((n:Nat):Int).fdiv (2^1)=_;rw[Int.fdiv_eq_ediv_of_nonneg _ aO];simp
def aus{n}(h:n<18446744073709551616):IntKind.u64.wrap (n:Nat)=(n:Nat):=by show((n:Nat):Int).emod 18446744073709551616=_;exact Int.emod_eq_of_lt ah ah
def IF(aA:List Int):Prop:=∀i j:Nat,i<j->j<aA.length->ak aA i<ak aA j
def M4{l}{i}(h:i<l.length):ak l i∈l:=by rw[ga h];exact iG h
def Yh{l}{x}(h:x∈l):∃i,i<l.length/\ak l i=x:=by obtain⟨i,hi,rfl⟩:=ab3 h;exact⟨i,hi,ga hi⟩
def arC(h:ao)(x:AV)(aA:List Int)(o:Int)(hx:IL x aA)(hs:IF aA)(hl:aA.length<=1000000):
 ∃r h',W2.call 198 [x,im o] h=aa (r,h')/\h'=h/\∃i:Int,r=.ret (.tuple [im i,.v (.bool (aA.contains o))]):=by
 obtain⟨k,s,rfl,dm⟩:=hx;have kk:=al.mk (av dm hs);clear dm hs;have u23:=dN;have z3:=fH;have cK:=dp aA;have nP:=λn=>alF n h;unfold im at *
 refine da rfl Tryz.func198 rfl ?_;refine bI @EW ?_;refine bM.gen λe0 aF bD cN cH=>?_;have f0:e0.get 0=.list k s (ints aA):=by rw[aF];exact gS
 have f1:e0.get 1=.v (.int .i64 o):=by rw[aF];exact gS
 have f6:e0.get 6=.v (.int .i64 (aA.length:Nat)):=by rw[aF];exact gS
 have f7:e0.get 7=.v (.int .i64 (0:Nat)):=by rw[aF];exact gR
 have f8:e0.get 8=.v (.int .i64 (aA.length:Nat)):=by rw[aF];exact gS
 have fd:e0.defers=[]:=by rw[bD];exact gS
 clear aF bD cN cH;refine cE (λm e H=>∃lo hi:Nat,lo<=hi/\hi<=aA.length/\m=hi - lo/\al ((∀j,j<lo->ak aA j<o)/\∀j,hi<=j->j<aA.length->o<=ak aA j)/\e.get 0=.list k s (ints aA)/\e.get 1=.v (.int .i64 o)/\e.get 6=.v (.int .i64 (aA.length:Nat))/\e.get 7=.v (.int .i64 (lo:Nat))/\e.get 8=.v (.int .i64 (hi:Nat))/\e.defers=[]/\H=h) ?_ aA.length _ _ ?_;rotate_left 1
 ·exact⟨0,aA.length,cG _,aM _,rfl,⟨λj hj=>absurd hj (qO _),λj h1 h2=>by omega⟩,f0,f1,f6,f7,f8,fd,rfl⟩
 clear f0 f1 f6 f7 f8 fd;rintro m e H ⟨lo,hi,h1,h2,rfl,kI,g0,g1,g6,g7,g8,hd,rfl⟩;by_cases aB:lo<hi
 ·have bF:s=1:=kk.out.1 (by intro q;rw[q,jY] at h2;omega);subst bF;obtain⟨md,BZ⟩:∃md:Nat,(lo+hi)/2=md:=⟨_,rfl⟩;have ld:=e7 (H:=H) (l:=aA) (i:=md) (s:=1) ah;have ls:=akS (ak aA md) o H;have fA:(lo:Int)<(hi:Int):=by omega
  have zY:(lo:Int)+(hi:Int)=((lo+hi:Nat):Int):=by omega
  have Xi:IntKind.u64.wrap ((lo+hi:Nat):Int)=((lo+hi:Nat):Int):=aus ah;have nU:IntKind.i64.wrap (((lo+hi)/2:Nat):Int)=((md:Nat):Int):=by rw[BZ];exact gF ah ah
  have ave:(md:Int)<(aA.length:Int):=by omega
  unfold im at ls;by_cases hc:ak aA md<o
  ·have GB:decide (ak aA md<o)=ai:=(by simp[hc]);rw[GB] at ls;have kI2:al ((∀j,j<md+1->ak aA j<o)/\∀j,hi<=j->j<aA.length->o<=ak aA j):=⟨λj hj=>by
    rcases dV j md with q|q
    ·exact abH (kk.out.2 j md q ah) hc
    ·rw[(ah:j=md)];exact hc,kI.out.2⟩
   have khm:=al.mk BZ;clear hc GB BZ;refine bG @EW @a9 @tY (av @UB @aak) ?_;have:=khm.out;exact⟨hi - (md+1),by omega,md+1,hi,by omega,h2,rfl,kI2,aX,aX,aX,by simp,rfl,aX,aX⟩
  ·have GB:decide (ak aA md<o)=az:=(by simp[hc]);rw[GB] at ls;have kI2:al ((∀j,j<lo->ak aA j<o)/\∀j,md<=j->j<aA.length->o<=ak aA j):=⟨kI.out.1,λj hj Wi=>by
    rcases dV md j with q|q
    ·have:=kk.out.2 md j q Wi;omega
    ·rw[(ah:j=md)];omega⟩
   have khm:=al.mk BZ;clear hc GB BZ;refine bG @EW @a9 @tY (av @UB @aak) ?_;have:=khm.out;exact⟨md - lo,by omega,lo,md,by omega,by omega,rfl,kI2,aX,aX,aX,rfl,by simp,aX,aX⟩
 ·have eI:lo=hi:=by omega
  subst eI;have ja:∀j,j<aA.length->ak aA j=o->j=lo:=by
   intro j hj he;rcases Nat.lt_trichotomy j lo with q|q|q
   ·have:=kI.out.1 j q;omega
   ·exact q
   ·have h3:=kk.out.2 lo j q hj;have h4:=kI.out.2 lo (aM _) ah;omega
  by_cases iR:lo<aA.length
  ·have bF:s=1:=kk.out.1 (by intro q;rw[q,jY] at iR;omega);subst bF;have ld:=e7 (H:=H) (l:=aA) (i:=lo) (s:=1) iR;have fA:(lo:Int)<(aA.length:Int):=(by omega);have hdI:decide ((lo:Int)<(aA.length:Int))=ai:=(by simp[iR]);by_cases hv:ak aA lo=o
   ·have hc:aA.contains o=ai:=(by rw[C9,cz (by rw[<-hv];exact M4 iR)]);have kc:=al.mk hc;have dU:decide (ak aA lo=o)=ai:=(by simp[hv]);clear hc hv ja;refine bV @EW @a9 ?_;exact⟨_,_,rfl,rfl,_,by rw[kc.out]⟩
   ·have hc:aA.contains o=az:=(by rw[C9,cT];intro q;obtain⟨j,j1,j2⟩:=Yh q;have:=ja j j1 j2;subst this;exact hv j2);have kc:=al.mk hc;have dU:decide (ak aA lo=o)=az:=(by simp[hv]);clear hc hv ja;refine bV @EW @a9 ?_;exact⟨_,_,rfl,rfl,_,by rw[kc.out]⟩
  ·have hc:aA.contains o=az:=(by rw[C9,cT];intro q;obtain⟨j,j1,j2⟩:=Yh q;have:=ja j j1 j2;omega);have kc:=al.mk hc;have eI:lo=aA.length:=(by omega);subst eI;have hdI:decide ((aA.length:Int)<(aA.length:Int))=az:=(by simp);clear hc ja;refine bV @EW @a9 ?_;exact⟨_,_,rfl,rfl,_,by rw[kc.out]⟩
def aqt:Tryz.f176.results.toList=[.tmp 4]:=aw
def EV:Tryz.f197.results.toList=[]:=aw
def amh(h:ao)(x y z:AV)(bx:(AV.agg [x,y]).cD=aa [x,y])(hz:z.cD=aa [z]):W2.call 176 [.agg [x,y],z] h=aa (.ret (.func (.func 197) [] [.ptr (.box h.boxes.length) 0,.ptr (.box (h.boxes.length+1)) 0]),(h.push [x,y]).push [z]):=by refine cL rfl Tryz.func176 rfl ?_;exact td @aqt @bB @cX
def ami(l pb wb:Nat)(k0:Tok)(s0:Nat)(xs:List AV)(y z:AV)(ae:List (List Int))(ag aA:List Int)(Inv:Nat->ao->Prop)
 (hy:IL y ag) (hz:IL z aA) (dB:xs.length=ae.length) (oY:ag.length=ae.length) (vp:ae≠[]->s0=1) (vf:IF aA) (kL:aA.length<=1000000) (cS:ae.length<=1000000)
 (h1:∀k H,Inv k H->H.boxes[pb]?=aa [.list k0 s0 (xs.map λa=>[a]),y]/\H.boxes[wb]?=aa [z])
 (hR:∀k a H,k<ae.length->xs[k]?=aa a->aA.contains (ak ag k)=ai->Inv k H->∃H',W2.round l [im (k:Nat),a] H=aa (.ret (.v (.bool ai)),H')/\Inv (k+1) H')
 (hS:∀k H,k<ae.length->aA.contains (ak ag k)=az->Inv k H->Inv (k+1) H)
 (H0:ao) (h0:Inv 0 H0):∃H',W2.call 197 [.yield l,.ptr (.box pb) 0,.ptr (.box wb) 0] H0=aa (.ret (.tuple []),H')/\Inv ae.length H':=by
 have kk:=al.mk (av h1 (av hR (av hS (av h0 (av vp (av vf hz))))));obtain⟨b1,b2⟩:=h1 0 H0 h0;have l1:=pO b1;obtain⟨ky,sy,rfl,jL⟩:=hy;have ksy:=al.mk jL;clear h1 hR hS h0 vp vf hz b1 b2 jL;have u23:=dN;have u22:=ir;have z3:=fH;have z23:=iW;have cK:(xs.map λa=>[a]).length=ae.length:=by rw[bE];exact dB
 have tw:(ints ag).length=ae.length:=by rw[dp];exact oY
 refine iu rfl Tryz.func197 rfl ?_;refine cR @EV @dw @eG ?_;refine cE (λm e H=>∃k:Nat,k<=ae.length/\m=ae.length - k/\al (Inv k H)/\e.get 0=.yield l/\e.get 1=.ptr (.box pb) 0/\e.get 2=.ptr (.box wb) 0/\e.get 9=.list k0 s0 (xs.map λa=>[a])/\e.get 10=.v (.int .i64 (ae.length:Nat))/\e.get 11=.v (.int .i64 (k:Nat))/\e.defers=[]) ?_ ae.length _ _ ?_;rotate_left 1
 ·refine⟨0,cG _,rfl,⟨kk.out.2.2.2.1⟩,?_,?_,?_,?_,?_,?_,?_⟩<;>exact gR
 clear l1;rintro m e H ⟨k,hk,rfl,kI,g0,g1,g2,g9,g10,g11,hd⟩;by_cases aB:k<ae.length;rotate_left 1
 ·have:k=ae.length:=by omega
  subst this;refine bI @EV ?_;exact⟨_,rfl,kI.out⟩
 obtain⟨b1,b2⟩:=kk.out.1 k H kI.out;have bF:s0=1:=kk.out.2.2.2.2.1 (by intro q;rw[q,jY] at aB;omega);subst bF;have jr:sy=1:=ksy.out (by intro q;rw[q,jY] at oY;omega);subst jr;obtain⟨a,ha⟩:∃a,xs[k]?=aa a:=⟨_,aT ah⟩;have ld:=lh (H:=H) (s:=1) ha;have lo:=e7 (H:=H) (l:=ag) (i:=k) (s:=1) ah;have l1:=Cn b1;have l2:=vw b2;obtain⟨_,H2,cs,e2,i,rfl⟩:=arC H z aA (ak ag k) kk.out.2.2.2.2.2.2 kk.out.2.2.2.2.2.1 kL;rw[e2] at cs;clear e2 b1 b2;have fA:(k:Int)<(ae.length:Int):=by omega
 cases hc:aA.contains (ak ag k) with
 |true=>
  obtain⟨H',r1,r2⟩:=kk.out.2.1 k a H aB ha hc kI.out;rw[hc] at cs;have kI2:=al.mk r2;clear r2 ha hc kI;unfold im at *
  refine bG @EV @dw @eG @a9 ?_;refine dR zM aw ?_;refine bG @EV @dw @eG (av @a9 @Bk) ?_;exact⟨ae.length - (k+1),by omega,k+1,by omega,rfl,kI2,by simp⟩
 |false=>
  have kI2:=al.mk (kk.out.2.2.1 k H aB hc kI.out);rw[hc] at cs;clear ha hc kI;unfold im at *
  refine bG @EV @dw @eG @a9 ?_;refine dR zM aw ?_;refine bG @EV @dw @eG (av @a9 @Bk) ?_;exact⟨ae.length - (k+1),by omega,k+1,by omega,rfl,kI2,by simp⟩
structure Bc(h H:ao)(t1 t2:Tok):Prop where
 c1:dD h.tn H t1
 c2:dD h.tn H t2
 ne:∀a,t1=.free a->t2≠ .free a
 ok:cO H=ai
 ext:Ext h H
def Jm{n0}{H}{t k}(hk:dD n0 H k)(bO:∀a,t=.free a->k≠ .free a):dD n0 (H.app t) k:=by
 rcases hk with q|q|⟨m,rfl,q1,q2⟩
 ·exact .inl q
 ·exact .inr (.inl q)
 ·refine .inr (.inr ⟨m,rfl,q1,?_⟩);have aB:=uQ q2;unfold alive at *
  simp only[bL,zj,C9,decide_eq_false_iff_not,decide_eq_true_eq] at *
  refine⟨by rw[Dr];omega,?_⟩;cases t with
  |free a=>
   intro hm;rcases iq.1 hm with e|e
   ·exact bO a rfl (by rw[e])
   ·exact q2.2 e
  |_=>exact q2.2
def Bc.app{h H}{t1 t2}(w:Bc h H t1 t2):dD h.tn (H.app t1) t2/\Bc h ((H.app t1).app t2) (.free H.tn) (.free (H.app t1).tn):=by
 have hn:=w.ext.tn;have g1:=Grown.one (n0:=h.tn) w.c1 w.ok hn;have c2:=Jm w.c2 w.ne;have g2:=Grown.one (n0:=h.tn) c2 g1.ok (fJ hn g1.tn);refine⟨c2,?_,g2.can,?_,g2.ok,g2.ext (g1.ext w.ext (aM _)) (aM _)⟩
 ·refine Jm g1.can λa ha he=>?_;injection he with he;subst he;rcases c2 with q|q|⟨m,q,-,q2⟩
  ·rw[q] at ha;cases ha
  ·rw[q] at ha;cases ha
  ·rw[q] at ha;injection ha with ha;subst ha;rcases w.c2 with z|z|⟨m2,z,-,z2⟩
   ·rw[z] at q;cases q
   ·rw[z] at q;cases q
   ·rw[z] at q;injection q with q;have:=uQ z2;omega
 ·intro a ha he;injection ha with ha;injection he with he;rw[Dr] at he;omega
def Bc.put{h H}{t1 t2}(w:Bc h H t1 t2){b}(hb:h.boxes.length<=b)(cs):Bc h (H.put b cs) t1 t2:=⟨w.c1,w.c2,w.ne,w.ok,w.ext.gh hb cs⟩
def xo:Tryz.f143.results.toList=[.cell 4 22,.cell 5 23,.tmp 6,.tmp 7]:=aw
def auC:(jf aq 22).bind AV.cD=aa [.list .nil 0 []]:=aw
def auD:(jf aq 23).bind AV.cD=aa [.list .nil 0 []]:=aw
def atk:dC aq 22=aa 1:=aw
def Tl{H}{k}{n0 sz}{es}{x}(hl:es.length<1000000)(hs:sz=1∨(es=[]/\k=.nil))(hk:dD n0 H k):
 gP aq H #[22,22] (.list k sz (es.map λa=>[a])) (.list .tight 1 [[x]])=aa (.list (.free H.tn) 1 ((es++[x]).map λa=>[a]),H.app k):=by
 obtain⟨i,q1,q2,q3,q4⟩:=Kp;have hb:=p7 (ah:es.length+1<=1000000) q3;have:=F8 (t0:=22) (t1:=22) (n0:=n0) (i:=i) (sz:=sz) (es:=es.map λa=>[a]) (new:=[[x]]) (x:=.list .tight 1 [[x]]) ir (.inl ⟨_,ir⟩) q1 ah (by rw[q2];exact q4) (by rw[q2];rfl) bH
  (by simp only[bE,jn,jY,po];omega) (by simp only[bE,jn,jY];omega) (hs.imp (λq=>q.trans q2.symm) λq=>⟨by rw[q.1];rfl,q.2⟩) hk
 rw[q2] at this;rw[mT];exact this
def iU(xs:List AV)(ag aA:List Int)(k:Nat):List AV:=((bR k).filter λi=>aA.contains (ak ag i)).map λi=>xs.getD i default
def fc(ag aA:List Int)(k:Nat):List Nat:=(bR k).filter λi=>aA.contains (ak ag i)
def YU{ag aA}{k}(h:aA.contains (ak ag k)=ai):fc ag aA (k+1)=fc ag aA k++[k]:=by unfold fc;rw[nH,zB,FF,aG h];rfl
def YT{ag aA}{k}(h:aA.contains (ak ag k)=az):fc ag aA (k+1)=fc ag aA k:=by unfold fc;rw[nH,zB,FF,aH (by rw[h];simp)];simp
def YS{xs}{ag aA}{k}{a}(h:aA.contains (ak ag k)=ai)(ha:xs[k]?=aa a):iU xs ag aA (k+1)=iU xs ag aA k++[a]:=by
 have e:xs.getD k default=a:=by rw[dS,ha];rfl
 unfold iU;rw[nH,zB,FF,aG h,List.filter_nil,mT,eK,List.map_nil,e]
def YR{xs}{ag aA}{k}(h:aA.contains (ak ag k)=az):iU xs ag aA (k+1)=iU xs ag aA k:=by unfold iU;rw[nH,zB,FF,aH (by rw[h];simp)];simp
def YQ{xs}{ag aA}{k}:(iU xs ag aA k).length<=k:=by unfold iU;rw[bE];exact fJ (FK _ _) bH
def YO:∀(aA:List Int) (cW:Int),gx cW aA=ai->(∀i,i<aA.length->cW<ak aA i)/\IF aA:=by
 intro aA
 induction aA with
 |nil=>exactλ_ _=>⟨λi hi=>absurd hi (qO _),λi j _ hj=>absurd hj (qO _)⟩|cons n l ih=>
  intro cW h;unfold gx at h;simp only[bL,decide_eq_true_eq] at h;obtain⟨i1,i2⟩:=ih n h.2;refine⟨λi hi=>?_,λi j mj hj=>?_⟩
  ·cases i with|zero=>exact h.1.1|succ i=>exact abH h.1.1 (i1 i (by simpa using hi))
  ·cases j with
   |zero=>omega|succ j=>
    cases i with|zero=>exact i1 j (by simpa using hj)|succ i=>exact i2 i j ah (by simpa using hj)
def Kt{H}{b}{x}(hb:H.boxes[b]?=aa [x]):aI aq Gt H 22 (.ptr (.box b) 0)=aa x:=by rw[mw MU hb];rfl
def RA{H}{b}{x}{k}{s}{es}(hb:H.boxes[b]?=aa [x]):cI aq H 22 (.ptr (.box b) 0) (.list k s es)=aa (H.put b [.list k s es]):=ig (off:=0) (cs:=[x]) (xs:=[.list k s es]) rfl atk hb rfl (aM 1)
def LD{H}{b}{x}{k}{s}{es}(hb:H.boxes[b]?=aa [x]):cI aq H 23 (.ptr (.box b) 0) (.list k s es)=aa (H.put b [.list k s es]):=ig (off:=0) (cs:=[x]) (xs:=[.list k s es]) rfl iW hb rfl (aM 1)
def y9:dC aq 25=aa 2:=aw
def rk{H}{b}{x y}(hb:H.boxes[b]?=aa [x,y]):aI aq Gt H 25 (.ptr (.box b) 0)=aa (.agg [x,y]):=by rw[iC sW y9 hb (aM 2)];rfl
def adU{aA}(h:IF aA)(h0:∀i,i<aA.length-> -1<ak aA i):∀i:Nat,i<aA.length->(i:Int)<=ak aA i:=by
 intro i
 induction i with
 |zero=>intro hi;have:=h0 0 hi;omega|succ i ih=>intro hi;have h1:=ih ah;have h2:=h i (i+1) ah hi;omega
def amJ:∀(aA:List Int) (cW:Int),gx cW aA=ai->∀i,i<aA.length->ak aA i<=63:=by
 intro aA
 induction aA with
 |nil=>exactλ_ _ i hi=>absurd hi (qO _)|cons n l ih=>
  intro cW h i hi;unfold gx at h;simp only[bL,decide_eq_true_eq] at h;cases i with|zero=>exact h.1.2|succ i=>exact ih n h.2 i (by simpa using hi)
def adT{aA}(h:gx (-1) aA=ai):aA.length<=64:=by
 obtain⟨h1,h2⟩:=YO aA (-1) h;rcases dV 64 aA.length with q|q
 ·have h3:=adU h2 h1 64 q;have h4:=amJ aA (-1) h 64 q;omega
 ·exact q
def Im(k)(s)(l):fe (.list k s (ints l)) (.list k s (ints l))=ai:=by
 have h:qF (ints l) (ints l)=ai:=by
  induction l with
  |nil=>simp[ints,qF]|cons n l ih=>have:ints (n::l)=[.v (.int .i64 n)]::ints l:=rfl;rw[this];simp[qF,oF,fe,lY,ih]
 rw[fe,h,Bool.and_true];cases k<;>simp[xv]
def TM{H:ao}{l}{r}{t}:(H.busy l r).app t=(H.app t).busy l r:=by cases t<;>rfl
def ahA{H:ao}{l}{r}{t1 t2}{b1 b2}{c1 c2}:({boxes:=(((((H.busy l r).app t1).app t2).put b1 c1).put b2 c2).boxes,loops:=H.loops,tn:=(((((H.busy l r).app t1).app t2).put b1 c1).put b2 c2).tn,dead:=(((((H.busy l r).app t1).app t2).put b1 c1).put b2 c2).dead}:ao)=(((H.app t1).app t2).put b1 c1).put b2 c2:=by cases t1<;>cases t2<;>rfl
def I8(h:ao)(L:List iN)(b1 b2 b3 b4 b5:Nat)(ta xy zz:List AV)(xs:List AV)(ag aA:List Int)(k:Nat)(H:ao):Prop:=
 ∃t1 s1 t2 s2,H.loops=L/\H.boxes[b1]?=aa [.list t1 s1 ((iU xs ag aA k).map λa=>[a])]/\H.boxes[b2]?=aa [.list t2 s2 (ints (bP (fc ag aA k)))]/\(s1=1∨(iU xs ag aA k=[]/\t1=.nil))/\(s2=1∨(bP (fc ag aA k)=[]/\t2=.nil))/\Bc h H t1 t2/\H.boxes[b3]?=aa ta/\H.boxes[b4]?=aa xy/\H.boxes[b5]?=aa zz
def anI(l)(k:Nat):bP (l++[k])=bP l++[(k:Int)]:=by unfold bP;simp
def amL{ag aA}{k}:(bP (fc ag aA k)).length<=k:=by unfold bP fc;rw[bE];exact fJ (FK _ _) bH
def SN(xs:List AV)(ae:List (List Int))(ag aA:List Int)(h:ao)(r:eX)(h':ao):Prop:=
 Ext h h'/\if de ae ag≠0 then r=.ret (.tuple [.list .nil 0 [],.list .nil 0 [],.list .nil 0 [],.v (.int .i64 (de ae ag))])
  else if gx (-1) aA=az then r=.ret (.tuple [.list .nil 0 [],.list .nil 0 [],.list .nil 0 [],.v (.int .i64 1)])
  else ∃k1 s1 k2 s2 tb,r=.ret (.tuple [.list k1 s1 ((iU xs ag aA ae.length).map λa=>[a]),.list k2 s2 (ints (bP (fc ag aA ae.length))),.arr tb 0 (b9 ae) (b9 ae),.v (.int .i64 0)])/\(s1=1∨(iU xs ag aA ae.length=[]/\k1=.nil))/\(s2=1∨(bP (fc ag aA ae.length)=[]/\k2=.nil))/\h'.boxes[tb]?=aa ((fR (b9 ae)).map im)
def anJ(h:ao)(k0:Tok)(s0:Nat)(xs:List AV)(y z:AV)(ae:List (List Int))(ag aA:List Int)(hx:RL (.list k0 s0 (xs.map λa=>[a])) ae)(dB:xs.length=ae.length)(hy:IL y ag)(hz:IL z aA)(kL:aA.length<=1099511627776)(ho:cO h=ai):
 ∃r h',W2.call 143 [.agg [.list k0 s0 (xs.map λa=>[a]),y],z] h=aa (r,h')/\SN xs ae ag aA h r h':=by
 obtain⟨H1,c97,e1⟩:=Uk (((h.push [.list k0 s0 (xs.map λa=>[a]),y]).push [.list .nil 0 []]).push [.list .nil 0 []]) _ y ae ag hx hy;have kyz:=al.mk (av hx (av hy (av hz ho)));have bx:(AV.agg [.list k0 s0 (xs.map λa=>[a]),y]).cD=aa [.list k0 s0 (xs.map λa=>[a]),y]:=by obtain⟨ky,sy,rfl,-⟩:=hy;rfl
 have X1:Ext h H1:=by rw[e1];exact(((Ext.push _ _).trans (.push _ _)).trans (.push _ _)).trans (.push _ _)
 have p0:H1.boxes[h.boxes.length]?=aa [.list k0 s0 (xs.map λa=>[a]),y]:=by rw[e1];exact bA (bA (bA (bh _ _)))
 have p1:H1.boxes[h.boxes.length+1]?=aa [.list .nil 0 []]:=by rw[e1];exact bA (bA (nb (by rw[cX])))
 have p2:H1.boxes[h.boxes.length+1+1]?=aa [.list .nil 0 []]:=by rw[e1];exact bA (nb (by rw[cX,cX]))
 have jJ:H1.boxes.length=h.boxes.length+4:=by rw[e1];simp only[cX]
 have vC:cO H1=ai:=X1.ok ho;have l0:aI aq Gt (((h.push [.list k0 s0 (xs.map λa=>[a]),y]).push [.list .nil 0 []]).push [.list .nil 0 []]) 25 (.ptr (.box h.boxes.length) 0)=aa (.agg [.list k0 s0 (xs.map λa=>[a]),y]):=rk (bA (bA (bh _ _)));have tn1:H1.tn=h.tn:=by rw[e1];rfl
 have kX:=al.mk (av X1 (av vC (av jJ tn1)));have z22:=auC;have z23:=auD;have kp:=al.mk (av p0 (av p1 p2));have s4:=λ(k:Tok) s es=>RA (k:=k) (s:=s) (es:=es) p1;have J4:=(aV.1 p1).1;have qX:=(aV.1 p2).1;clear e1 X1 p0 jJ vC tn1 hx hy ho;unfold SN;refine da rfl Tryz.func143 rfl ?_;generalize tz:de ae ag=pe at *
 by_cases Kn:pe=0;rotate_left 1
 ·have s5:cI aq (H1.put (h.boxes.length+1) [.list .nil 0 []]) 23 (.ptr (.box (h.boxes.length+1+1)) 0) (.list .nil 0 [])=aa ((H1.put (h.boxes.length+1) [.list .nil 0 []]).put (h.boxes.length+1+1) [.list .nil 0 []]):=LD (by rw[dg ah];exact p2);have m1:aI aq Gt ((H1.put (h.boxes.length+1) [.list .nil 0 []]).put (h.boxes.length+1+1) [.list .nil 0 []]) 22 (.ptr (.box (h.boxes.length+1)) 0)=aa (.list .nil 0 []):=Kt (by rw[dg ah];exact eP J4);have m2:aI aq Gt ((H1.put (h.boxes.length+1) [.list .nil 0 []]).put (h.boxes.length+1+1) [.list .nil 0 []]) 23 (.ptr (.box (h.boxes.length+1+1)) 0)=aa (.list .nil 0 []):=vw (eP (by rw[mP];exact qX));have V7:decide (pe=0)=az:=by simp[Kn]
  clear p1 p2 hz J4 qX;refine cR @xo @bB @cX ?_;exact⟨_,_,rfl,(kX.out.1.gh ah _).gh ah _,by rw[aG Kn]⟩
 ·subst Kn;obtain⟨kz,sz,rfl,dm⟩:=kyz.out.2.2.1;have ksz:=al.mk dm;clear dm hz;have u23:=dN;have z3':=fH;have avu:=dp aA;have kpe:=al.mk tz;clear tz;refine cR @xo @bB @cX ?_;refine bM.gen λe0 aF bD cN cH=>?_;have f1:e0.get 1=.list kz sz (ints aA):=by rw[aF];exact gS
  have f2:e0.get 2=.ptr (.box h.boxes.length) 0:=by rw[aF];exact gS
  have f4:e0.get 4=.ptr (.box (h.boxes.length+1)) 0:=by rw[aF];simp only[gW,reduceIte,aZ,aQ,cX]
  have f5:e0.get 5=.ptr (.box (h.boxes.length+1+1)) 0:=by rw[aF];simp only[gW,reduceIte,aZ,aQ,cX]
  have f8:e0.get 8=.v (.int .i64 (-1)):=by rw[aF];exact gS
  have f19:e0.get 19=.list kz sz (ints aA):=by rw[aF];exact gS
  have f20:e0.get 20=.v (.int .i64 (aA.length:Nat)):=by rw[aF];exact gS
  have f21:e0.get 21=.v (.int .i64 (0:Nat)):=by rw[aF];exact gR
  have fd:e0.defers=[]:=by rw[bD];exact gS
  clear aF bD cN cH l0 c97;refine cE (λm e H=>∃(i:Nat) (cW:Int),i<=aA.length/\m=aA.length - i/\ -1<=cW/\al (gx cW (aA.drop i)=gx (-1) aA)/\e.get 1=.list kz sz (ints aA)/\e.get 2=.ptr (.box h.boxes.length) 0/\e.get 4=.ptr (.box (h.boxes.length+1)) 0/\e.get 5=.ptr (.box (h.boxes.length+1+1)) 0/\e.get 8=.v (.int .i64 cW)/\e.get 19=.list kz sz (ints aA)/\e.get 20=.v (.int .i64 (aA.length:Nat))/\e.get 21=.v (.int .i64 (i:Nat))/\e.defers=[]/\H=H1) ?_ aA.length _ _ ?_;rotate_left 1
  ·exact⟨0,-1,cG _,rfl,Mh _,⟨rfl⟩,f1,f2,f4,f5,f8,f19,f20,f21,fd,rfl⟩
  clear f1 f2 f4 f5 f8 f19 f20 f21 fd;rintro m e H1 ⟨i,cW,hi,rfl,lR,kP,g1,g2,g4,g5,g8,g19,g20,g21,hd,rfl⟩;by_cases aB:i<aA.length
  ·have bF:sz=1:=ksz.out (by intro q;rw[q,jY] at aB;omega);subst bF;have ld:=e7 (H:=H1) (l:=aA) (s:=1) aB;have cp:=YP (ak aA i) H1;have fA:(i:Int)<(aA.length:Int):=(by omega);have oV:aA.drop i=ak aA i::aA.drop (i+1):=(by rw[ga aB];exact xP aB);have qZ:=kP.out;rw[oV,gx] at qZ;have s5:cI aq (H1.put (h.boxes.length+1) [.list .nil 0 []]) 23 (.ptr (.box (h.boxes.length+1+1)) 0) (.list .nil 0 [])=aa ((H1.put (h.boxes.length+1) [.list .nil 0 []]).put (h.boxes.length+1+1) [.list .nil 0 []]):=LD (by rw[dg ah];exact p2);have m1:aI aq Gt ((H1.put (h.boxes.length+1) [.list .nil 0 []]).put (h.boxes.length+1+1) [.list .nil 0 []]) 22 (.ptr (.box (h.boxes.length+1)) 0)=aa (.list .nil 0 []):=Kt (by rw[dg ah];exact eP J4);have m2:aI aq Gt ((H1.put (h.boxes.length+1) [.list .nil 0 []]).put (h.boxes.length+1+1) [.list .nil 0 []]) 23 (.ptr (.box (h.boxes.length+1+1)) 0)=aa (.list .nil 0 []):=vw (eP (by rw[mP];exact qX));unfold im vH at *
   generalize ak aA i=n at *
   by_cases h1:0<=n/\n<=63
   ·have dU:(decide (0<=n)&&decide (n<=63))=ai:=(by simp[h1.1,h1.2]);rw[dU] at cp;by_cases h2:n<=cW
    ·have gu:decide (n<=cW)=ai:=(by simp[h2]);have hf:gx (-1) aA=az:=(by rw[<-qZ];simp;omega);have kf:=al.mk hf;clear qZ hf oV p1 p2 h2 h1 kP;refine bV @xo @a9 ?_;exact⟨_,_,rfl,(kX.out.1.gh ah _).gh ah _,by rw[aH (by simp[kpe.out]),aG kf.out]⟩
    ·have gu:decide (n<=cW)=az:=(by simp;omega);have kP2:al (gx n (aA.drop (i+1))=gx (-1) aA):=⟨by rw[<-qZ,cz (ah:cW<n),cz h1.2];rfl⟩;have h3: -1<=n:=(by omega);clear qZ oV p1 p2 h2 h1 kP s4 s5 m1 m2;refine bV @xo @a9 ?_;exact⟨aA.length - (i+1),by omega,i+1,n,by omega,rfl,h3,kP2,by simp⟩
   ·have dU:(decide (0<=n)&&decide (n<=63))=az:=(by simp only[abr,decide_eq_false_iff_not];omega);rw[dU] at cp;have hf:gx (-1) aA=az:=(by rw[<-qZ];simp only[abr,decide_eq_false_iff_not];omega);have kf:=al.mk hf;clear qZ hf oV p1 p2 h1 kP;refine bV @xo @a9 ?_;exact⟨_,_,rfl,(kX.out.1.gh ah _).gh ah _,by rw[aH (by simp[kpe.out]),aG kf.out]⟩
  ·have gT:i=aA.length:=(by omega);subst gT;have hf:gx (-1) aA=ai:=(by rw[<-kP.out,pZ (aM _)];rfl);have kf:=al.mk hf;clear hf kP;obtain⟨o1,o2,o3,o4⟩:=o9 kpe.out;obtain⟨n1,n2⟩:=uW kpe.out;have vf:=(YO aA (-1) kf.out).2;have avv:=adT kf.out;have ko:=al.mk (av o3 vf);have ub:(ae≠[]->s0=1)/\∀(i:Nat) (a:AV) (r:List Int),xs[i]?=aa a->ae[i]?=aa r->IL a r:=(by obtain⟨k',s',xs',he,Kg,-,hh⟩:=kyz.out.1;injection he with _ hse he;have:=(Mt (λx y h=>by injection h)).1 he;subst this;subst hse;exact⟨Kg,hh⟩);have kRL:=al.mk ub;have ko1:=al.mk o1;have l22:aI aq Gt H1 22 (.ptr (.box h.boxes.length) 0)=aa (.list k0 s0 (xs.map λa=>[a])):=pO kp.out.1;have u22:=ir;have cK:(xs.map λa=>[a]).length=ae.length:=(by rw[bE];exact dB);have mk:=AB H1 (b9 ae) ah .i64 .i64;have nR:bg (b9 ae) (im 0)=(bg (b9 ae) (0:Int)).map im:=(by rw[xQ]);rw[nR] at mk;have sk:=y8 (H:=H1.push ((bg (b9 ae) (0:Int)).map im)) (b:=H1.boxes.length) (r:=bg (b9 ae) (0:Int)) (k:=0) (x:=1) (bh _ _) (by rw[mB];exact n1);have vt:(bg (b9 ae) (0:Int)).set 0 1=fR (b9 ae):=(by obtain⟨c,hc⟩:∃c,b9 ae=c+1:=⟨b9 ae - 1,by omega⟩;rw[hc];unfold fR;rw[A1];rfl);rw[pg,vt] at sk;have ix:dG aq 23 (.arr H1.boxes.length 0 (b9 ae) (b9 ae)) (.v (.int .i64 0))=aa (.ptr (.box H1.boxes.length) 0):=qy (n:=0) (k:=.i64) n1;have l25:aI aq Gt (H1.push ((fR (b9 ae)).map im)) 25 (.ptr (.box h.boxes.length) 0)=aa (.agg [.list k0 s0 (xs.map λa=>[a]),y]):=rk (bA kp.out.1);have ow:=amh (H1.push ((fR (b9 ae)).map im)) (.list k0 s0 (xs.map λa=>[a])) y (.list kz sz (ints aA)) bx rfl;have kmk:=al.mk (av p1 p2);have hcz:((0:Nat):Int)=0:=rfl;clear vt nR vf o3 o4 o1 ub p1 p2 s4 J4 qX;unfold im at *
   have V1:(ae.length=0->b9 ae=1)/\∀r0,ae[0]?=aa r0->r0.length=b9 ae:=(by refine⟨λq=>by unfold b9;rw[aG q],λr0 q=>?_⟩;exact(ko.out.1 r0 (dn q)).1);have kcols:=al.mk V1;clear V1;generalize b9 ae=cw at *
   have two:ae.length=0∨0<ae.length:=(by omega);rcases two with cH|cH
   case' inl=>
    have JS:=kcols.out.1 cH;have gQ:¬((0:Int)<(ae.length:Int)):=(by omega);have mk':yS aq H1 23 (.v (.int .i64 1)) (.v (.int .i64 1))=aa (.arr H1.boxes.length 0 cw cw,H1.push ((bg cw (0:Int)).map λn=>.v (.int .i64 n))):=(by have:=mk;rw[show((cw:Nat):Int)=1 by omega] at this;exact this);clear cH mk JS
    repeat' (first|simp(maxSteps:=999999)(disch:=first|exact dZ|fail)only[gW,reduceIte,aZ,aQ,xo,dw,eG,a9, *]|refine dX ?_ ?_<;>(intro _;try omega))
   case' inr=>
    obtain⟨a0,gf⟩:∃a,xs[0]?=aa a:=⟨_,aT ah⟩;obtain⟨r0,gg⟩:∃r,ae[0]?=aa r:=⟨_,aT ah⟩;have bF:s0=1:=kRL.out.1 (by intro q;rw[q,jY] at cH;omega);have ixr:dG aq 22 (.list k0 s0 (xs.map λa=>[a])) (.v (.int .i64 0))=aa (.elem 1 (xs.map λa=>[a]) 0 0):=(by rw[bF];exact a9 u22 iW (Mh _) (by rw[cK];omega));clear bF;have ld0:=lh (H:=H1) (s:=1) gf;obtain⟨ka0,sa0,rfl,-⟩:=kRL.out.2 0 a0 r0 gf gg;have cS:(ints r0).length=cw:=(by rw[dp];exact kcols.out.2 r0 gg);have gQ:(0:Int)<(ae.length:Int):=(by omega);have z0:(0:Int).toNat=0:=rfl;have z23':=iW;clear gf gg
    repeat' (first|simp(maxSteps:=999999)(disch:=first|exact dZ|fail)only[gW,reduceIte,aZ,aQ,xo,dw,eG,a9, *]|refine dX ?_ ?_<;>(intro _;try omega))
   all_goals
    refine bM.gen λe4 jq sg wT uk=>?_;have f4:e4.get 4=.ptr (.box (h.boxes.length+1)) 0:=(by rw[jq];simp only[gW,reduceIte,aZ,aQ];exact g4);have f5:e4.get 5=.ptr (.box (h.boxes.length+1+1)) 0:=(by rw[jq];simp only[gW,reduceIte,aZ,aQ];exact g5);have f6:e4.get 6=.arr H1.boxes.length 0 cw cw:=(by rw[jq];exact gS);have f50:e4.get 50=.func (.func 197) [] [.ptr (.box (H1.push ((fR cw).map λn=>.v (.int .i64 n))).boxes.length) 0,.ptr (.box ((H1.push ((fR cw).map λn=>.v (.int .i64 n))).boxes.length+1)) 0]:=(by rw[jq];exact gS);have fd:e4.defers=[]:=(by rw[sg];simp only[gW,reduceIte,aZ,aQ];exact hd);clear jq sg wT uk g1 g2 g4 g5 g8 g19 g20 g21 hd;refine E4 (by rw[Bq];exact f50) λrec w1 w2 w3 w4 w5 w6=>?_;obtain⟨x1,vC,jJ,tn1⟩:=kX.out;obtain⟨p0,p1,p2⟩:=kp.out;have X3:Ext h (((H1.push ((fR cw).map im)).push [.list k0 s0 (xs.map λa=>[a]),y]).push [.list kz sz (ints aA)]):=((x1.trans (.push _ _)).trans (.push _ _)).trans (.push _ _);have b0:(((H1.push ((fR cw).map im)).push [.list k0 s0 (xs.map λa=>[a]),y]).push [.list kz sz (ints aA)]).boxes[H1.boxes.length]?=aa ((fR cw).map im):=bA (bA (bh _ _));have b1:(((H1.push ((fR cw).map im)).push [.list k0 s0 (xs.map λa=>[a]),y]).push [.list kz sz (ints aA)]).boxes[h.boxes.length+1]?=aa [.list .nil 0 []]:=bA (bA (bA p1));have b2:(((H1.push ((fR cw).map im)).push [.list k0 s0 (xs.map λa=>[a]),y]).push [.list kz sz (ints aA)]).boxes[h.boxes.length+1+1]?=aa [.list .nil 0 []]:=bA (bA (bA p2));have b3:(((H1.push ((fR cw).map im)).push [.list k0 s0 (xs.map λa=>[a]),y]).push [.list kz sz (ints aA)]).boxes[H1.boxes.length+1]?=aa [.list k0 s0 (xs.map λa=>[a]),y]:=bA (nb (by rw[cX]));have b4:(((H1.push ((fR cw).map im)).push [.list k0 s0 (xs.map λa=>[a]),y]).push [.list kz sz (ints aA)]).boxes[H1.boxes.length+1+1]?=aa [.list kz sz (ints aA)]:=nb (by rw[cX,cX]);have ok3:cO (((H1.push ((fR cw).map im)).push [.list k0 s0 (xs.map λa=>[a]),y]).push [.list kz sz (ints aA)])=ai:=vC;have eO:(((H1.push ((fR cw).map im)).push [.list k0 s0 (xs.map λa=>[a]),y]).push [.list kz sz (ints aA)]).loops.length=H1.loops.length:=rfl;have JO:h.loops.length<=H1.loops.length:=x1.Hv;rw[cX] at f50;unfold im at *
    rw[cX];generalize ((H1.push ((fR cw).map λn=>AV.v (.int .i64 n))).push [.list k0 s0 (xs.map λa=>[a]),y]).push [.list kz sz (ints aA)]=H3 at *
    have au0:h.boxes.length+1<H3.boxes.length:=(aV.1 b1).1;have au1:h.boxes.length+1+1<H3.boxes.length:=(aV.1 b2).1;have ji:(H3.loop rec).loops[H1.loops.length]?=aa rec:=(by rw[<-eO];exact @EB H3 rec);have feed:=ami H1.loops.length (H1.boxes.length+1) (H1.boxes.length+1+1) k0 s0 xs y (.list kz sz (ints aA)) ae ag aA
     (I8 h (H3.loop rec).loops (h.boxes.length+1) (h.boxes.length+1+1) H1.boxes.length (H1.boxes.length+1) (H1.boxes.length+1+1) ((fR cw).map λn=>.v (.int .i64 n)) [.list k0 s0 (xs.map λa=>[a]),y] [.list kz sz (ints aA)] xs ag aA)
     kyz.out.2.1 kyz.out.2.2.1 dB ko1.out.symm kRL.out.1 ko.out.2 ah ah
     (λk H q=>by obtain⟨_,_,_,_,_,_,_,_,_,_,_,q1,q2⟩:=q;exact⟨q1,q2⟩)
     ?_
     (λk H _ hc q=>by
      unfold I8 at *
      rw[YR hc,YT hc];exact q)
     (H3.loop rec) ⟨.nil,0,.nil,0,rfl,b1,b2,.inr ⟨rfl,rfl⟩,.inr ⟨rfl,rfl⟩,⟨.inl rfl,.inl rfl,λa q=>(nomatch q),ok3,X3.trans ((Fr.Cp (bn:=H3.boxes.length) (l0:=H3.loops.length) (n0:=H3.tn) H3 rec).ext (aM _) (aM _) (aM _))⟩,b0,b3,b4⟩
    rotate_left 1
    ·rintro k a H hk BE hc ⟨t1,s1,t2,s2,i1,i2,i3,i4,i5,i6,i7,i8,i9⟩;have wR:H.loops[H1.loops.length]?=aa rec:=(by rw[i1];exact ji);have w:=i6;have q0:(H.busy H1.loops.length rec).boxes=H.boxes:=rfl;have e22:=λhc=>YS (xs:=xs) (ag:=ag) (aA:=aA) (k:=k) (a:=a) hc BE;have e23:=YU (ag:=ag) (aA:=aA) (k:=k) hc;have wA:=w.app;refine KY (Post:=I8 h (H3.loop rec).loops (h.boxes.length+1) (h.boxes.length+1+1) H1.boxes.length (H1.boxes.length+1) (H1.boxes.length+1+1) ((fR cw).map λn=>.v (.int .i64 n)) [.list k0 s0 (xs.map λa=>[a]),y] [.list kz sz (ints aA)] xs ag aA (k+1)) wR (by rw[w2];rfl) w5 w6 ?_;have r1:∀t,(nX H1.loops.length rec [im (k:Nat),a]).get t=if 52=t then a else if 51=t then im (k:Nat) else e4.get t:=λt=>KX w2 w1
     have d1:(nX H1.loops.length rec [im (k:Nat),a]).defers=[]:=rfl;obtain⟨K,hK⟩:∃K,H.busy H1.loops.length rec=K:=⟨_,rfl⟩;have kc1:dD h.tn K t1:=(by rw[<-hK];exact w.c1);have kc2:dD h.tn (K.app t1) t2:=(by rw[<-hK,TM];exact wA.1);have kb1:K.boxes[h.boxes.length+1]?=aa [.list t1 s1 ((iU xs ag aA k).map λa=>[a])]:=(by rw[<-hK];exact i2);have kb2:(K.app t1).boxes[h.boxes.length+1+1]?=aa [.list t2 s2 (ints (bP (fc ag aA k)))]:=(by rw[eL,<-hK];exact i3);have kb22:K.boxes[h.boxes.length+1+1]?=aa [.list t2 s2 (ints (bP (fc ag aA k)))]:=(by rw[<-hK];exact i3);have pl1:=YQ (xs:=xs) (ag:=ag) (aA:=aA) (k:=k);have pl2:=amL (ag:=ag) (aA:=aA) (k:=k);have ap1:=Tl (x:=a) (ah:(iU xs ag aA k).length<1000000) i4 kc1;have ap2:=uR (x:=(k:Int)) (show(bP (fc ag aA k)).length<1099511627776 by omega) i5 kc2;rw[<-e22 hc] at ap1;rw[<-anI,<-e23] at ap2;have lA:=Kt kb1;have lB:=vw kb2;have lB0:=vw kb22;have sA:=RA (H:=(K.app t1).app t2) (b:=h.boxes.length+1) (k:=.free K.tn) (s:=1) (es:=(iU xs ag aA (k+1)).map λa=>[a]) (by rw[eL,eL];exact kb1);have sB:=LD (H:=((K.app t1).app t2).put (h.boxes.length+1) [.list (.free K.tn) 1 ((iU xs ag aA (k+1)).map λa=>[a])]) (b:=h.boxes.length+1+1) (k:=.free (K.app t1).tn) (s:=1) (es:=ints (bP (fc ag aA (k+1)))) (by rw[dg ah,eL];exact kb2);have blA:fX aq 22 1 [(0,a)]=aa (.list .tight 1 [[a]]):=(by obtain⟨r',fY⟩:∃r',ae[k]?=aa r':=⟨_,aT hk⟩;exact Ji a (kRL.out.2 k a r' BE fY).cell);have blB:=qa (k:Int);have svs:=Im t2 s2 (bP (fc ag aA k));have gv:al (I8 h (H3.loop rec).loops (h.boxes.length+1) (h.boxes.length+1+1) H1.boxes.length (H1.boxes.length+1) (H1.boxes.length+1+1) ((fR cw).map λn=>.v (.int .i64 n)) [.list k0 s0 (xs.map λa=>[a]),y] [.list kz sz (ints aA)] xs ag aA (k+1) ((((H.app t1).app t2).put (h.boxes.length+1) [.list (.free H.tn) 1 ((iU xs ag aA (k+1)).map λa=>[a])]).put (h.boxes.length+1+1) [.list (.free (H.app t1).tn) 1 (ints (bP (fc ag aA (k+1))))])):=by
      have pH:=(aV.1 i2).1;have ku:=(aV.1 i3).1;refine⟨_,1,_,1,?_,?_,?_,.inl rfl,.inl rfl,(wA.2.put ah _).put ah _,?_,?_,?_⟩
      ·show((H.app t1).app t2).loops=_;rw[zJ,zJ];exact i1
      ·rw[dg ah];exact eP (by rw[eL,eL];exact pH)
      ·exact eP (by rw[mP,eL,eL];exact ku)
      ·rw[dg ah,dg ah,eL,eL];exact i7
      ·rw[dg ah,dg ah,eL,eL];exact i8
      ·rw[dg ah,dg ah,eL,eL];exact i9
     clear i1 i2 i3 i4 i5 i6 i7 i8 i9 w wA q0 e22 e23 b0 b1 b2 b3 b4 kb1 kb2 kb22 pl1 pl2 hc BE kc1 kc2 X3 ok3 eO p0 p1 p2 x1 vC f50;rw[hK];unfold im at *
     rw[w3,w4];refine yh ?_;refine⟨aX,aX,?_⟩;refine bM.gen λe2 fw gu ni Ee=>?_;have q4:e2.get 4=.ptr (.box (h.boxes.length+1)) 0:=(by rw[fw];simp only[gW,reduceIte,aZ,aQ,r1];exact f4);have q5:e2.get 5=.ptr (.box (h.boxes.length+1+1)) 0:=(by rw[fw];simp only[gW,reduceIte,aZ,aQ,r1];exact f5);have q12:e2.get 12=.v (.int .i64 k):=(by rw[fw];simp only[gW,reduceIte,aZ,aQ,r1]);have q13:e2.get 13=a:=(by rw[fw];simp only[gW,reduceIte,aZ,aQ,r1]);clear fw gu ni Ee r1 d1 w1 w2 w3 w4 w5 w6;refine yh ?_;refine my [(3,4)] zM aw (λp hp=>?_) ?_
     ·simp only[lu] at hp;subst hp;refine rD (x:=.ptr (.box (h.boxes.length+1+1)) 0) (v:=.list t2 s2 (ints (bP (fc ag aA k)))) aw rfl rfl rfl aw (svs) ?_ ?_<;>(simp only[gl,fm];exact jI @jX.{0} @and_self)
     refine yh ?_;have kf2:=gv.out;rw[jJ] at kf2;refine⟨aX,?_,?_⟩
     ·show((K.app t1).app t2).loops=_;rw[zJ,zJ]
     ·rw[<-hK,ahA,TM];exact kf2
    ·obtain⟨Hf,c1,t1,s1,t2,s2,i1,i2,i3,i4,i5,i6,i7,i8,i9⟩:=feed;rw[eO];refine⟨_,_,c1,rec,by rw[i1];exact ji,by rw[w5];decide,.inl ⟨w6,?_⟩⟩;have hf1:=(aV.1 i2).1;have Af:=(aV.1 i3).1;have q1:(Hf.fx H1.loops.length {rec with state:=.exhausted}).boxes[h.boxes.length+1]?=aa [.list t1 s1 ((iU xs ag aA ae.length).map λa=>[a])]:=i2;have q2:(Hf.fx H1.loops.length {rec with state:=.exhausted}).boxes[h.boxes.length+1+1]?=aa [.list t2 s2 (ints (bP (fc ag aA ae.length)))]:=i3;have q7:(Hf.fx H1.loops.length {rec with state:=.exhausted}).boxes[H1.boxes.length]?=aa ((fR cw).map λn=>.v (.int .i64 n)):=i7;have XF:Ext h (Hf.fx H1.loops.length {rec with state:=.exhausted}):=((Fr.EE (bn:=h.boxes.length) (l0:=h.loops.length) (n0:=h.tn) i6.ext (aM _)).trans (.fx JO _)).ext (aM _) (aM _) (aM _);generalize Hf.fx H1.loops.length {rec with state:=.exhausted}=HF at *
     have hg1:=(aV.1 q1).1;have DX:=(aV.1 q2).1;have lA:=Kt q1;have lB:=vw q2;have sA:=RA (k:=t1) (s:=s1) (es:=(iU xs ag aA ae.length).map λa=>[a]) q1;have lB2:aI aq Gt (HF.put (h.boxes.length+1) [.list t1 s1 ((iU xs ag aA ae.length).map λa=>[a])]) 23 (.ptr (.box (h.boxes.length+1+1)) 0)=aa (.list t2 s2 (ints (bP (fc ag aA ae.length)))):=vw (by rw[dg ah];exact q2);have sB:=LD (H:=HF.put (h.boxes.length+1) [.list t1 s1 ((iU xs ag aA ae.length).map λa=>[a])]) (b:=h.boxes.length+1+1) (k:=t2) (s:=s2) (es:=ints (bP (fc ag aA ae.length))) (by rw[dg ah];exact q2);have eA:=sM q1;have eB:=sM (h:=HF) q2;rw[eA] at sA sB lB2;rw[eB] at sB;have svs:=Im t2 s2 (bP (fc ag aA ae.length));have gv:=al.mk (av XF (av i4 (av i5 q7)));clear q1 q2 q7 XF i1 i2 i3 i4 i5 i6 i7 i8 i9 c1 b0 b1 b2 b3 b4 X3 ok3 eO p0 p1 p2 x1 vC f50 ji w1 w2 w3 w4 w5 w6 eA eB;refine bI @xo ?_;refine my [(1,3)] zM aw (λp hp=>?_) ?_
     ·simp only[lu] at hp;subst hp;refine AP (x:=.ptr (.box (h.boxes.length+1+1)) 0) (v:=.list t2 s2 (ints (bP (fc ag aA ae.length)))) aw rfl rfl rfl aw (svs) ?_ ?_<;>(simp only[gl,fm];exact jI @xo @and_self)
     refine bI @xo ?_;exact⟨_,_,rfl,gv.out.1,by rw[aH (by simp[kpe.out]),aH (by simp[kf.out])];exact⟨_,_,_,_,_,rfl,gv.out.2.1,gv.out.2.2.1,by rw[<-jJ];exact gv.out.2.2.2⟩⟩
def IL.hold{x}{l}(h:IL x l):IL (aD x) l/\aL 0 0 0 (aD x)=ai:=by obtain⟨k,s,rfl,hs⟩:=h;rw[aD,Ke];exact⟨⟨cd k,s,rfl,hs⟩,by rw[aL,fy,nL];rfl⟩
def B9:∀xs:List AV,eU (xs.map λa=>[a])=(xs.map aD).map λa=>[a]
 | []=>rfl
 |x::xs=>by rw[eK,eU,B9 xs];rfl
def ye:∀xs:List AV,(∀a∈xs,aL 0 0 0 a=ai)->gL 0 0 0 (xs.map λa=>[a])=ai
 | [],_=>rfl
 |x::xs,h=>by rw[eK,gL,ye xs λa ha=>h a (fN _ ha),aW,h x gj];rfl
def RL.hold{k}{s}{xs:List AV}{ae}(h:RL (.list k s (xs.map λa=>[a])) ae):
 RL (.list (cd k) s ((xs.map aD).map λa=>[a])) ae/\∀a∈xs.map aD,aL 0 0 0 a=ai:=by
 obtain⟨k',s',xs',he,hs,hl,hr⟩:=h;injection he with e1 e2 e3;have e4:=(Mt (λx y h=>by injection h)).1 e3;subst e1;subst e2;subst e4;refine⟨⟨cd k,s,xs.map aD,rfl,hs,by rw[bE];exact hl,λi a r ha fY=>?_⟩,λa ha=>?_⟩
 ·rw[ev] at ha;cases hx:xs[i]? with
  |none=>rw[hx] at ha;cases ha
  |some b=>rw[hx] at ha;injection ha with ha;rw[<-ha];exact(hr i b r hx fY).hold.1
 ·obtain⟨b,hb,rfl⟩:=ju.1 ha;obtain⟨i,hi⟩:=tT hb;have cK:=(aV.1 hi).1;exact(hr i b _ hi (aT (by rw[<-hl];exact cK))).hold.2
def L3:List bm:=[28,29,30,46,65,66,69,78,82,94,97,118,119,120,121,123,132,138,140,143,144,146,194,201]
noncomputable def QB:bm->Option (List AV->ao->Option (AV × ao)):=qb W2 L3
noncomputable abbrev W3:=whole aq Gt QB
def TS:pX QB L3:=xY
section
variable (a b n x:Int)
def adi:∀h,W3.call 28 [im a,im b] h=aa (.ret (im (cQ a b)),h):=br (L:=L3) rfl rfl rfl (Ta a b _) rfl rfl
def alC:∀h,W3.call 29 [im a,im b] h=aa (.ret (im (bX a b)),h):=br (L:=L3) rfl rfl rfl (P5 a b _) rfl rfl
def at3:∀h,W3.call 46 [im x] h=aa (.ret (.v (.bool (bN x))),h):=br (L:=L3) rfl rfl rfl (at2 x _) rfl rfl
def aif:∀h,W3.call 69 [im a,im b] h=aa (.ret (.tuple [im (jx a b),im (me a b)]),h):=br (L:=L3) rfl rfl rfl (aie a b _) rfl rfl
def ail:∀h,W3.call 30 [im a,im n] h=aa (.ret (.tuple [im (ft a n),im (mJ a)]),h):=br (L:=L3) rfl rfl rfl (aik a n _) rfl rfl
def Zi:∀h,W3.call 65 [im a,im b] h=aa (.ret (im (cQ a b)),h):=br (L:=L3) rfl rfl rfl (anO a b _) rfl rfl
def Zy:∀h,W3.call 66 [im a,im b] h=aa (.ret (im (bX a b)),h):=br (L:=L3) rfl rfl rfl (apu a b _) rfl rfl
def aoN:∀h,W3.call 194 [im n] h=aa (.ret (.tuple [im (if fmod n=0 then 0 else eE n),im (if fmod n=0 then 90 else 0)]),h):=br (L:=L3) rfl rfl rfl (aoM n _) rfl rfl
def arp:∀h,W3.call 94 [im x] h=aa (.ret (.v (.bool (bN x))),h):=br (L:=L3) rfl rfl rfl (aro x _) rfl rfl
def aon:∀h,W3.call 140 [im a,im b] h=aa (.ret (.tuple [im (jx a b),im (me a b)]),h):=br (L:=L3) rfl rfl rfl (aom a b _) rfl rfl
def aou:∀h,W3.call 132 [im a,im n] h=aa (.ret (.tuple [im (ft a n),im (mJ a)]),h):=br (L:=L3) rfl rfl rfl (aot a n _) rfl rfl
def aoH:∀h,W3.call 120 [im n] h=aa (.ret (.agg (aJ 1 n [] .nil 0 [])),h):=br (L:=L3) rfl rfl rfl (aoG n _) rfl rfl
end
def RL.form{x}{ae}(h:RL x ae):∃(k:Tok) (s:Nat) (xs:List AV),x=.list k s (xs.map λa=>[a])/\xs.length=ae.length:=by obtain⟨k,s,xs,he,-,hl,-⟩:=h;exact⟨k,s,xs,he,hl⟩
def RL.fb{x}{ae}(h:RL x ae):RL (aD x) ae/\aL 0 0 0 (aD x)=ai:=by obtain⟨k,s,xs,rfl,-⟩:=h.form;obtain⟨h1,h2⟩:=h.hold;rw[aD,B9];exact⟨h1,by rw[aL,fy,ye _ h2];rfl⟩
def afI(x y)(ae)(ag)(hx:RL x ae)(hy:IL y ag):∀h,W3.call 97 [.agg [x,y]] h=aa (.ret (.v (.int .i64 (de ae ag))),h):=by obtain⟨h1,h2⟩:=hx.fb;obtain⟨h3,h4⟩:=hy.hold;obtain⟨h',hc,-⟩:=Uk ⟨[],[],0,[]⟩ (aD x) (aD y) ae ag h1 h3;exact br (L:=L3) (cA:=[.agg [aD x,aD y]]) rfl rfl (by simp[aW,aL,h2,h4]) hc rfl rfl
def U8(l):(l.map im).map (λc=>[c])=ints l:=by unfold ints;rw[List.map_map];rfl
def Ci{h}{b n}{l}(hb:h.boxes[b]?=aa (l.map im))(hn:l.length=n):jM h (.arr b 0 n n)=.list .held 1 (ints l):=by subst hn;rw[jM,hb];simp only;rw[aG (by rw[bE];omega),List.drop_zero,gO (by rw[bE];exact aM _),U8]
def aga(x y)(ae)(target)(hx:RL x ae)(hy:IL y target)(hr:ae.length<=64)(hw:∀r∈ae,r.length=target.length)(nU:target.length<=64)(bJ:∀r∈ae,∀x∈r,okF x)(oB:∀x∈target,okF x):
 (pG ae target=ar/\∀h,W3.call 144 [x,y] h=aa (.ret (.tuple [.list .nil 0 [],.v (.bool az),im 0]),h))∨∃l,pG ae target=aa l/\l.length=ae.length/\∀h,W3.call 144 [x,y] h=aa (.ret (.tuple [.list .held 1 (ints l),.v (.bool ai),im 0]),h):=by
 obtain⟨h1,h2⟩:=hx.fb;obtain⟨h3,h4⟩:=hy.hold;obtain⟨r,h',hc,-,⟨e1,rfl⟩|⟨l,b,e1,e2,rfl,e3⟩⟩:=agb ⟨[],[],0,[]⟩ (aD x) (aD y) ae target h1 h3 hr hw nU bJ oB rfl
 ·exact .inl ⟨e1,br (L:=L3) (cA:=[aD x,aD y]) rfl rfl (by simp[aW,h2,h4]) hc rfl rfl⟩
 ·refine .inr ⟨l,e1,e2,br (L:=L3) (cA:=[aD x,aD y]) rfl rfl (by simp[aW,h2,h4]) hc ?_ (by simp[aL,aW,nL,rG,im])⟩;rw[jM,tE,Ci e3 e2];rfl
def Qu{xs}{ag aA}{n i:Nat}{a}(h:(iU xs ag aA n)[i]?=aa a):∃j,(fc ag aA n)[i]?=aa j/\j<n/\a=xs.getD j default:=by
 unfold iU at h;rw[ev] at h;cases hj:((bR n).filter λi=>aA.contains (ak ag i))[i]? with
 |none=>rw[hj] at h;cases h
 |some j=>rw[hj] at h;injection h with h;exact⟨j,hj,gB.1 (uL.1 (dn hj)).1,h.symm⟩
def anK(k0)(s0)(xs:List AV)(y z)(ae)(ag aA)(hx:RL (.list k0 s0 (xs.map λa=>[a])) ae)(hy:IL y ag)(hz:IL z aA)(kL:aA.length<=1099511627776):
 (de ae ag≠0/\∀h,W3.call 143 [.agg [.list k0 s0 (xs.map λa=>[a]),y],z] h=aa (.ret (.tuple [.list .nil 0 [],.list .nil 0 [],.list .nil 0 [],.v (.int .i64 (de ae ag))]),h))∨
 (de ae ag=0/\gx (-1) aA=az/\∀h,W3.call 143 [.agg [.list k0 s0 (xs.map λa=>[a]),y],z] h=aa (.ret (.tuple [.list .nil 0 [],.list .nil 0 [],.list .nil 0 [],.v (.int .i64 1)]),h))∨
 (de ae ag=0/\gx (-1) aA=ai/\∃X A,RL X ((ez ag aA).map λi=>ae.getD i [])/\IL A (bP (ez ag aA))/\∀h,W3.call 143 [.agg [.list k0 s0 (xs.map λa=>[a]),y],z] h=aa (.ret (.tuple [X,A,.list .held 1 (ints (fR (b9 ae))),.v (.int .i64 0)]),h)):=by
 obtain⟨h1,h2⟩:=hx.hold;obtain⟨h3,h4⟩:=hy.hold;obtain⟨h5,h6⟩:=hz.hold;have dB:(xs.map aD).length=ae.length:=by obtain⟨_,_,xs',he,-,hl,-⟩:=h1;injection he with _ _ e3;have e4:=(Mt (λx y h=>by injection h)).1 e3;rw[e4];exact hl
 have ea:cr [.agg [.list k0 s0 (xs.map λa=>[a]),y],z]=[.agg [.list (cd k0) s0 ((xs.map aD).map λa=>[a]),aD y],aD z]:=by rw[cr,aD,cr,cr,cr,aD,B9];rfl
 have ef:aW 0 0 0 [.agg [.list (cd k0) s0 ((xs.map aD).map λa=>[a]),aD y],aD z]=ai:=by have hf:=ye _ h2;rw[aW,aL,aW,aW,aW,aW,aL,fy,hf,h4,h6];rfl
 obtain⟨r,h',hc,-,hp⟩:=anJ ⟨[],[],0,[]⟩ (cd k0) s0 (xs.map aD) (aD y) (aD z) ae ag aA h1 dB h3 h5 kL rfl;by_cases q1:de ae ag≠0
 ·rw[aG q1] at hp;subst hp;exact .inl ⟨q1,br (L:=L3) rfl ea ef hc rfl rfl⟩
 ·rw[aH q1] at hp;have q1':de ae ag=0:=IM.1 q1;cases q2:gx (-1) aA with
  |false=>rw[aG q2] at hp;subst hp;exact .inr (.inl ⟨q1',rfl,br (L:=L3) rfl ea ef hc rfl rfl⟩)|true=>
   rw[aH (by rw[q2];simp)] at hp;obtain⟨k1,s1,k2,s2,tb,rfl,e1,e2,e3⟩:=hp;obtain⟨o1,-,-,-⟩:=o9 q1';have hN:fc ag aA ae.length=ez ag aA:=(by unfold fc ez;rw[o1]);obtain⟨n1,-⟩:=uW q1';have yH:(fR (b9 ae)).length=b9 ae:=(by unfold fR;simp;omega);refine .inr (.inr ⟨q1',rfl,.list (cd k1) s1 ((iU (xs.map aD) ag aA ae.length).map λa=>[a]),.list (cd k2) s2 (ints (bP (ez ag aA))),⟨_,_,_,rfl,λbO=>?_,?_,λi a r ha hr=>?_⟩,⟨_,_,rfl,λbO=>?_⟩,br (L:=L3) rfl ea ef hc ?_ ?_⟩)
   ·rcases e1 with q|⟨q,-⟩
    ·exact q
    ·exfalso;apply bO;rw[<-hN];unfold iU at q;unfold fc;rw[FL] at q;rw[q];rfl
   ·rw[bE,<-hN];unfold iU fc;rw[bE]
   ·obtain⟨j,j1,j2,rfl⟩:=Qu ha;rw[hN] at j1;rw[ev,j1] at hr;injection hr with hr;subst hr;obtain⟨_,_,xs',he,-,hl,hh⟩:=h1;injection he with _ _ e5;have e4:=(Mt (λx y h=>by injection h)).1 e5;subst e4;refine hh j _ _ ?_ ?_
    ·rw[dS,aT ah];rfl
    ·show ae[j]?=aa (ae.getD j []);rw[dS,aT j2];rfl
   ·rcases e2 with q|⟨q,-⟩
    ·exact q
    ·rw[hN] at q;exact absurd q bO
   ·rw[jM,tE,tE,tE,Ci e3 yH,hN];rfl
   ·have qn:gL 0 0 0 ((iU (xs.map aD) ag aA ae.length).map λa=>[a])=ai:=ye _ λa ha=>(by obtain⟨i,hi⟩:=tT ha;obtain⟨j,-,j2,rfl⟩:=Qu hi;refine h2 _ ?_;rw[dS,aT ah];exact iG _);cases k1<;>cases k2<;>simp[aL,aW,cd,nL,qn,rG]
def E3:Tryz.f76.results.toList=[.tmp 4,.tmp 5,.tmp 6]:=aw
def mR(n:Nat)(at_:List Nat)(l:List Int)(j:Nat):List Int:=(at_.zipIdx.take j).foldl (λy p=>y.set p.1 (ak l p.2)) (bg n 0)
def Lz{n j}{at_}{l}:(mR n at_ l j).length=n:=by unfold mR;rw[Gj (λp=>ak l p.2),mB]
def aaw{n j p}{at_}{l}(h:at_[j]?=aa p):(mR n at_ l j).set p (ak l j)=mR n at_ l (j+1):=by
 have hz:at_.zipIdx[j]?=aa (p,j):=by rw[ab2,h];simp
 unfold mR;rw[fW hz,oM];rfl
def Ly{n}{at_}{l}:mR n at_ l at_.length=rC n at_ l:=by unfold mR rC;rw[gO bH]
def Zh{l}{j p:Nat}(h:l[j]?=aa p):ak (bP l) j=(p:Int):=by
 have:(bP l)[j]?=aa (p:Int):=by unfold bP;rw[ev,h];rfl
 unfold ak;rw[dS,this];rfl
def RZ(ae:List (List Int))(ag aA:List Int)(h:ao)(r:eX)(h':ao):Prop:=
 Ext h h'/\((∃e,gC ae ag aA=([],az,e)/\r=.ret (.tuple [.list .nil 0 [],.v (.bool az),.v (.int .i64 e)]))∨∃l b,gC ae ag aA=(l,ai,0)/\l.length=ae.length/\r=.ret (.tuple [.arr b 0 ae.length ae.length,.v (.bool ai),.v (.int .i64 0)])/\h'.boxes[b]?=aa (l.map im))
def adg(h:ao)(k0:Tok)(s0:Nat)(xs:List AV)(y z:AV)(ae:List (List Int))(ag aA:List Int)(hx:RL (.list k0 s0 (xs.map λa=>[a])) ae)(hy:IL y ag)(hz:IL z aA)(kL:aA.length<=1099511627776):
 ∃r h',W3.call 76 [.agg [.list k0 s0 (xs.map λa=>[a]),y],z] h=aa (r,h')/\RZ ae ag aA h r h':=by
 have hq:=anK k0 s0 xs y z ae ag aA hx hy hz kL;obtain⟨_,_,xs',he,dB⟩:=hx.form;have Kl:(xs.map λa=>[a]).length=ae.length:=by injection he with _ _ e5;rw[e5,bE];exact dB
 have bx:(AV.agg [.list k0 s0 (xs.map λa=>[a]),y]).cD=aa [.list k0 s0 (xs.map λa=>[a]),y]:=by obtain⟨ky,sy,rfl,-⟩:=hy;rfl
 have b0:(h.push [.list k0 s0 (xs.map λa=>[a]),y]).boxes[h.boxes.length]?=aa [.list k0 s0 (xs.map λa=>[a]),y]:=bh _ _;have l25:=rk b0;have l22:=pO b0;have u23:=dN;have u22:=ir;have z3:=fH;clear he dB hx hy hz b0;unfold RZ;have eA:gC ae ag aA=if de ae ag≠0 then ([],az,de ae ag) else if !gx (-1) aA then ([],az,1) else match pG ((ez ag aA).map λi=>ae.getD i []) (fR (b9 ae)) with|none=>([],az,0)|some l=>(rC ae.length (ez ag aA) l,ai,0):=rfl
 refine da rfl Tryz.func76 rfl ?_;rcases hq with⟨q1,c⟩|⟨q1,q2,c⟩|⟨q1,q2,X,A,hX,hA,c⟩
 ·rw[aG q1] at eA;generalize de ae ag=pe at *
  have V7:decide (pe=0)=az:=by simp[q1]
  have ke:=al.mk eA;clear eA q1;refine bV @E3 @bB ?_;exact⟨_,_,rfl,.push _ _,.inl ⟨pe,ke.out,rfl⟩⟩
 ·rw[aH (by simp[q1]),aG (by rw[q2];rfl)] at eA;have ke:=al.mk eA;clear eA q1 q2;refine bV @E3 @bB ?_;exact⟨_,_,rfl,.push _ _,.inl ⟨1,ke.out,rfl⟩⟩
 ·rw[aH (by simp[q1]),aH (by rw[q2];simp)] at eA;obtain⟨o1,o2,o3,-⟩:=o9 q1;obtain⟨n1,n2⟩:=uW q1;have yH:(fR (b9 ae)).length=b9 ae:=by unfold fR;simp;omega
  have Aq:∀i∈ez ag aA,i<ae.length:=λi hi=>by unfold ez at hi;rw[o1];exact gB.1 (uL.1 hi).1
  have bZ:(ez ag aA).length<=64:=by unfold ez;exact fJ (FK _ _) (by rw[List.length_range];omega)
  have dJ:∀r∈(ez ag aA).map λi=>ae.getD i [],r∈ae:=λr hr=>by obtain⟨i,hi,rfl⟩:=ju.1 hr;have:=Aq i hi;rw[dS,aT this];exact iG _
  have vi:=aga X (.list .held 1 (ints (fR (b9 ae)))) _ (fR (b9 ae)) hX ⟨_,_,rfl,λ_=>rfl⟩ (by rw[bE];exact bZ) (λr hr=>by rw[yH];exact(o3 r (dJ r hr)).1) (by rw[yH];exact n2) (λr hr=>(o3 r (dJ r hr)).2.2.2) (λx hx=>by
   unfold fR at hx;rcases iq.1 hx with rfl|hx
   ·exact⟨aO,by decide⟩
   ·rw[List.eq_of_mem_replicate hx];exact⟨aO,by decide⟩)
  rcases vi with⟨e1,c2⟩|⟨l,e1,e2,c2⟩
  ·rw[e1] at eA;have ke:=al.mk eA;unfold im at c2;clear eA q1 q2 e1 dJ Aq o3;refine bV @E3 @bB ?_;exact⟨_,_,rfl,.push _ _,.inl ⟨0,ke.out,rfl⟩⟩
  ·rw[e1] at eA;have ke:=al.mk eA;have mk:=AB (h.push [.list k0 s0 (xs.map λa=>[a]),y]) ae.length ah .i64 .i64;have nR:bg ae.length (im 0)=(mR ae.length (ez ag aA) l 0).map im:=(by unfold mR;rw[fm,FG,xQ]);rw[nR] at mk;rw[bE] at e2;have ko:=al.mk Aq;obtain⟨ka,sa,rfl,iT⟩:=hA;have ksa:=al.mk iT;have eM:=PC (ez ag aA);have eO:=dp l;clear eA q1 q2 e1 dJ Aq o3 nR hX iT;unfold im at c2 mk;generalize ez ag aA=ow at *
   clear o1;refine cR @E3 @bB @dw ?_;refine bM.gen λe0 aF bD cN cH=>?_;have f4:e0.get 4=.arr (h.boxes.length+1) 0 ae.length ae.length:=(by rw[aF];simp only[gW,reduceIte,aZ,aQ,cX]);have f10:e0.get 10=.list .held 1 (ints l):=(by rw[aF];exact gS);have f42:e0.get 42=.list ka sa (ints (bP ow)):=(by rw[aF];exact gS);have f43:e0.get 43=.v (.int .i64 (ow.length:Nat)):=(by rw[aF];exact gS);have f44:e0.get 44=.v (.int .i64 (0:Nat)):=(by rw[aF];exact gR);have fd:e0.defers=[]:=(by rw[bD];exact gS);clear aF bD cN cH mk c c2 l25 l22;have jJ:(h.push [.list k0 s0 (xs.map λa=>[a]),y]).boxes.length=h.boxes.length+1:=cX _ _;have X1:Ext h (h.push [.list k0 s0 (xs.map λa=>[a]),y]):=.push _ _;generalize h.push [.list k0 s0 (xs.map λa=>[a]),y]=H1 at *
   have kX:=al.mk (av X1 jJ);clear X1;refine cE (λm e H=>∃j:Nat,j<=ow.length/\m=ow.length - j/\e.get 4=.arr (h.boxes.length+1) 0 ae.length ae.length/\e.get 10=.list .held 1 (ints l)/\e.get 42=.list ka sa (ints (bP ow))/\e.get 43=.v (.int .i64 (ow.length:Nat))/\e.get 44=.v (.int .i64 (j:Nat))/\e.defers=[]/\H=H1.push ((mR ae.length ow l j).map im)) ?_ ow.length _ _ ?_;rotate_left 1
   ·exact⟨0,cG _,rfl,f4,f10,f42,f43,f44,fd,rfl⟩
   clear f4 f10 f42 f43 f44 fd;rintro m e H ⟨j,hj,rfl,g4,g10,g42,g43,g44,hd,rfl⟩;by_cases aB:j<ow.length
   ·obtain⟨p,fG⟩:∃p,ow[j]?=aa p:=⟨_,aT aB⟩;have yA:=ko.out p (dn fG);have bF:sa=1:=ksa.out (by intro q;unfold bP at q;rw[FL] at q;rw[q] at aB;exact qO _ aB);subst bF;have l0:=e7 (H:=H1.push ((mR ae.length ow l j).map im)) (l:=bP ow) (i:=j) (s:=1) (by unfold bP;rw[bE];exact aB);rw[Zh fG] at l0;have l1:=e7 (H:=H1.push ((mR ae.length ow l j).map im)) (l:=l) (i:=j) (s:=1) ah;have ix3:=qy (b:=h.boxes.length+1) (len:=ae.length) (aC:=ae.length) (k:=.i64) yA;have sk:=y8 (H:=H1.push ((mR ae.length ow l j).map im)) (b:=H1.boxes.length) (r:=mR ae.length ow l j) (k:=p) (x:=ak l j) (bh _ _) (by rw[Lz];exact yA);rw[pg,aaw fG,jJ] at sk;have fA:(j:Int)<(ow.length:Int):=(by omega);unfold im at *
    clear fG jJ;refine bV @E3 @a9 ?_;exact⟨ow.length - (j+1),by omega,j+1,by omega,rfl,by simp⟩
   ·have oA:j=ow.length:=(by omega);subst oA;refine bI @E3 ?_;refine⟨_,_,rfl,kX.out.1.trans (.push _ _),.inr ⟨_,h.boxes.length+1,ke.out,?_,rfl,?_⟩⟩
    ·rw[<-Ly,Lz]
    ·rw[<-Ly];exact nb kX.out.2.symm
def IS(H:ao)(x:AV)(l:List Int):Prop:=IL x l∨∃b,x=.arr b 0 l.length l.length/\H.boxes[b]?=aa (l.map im)
def IS.mono{H H'}{x}{l}(s:IS H x l)(m:∀(c:Nat) cs,H.boxes[c]?=aa cs->H'.boxes[c]?=aa cs):IS H' x l:=by
 rcases s with q|⟨b,q1,q2⟩
 ·exact .inl q
 ·exact .inr ⟨b,q1,m _ _ q2⟩
def IS.len{H}{x}{l}(s:IS H x l):dW aq 23 x=aa (.v (.int .i64 (l.length:Nat))):=by
 rcases s with⟨k,z,rfl,-⟩|⟨b,rfl,-⟩
 ·rw[PW dN,dp]
 ·rw[PV dN]
def IS.at{H:ao}{x:AV}{l:List Int}(s:IS H x l){i:Nat}(hi:i<l.length):∃a,dG aq 23 x (.v (.int .i64 (i:Nat)))=aa a/\∀H':ao,IS H' x l->aI aq Gt H' 3 a=aa (.v (.int .i64 (ak l i))):=by
 rcases s with⟨k,z,rfl,hz⟩|⟨b,rfl,hb⟩
 ·have:z=1:=hz (by intro q;rw[q] at hi;exact qO _ hi);subst this;have q:=a9 (t:=23) (k:=k) (kk:=.i64) (sz:=1) (es:=ints l) (a:=((i:Nat):Int)) dN fH ah (by rw[dp];omega);rw[dK] at q;exact⟨_,q,λH' _=>e7 hi⟩
 ·refine⟨.ptr (.box b) i,qy (b:=b) (len:=l.length) (aC:=l.length) (n:=i) (k:=.i64) hi,λH' s'=>?_⟩;rcases s' with⟨k,z,e,-⟩|⟨b',e,iA⟩
  ·cases e
  ·injection e with e1;subst e1;exact yR iA (xd hi)
def Li:Tryz.f196.results.toList=[.tmp 6]:=aw
def aqy:Tryz.f195.results.toList=[.tmp 4]:=aw
def XX(h:ao)(x y:AV)(a own:List Int)(n:Int)(hx:IS h x a)(hy:IS h y own)(hl:own.length=a.length)(hw:a.length<=1000000):
 ∃r h',W3.call 196 [x,y,im n] h=aa (r,h')/\Ext h h'/\r=.ret (.arr h.boxes.length 0 a.length a.length)/\h'.boxes[h.boxes.length]?=aa ((jb n a own).map im):=by
 have mk:=AB h a.length hw .i64 .i64;have kk:=al.mk (av hx hy);have lx:=hx.len;have nR:bg a.length (im 0)=(lE (λj=>jT n (ak a j) (ak own j)) (bg a.length 0) 0 0).map im:=by rw[UA,xQ]
 rw[nR] at mk;unfold im at mk;clear hx hy nR;refine da rfl Tryz.func196 rfl ?_;unfold im;refine bI @Li ?_;refine bM.gen λe0 aF bD cN cH=>?_;have f0:e0.get 0=x:=by rw[aF];exact gS
 have f1:e0.get 1=y:=by rw[aF];exact gS
 have f2:e0.get 2=.v (.int .i64 n):=by rw[aF];exact gS
 have f7:e0.get 7=.arr h.boxes.length 0 a.length a.length:=by rw[aF];exact gS
 have f8:e0.get 8=.v (.int .i64 (0:Nat)):=by rw[aF];exact gR
 have fd:e0.defers=[]:=by rw[bD];exact gS
 clear aF bD cN cH mk;refine cE (λm e H=>∃k:Nat,k<=a.length/\m=a.length - k/\e.get 0=x/\e.get 1=y/\e.get 2=.v (.int .i64 n)/\e.get 7=.arr h.boxes.length 0 a.length a.length/\e.get 8=.v (.int .i64 (k:Nat))/\e.defers=[]/\H=h.push ((lE (λj=>jT n (ak a j) (ak own j)) (bg a.length 0) 0 k).map im)) ?_ a.length _ _ ?_;rotate_left 1
 ·exact⟨0,cG _,rfl,f0,f1,f2,f7,f8,fd,rfl⟩
 clear f0 f1 f2 f7 f8 fd;rintro m e H ⟨k,hk,rfl,g0,g1,g2,g7,g8,hd,rfl⟩;by_cases aB:k<a.length
 ·obtain⟨ax,i1,i2⟩:=kk.out.1.at aB;obtain⟨ay,j1,j2⟩:=kk.out.2.at (ah:k<own.length);have l1:=i2 (h.push ((lE (λj=>jT n (ak a j) (ak own j)) (bg a.length 0) 0 k).map im)) (kk.out.1.mono λ_ _ q=>bA q);have l2:=j2 (h.push ((lE (λj=>jT n (ak a j) (ak own j)) (bg a.length 0) 0 k).map im)) (kk.out.2.mono λ_ _ q=>bA q);have c1:=λh=>Zy n (ak own k) h;have c2:=λh=>Zi (ak a k) (0 - bX n (ak own k)) h;have fl:jT n (ak a k) (ak own k)=cQ (ak a k) (0 - bX n (ak own k)):=by rw[Sm];rfl
  have fz:=yT (Gi n (ak own k));have cS:(bg a.length (0:Int)).length=a.length:=mB;have sk:=y8 (H:=h.push ((lE (λj=>jT n (ak a j) (ak own j)) (bg a.length 0) 0 k).map im)) (b:=h.boxes.length) (r:=lE (λj=>jT n (ak a j) (ak own j)) (bg a.length 0) 0 k) (k:=k) (x:=jT n (ak a k) (ak own k)) (bh _ _) (by rw[rY,cS];exact aB);have cs:=Uz (f:=λj=>jT n (ak a j) (ak own j)) (a:=bg a.length 0) (cG k) (by rw[cS];exact aB);rw[pg,cs,fl] at sk;have ix:=qy (b:=h.boxes.length) (len:=a.length) (aC:=a.length) (k:=.i64) aB;have fA:(k:Int)<(a.length:Int):=by omega
  clear i2 j2 cs fl;generalize bX n (ak own k)=z at *
  unfold im at *
  refine bI @Li ?_;refine dR TS aw ?_;refine bI @Li ?_;exact⟨a.length - (k+1),by omega,k+1,by omega,rfl,by simp⟩
 ·have:k=a.length:=by omega
  subst this;refine bI @Li ?_;refine⟨_,_,rfl,.push _ _,rfl,?_⟩;rw[bh];congr 2;refine xl (by rw[rY,vy hl.symm,mB]) λj hj=>?_;rw[rY,mB] at hj;rw[DC (by rw[mB];exact hj),aG ⟨cG _,hj⟩,wj hl.symm hj]
def atC(h:ao)(x:AV)(a:List Int)(n:Int)(hx:IS h x a)(hw:a.length<=1000000)(hn:0<=n/\n<=9223372036854775807):
 ∃r h',W3.call 195 [x,im n] h=aa (r,h')/\Ext h h'/\∃b,r=.ret (.arr b 0 a.length a.length)/\h'.boxes[b]?=aa ((scaleB a n).map im):=by
 have mk:=AB h a.length hw .i64 .i64;have lx:=hx.len;have hz:(h.push (bg a.length (im 0))).boxes[h.boxes.length]?=aa ((bg a.length (0:Int)).map im):=by rw[bh,xQ]
 have tD:(bg a.length (0:Int)).length=a.length:=mB;obtain⟨r,h',c,X,rfl,hb⟩:=XX (h.push (bg a.length (im 0))) (.arr h.boxes.length 0 a.length a.length) x (bg a.length 0) a (0 - n) (.inr ⟨h.boxes.length,by rw[tD],hz⟩) (hx.mono λ_ _ q=>bA q) tD.symm (by rw[tD];exact hw);rw[tD] at c;rw[Sm] at hb;have kk:=al.mk (av X hb);clear hx hz tD X hb;unfold im at c mk ⊢;refine da rfl Tryz.func195 rfl ?_;refine bI @aqy ?_;exact⟨_,_,rfl,(Ext.push _ _).trans kk.out.1,_,rfl,kk.out.2⟩
def Ib:Tryz.f193.results.toList=[.tmp 2]:=aw
def Yy(h:ao)(x:AV)(l:List Int)(hx:IL x l)(hl:l.length<=1000000):∃r h',W3.call 193 [x] h=aa (r,h')/\h'=h/\r=.ret (.v (.bool (l.all cU))):=by
 obtain⟨k,s,rfl,hs⟩:=hx;have ks:=al.mk hs;clear hs;have u23:=dN;have z3:=fH;have cK:=dp l;refine da rfl Tryz.func193 rfl ?_;refine bI @Ib ?_;refine cE (λm e H=>∃i:Nat,i<=l.length/\m=l.length - i/\al ((l.take i).all cU=ai)/\e.get 0=.list k s (ints l)/\e.get 3=.v (.int .i64 (i:Nat))/\e.defers=[]/\H=h) ?_ l.length _ _ ?_;rotate_left 1
 ·refine⟨0,cG _,rfl,⟨bH⟩,?_,?_,?_,rfl⟩<;>exact gR
 rintro m e H ⟨i,hi,rfl,ka,g0,g3,hd,rfl⟩;by_cases aB:i<l.length
 ·have bF:s=1:=ks.out (by intro q;rw[q] at aB;simp at aB);subst bF;have ld:=e7 (H:=H) (s:=1) aB;have hv:l[i]?=aa (ak l i):=by rw[aT aB,ga aB]
  have fA:(i:Int)<(l.length:Int):=by omega
  have pM:(l.take (i+1)).all cU=cU (ak l i):=by rw[fW hv,List.all_append,ka.out];simp
  have pI:=dn hv;have kt:=al.mk (av pM pI);have hq:cU (ak l i)=(decide (0<=ak l i)&&decide (ak l i<1073741789)):=rfl;clear hv pM pI;generalize ak l i=n at *
  by_cases c1:n<0
  ·have dU:decide (n<0)=ai:=(by simp[c1]);have hf:l.all cU=az:=(by rw[C8];exact⟨n,kt.out.2,by rw[hq];simp;omega⟩);have kf:=al.mk hf;clear hf hq c1;refine bV @Ib @a9 ?_;exact⟨_,_,rfl,rfl,by rw[kf.out]⟩
  ·have dU:decide (n<0)=az:=(by simp[c1]);by_cases c2:1073741789<=n
   ·have gu:decide (1073741789<=n)=ai:=(by simp[c2]);have hf:l.all cU=az:=(by rw[C8];exact⟨n,kt.out.2,by rw[hq];simp;omega⟩);have kf:=al.mk hf;clear hf hq c1 c2;refine bV @Ib @a9 ?_;exact⟨_,_,rfl,rfl,by rw[kf.out]⟩
   ·have gu:decide (1073741789<=n)=az:=(by simp;omega);have kt2:al ((l.take (i+1)).all cU=ai):=⟨by rw[kt.out.1,hq];simp;omega⟩;clear hq c1 c2;refine bV @Ib @a9 ?_;exact⟨l.length - (i+1),by omega,i+1,by omega,rfl,kt2,by simp⟩
 ·have:i=l.length:=by omega
  subst this;have:=ka.out;rw[fI] at this;have kan:=al.mk this;clear this;refine bI @Ib ?_;exact⟨_,_,rfl,rfl,by rw[kan.out]⟩
def EU:Tryz.f192.results.toList=[.tmp 2]:=aw
def Xu{l:List Int}(h:∀x∈l,okF x):l.all cU=ai:=by rw[ej];intro x hx;obtain⟨h1,h2⟩:=h x hx;unfold cU;simp[h1,h2]
def anV(h:ao)(x:AV)(ae:List (List Int))(w:Nat)(hx:RL x ae)(hr:ae.length<=64)(hw:∀r∈ae,r.length=w)(nU:w<=64)(bJ:∀r∈ae,∀x∈r,okF x):∃h',W3.call 192 [x] h=aa (.ret (.v (.int .i64 0)),h')/\h'=h:=by
 obtain⟨k,s,xs,rfl,hs,dB,eg⟩:=hx;have kk:=al.mk (av hs (av eg (av hw bJ)));clear hs eg hw bJ;have u23:=dN;have u22:=ir;have z23:=iW;have cK:(xs.map λa=>[a]).length=ae.length:=by rw[bE];exact dB
 have JN:¬((64:Int)<(ae.length:Int)):=by omega
 refine iu rfl Tryz.func192 rfl ?_;refine bI @EU ?_;refine cE (λm e H=>∃i:Nat,i<=ae.length/\m=ae.length - i/\e.get 0=.list k s (xs.map λa=>[a])/\e.get 3=.v (.int .i64 (i:Nat))/\e.defers=[]/\H=h) ?_ ae.length _ _ ?_;rotate_left 1
 ·refine⟨0,cG _,rfl,?_,?_,?_,rfl⟩<;>exact gR
 rintro m e H ⟨i,hi,rfl,g0,g3,hd,rfl⟩;by_cases aB:i<ae.length
 ·have bF:s=1:=kk.out.1 (by intro q;rw[q] at aB;simp at aB);subst bF;obtain⟨a,fE⟩:∃a,xs[i]?=aa a:=⟨_,aT ah⟩;obtain⟨r,hv⟩:∃r,ae[i]?=aa r:=⟨_,aT aB⟩;have ld:=lh (H:=H) (s:=1) fE;obtain⟨ka,sa,rfl,iT⟩:=kk.out.2.1 i a r fE hv;have cS:=kk.out.2.2.1 r (dn hv);have vn:(ints r).length=w:=by rw[dp];exact cS
  have fA:(i:Int)<(ae.length:Int):=by omega
  have hwd:¬((64:Int)<(w:Int)):=by omega
  clear fE hv iT cS;refine bV @EU @a9 ?_;exact⟨ae.length - (i+1),by omega,i+1,by omega,rfl,by simp⟩
 ·refine bI @EU ?_;refine bM.gen λe0 aF bD cN cH=>?_;have f0:e0.get 0=.list k s (xs.map λa=>[a]):=by rw[aF];simp only[gW,reduceIte,aZ,aQ];exact g0
  have f4:e0.get 4=.v (.int .i64 (0:Nat)):=by rw[aF];exact gR
  have fd:e0.defers=[]:=by rw[bD];simp only[gW,reduceIte,aZ,aQ];exact hd
  clear aF bD cN cH g0 g3 hd hi aB;refine cE (λm e H2=>∃i:Nat,i<=ae.length/\m=ae.length - i/\e.get 0=.list k s (xs.map λa=>[a])/\e.get 4=.v (.int .i64 (i:Nat))/\e.defers=[]/\H2=H) ?_ ae.length _ _ ?_;rotate_left 1
  ·exact⟨0,cG _,rfl,f0,f4,fd,rfl⟩
  clear f0 f4 fd;rintro m e H ⟨i,hi,rfl,g0,g4,hd,rfl⟩;by_cases aB:i<ae.length
  ·have bF:s=1:=kk.out.1 (by intro q;rw[q] at aB;simp at aB);subst bF;obtain⟨a,fE⟩:∃a,xs[i]?=aa a:=⟨_,aT ah⟩;obtain⟨r,hv⟩:∃r,ae[i]?=aa r:=⟨_,aT aB⟩;obtain⟨a0,gf⟩:∃a,xs[0]?=aa a:=⟨_,aT ah⟩;obtain⟨r0,gg⟩:∃r,ae[0]?=aa r:=⟨_,aT ah⟩;have ld:=lh (H:=H) (s:=1) fE;have ld0:=lh (H:=H) (s:=1) gf;obtain⟨ka,sa,rfl,iT⟩:=kk.out.2.1 i a r fE hv;obtain⟨ka0,sa0,rfl,pK⟩:=kk.out.2.1 0 a0 r0 gf gg;have cS:=kk.out.2.2.1 r (dn hv);have tB:=kk.out.2.2.1 r0 (dn gg);obtain⟨_,H5,cc,e5,rfl⟩:=Yy H (.list ka sa (ints r)) r ⟨_,_,rfl,iT⟩ ah;rw[e5,Xu (kk.out.2.2.2 r (dn hv))] at cc;have vn:(ints r).length=w:=(by rw[dp];exact cS);have Ed:(ints r0).length=w:=(by rw[dp];exact tB);have fA:(i:Int)<(ae.length:Int):=(by omega);have yi:(0:Int)<(ae.length:Int):=(by omega);have z0:(0:Int).toNat=0:=rfl;have GF:decide ((w:Int)=(w:Int))=ai:=(by simp);clear fE hv iT cS gf gg pK tB e5;refine bV @EU @a9 ?_;refine dR TS aw ?_;refine bV @EU @a9 ?_;exact⟨ae.length - (i+1),by omega,i+1,by omega,rfl,by simp⟩
  ·refine bI @EU ?_;exact⟨_,rfl,rfl⟩
def ZR:Tryz.f172.results.toList=[.tmp 4]:=aw
def aoc(h:ao)(x y:AV)(ae:List (List Int))(target:List Int)(hx:RL x ae)(hy:IL y target)(hr:ae.length<=64)(hw:∀r∈ae,r.length=target.length)(nU:target.length<=64)(bJ:∀r∈ae,∀x∈r,okF x)(oB:∀x∈target,okF x):
 W3.call 172 [x,y] h=aa (.ret (.v (.int .i64 0)),h):=by
 obtain⟨h1,c1,e1⟩:=anV h x ae target.length hx hr hw nU bJ;rw[e1] at c1;obtain⟨_,h2,c2,e2,rfl⟩:=Yy h y target hy ah;rw[e2,Xu oB] at c2;clear e1 e2 h1 h2;obtain⟨k,s,xs,rfl,hs,dB,eg⟩:=hx;obtain⟨ky,sy,rfl,jL⟩:=hy;have u23:=dN;have u22:=ir;have z23:=iW;have cK:(xs.map λa=>[a]).length=ae.length:=by rw[bE];exact dB
 have tw:=dp target;have JN:¬((64:Int)<(target.length:Int)):=by omega
 clear bJ oB;refine cL rfl Tryz.func172 rfl ?_;by_cases h0:ae.length=0
 ·have hq:decide ((0:Int)<(ae.length:Int))=az:=cT ah;clear hw eg h0;exact lP @ZR
 ·have hq:decide ((0:Int)<(ae.length:Int))=ai:=cz ah;obtain⟨a0,gf⟩:∃a,xs[0]?=aa a:=⟨_,aT ah⟩;obtain⟨r0,gg⟩:∃r,ae[0]?=aa r:=⟨_,aT ah⟩;have bF:s=1:=hs (by intro q;rw[q] at h0;simp at h0);subst bF;have ld0:=lh (H:=h) (s:=1) gf;obtain⟨ka0,sa0,rfl,pK⟩:=eg 0 a0 r0 gf gg;have tB:=hw r0 (dn gg);have Ed:(ints r0).length=target.length:=by rw[dp];exact tB
  have yi:(0:Int)<(ae.length:Int):=by omega
  have z0:(0:Int).toNat=0:=rfl;have GF:decide ((target.length:Int)=(target.length:Int))=ai:=by simp
  clear hw eg gf gg tB hs h0;exact jI @ZR @a9
def L4:List bm:=[28,29,30,46,65,66,69,76,78,82,94,97,118,119,120,121,123,132,138,140,146,172,194,195,196,201]
noncomputable def EN:bm->Option (List AV->ao->Option (AV × ao)):=qb W3 L4
noncomputable abbrev W4:=whole aq Gt EN
def wu:pX EN L4:=xY
section
variable (a b n x:Int)
def Tb:∀h,W4.call 28 [im a,im b] h=aa (.ret (im (cQ a b)),h):=br (L:=L4) rfl rfl rfl (adi a b _) rfl rfl
def Ym:∀h,W4.call 29 [im a,im b] h=aa (.ret (im (bX a b)),h):=br (L:=L4) rfl rfl rfl (alC a b _) rfl rfl
def aa6:∀h,W4.call 46 [im x] h=aa (.ret (.v (.bool (bN x))),h):=br (L:=L4) rfl rfl rfl (at3 x _) rfl rfl
def aih:∀h,W4.call 69 [im a,im b] h=aa (.ret (.tuple [im (jx a b),im (me a b)]),h):=br (L:=L4) rfl rfl rfl (aif a b _) rfl rfl
def NY:∀h,W4.call 30 [im a,im n] h=aa (.ret (.tuple [im (ft a n),im (mJ a)]),h):=br (L:=L4) rfl rfl rfl (ail a n _) rfl rfl
def anP:∀h,W4.call 65 [im a,im b] h=aa (.ret (im (cQ a b)),h):=br (L:=L4) rfl rfl rfl (Zi a b _) rfl rfl
def apv:∀h,W4.call 66 [im a,im b] h=aa (.ret (im (bX a b)),h):=br (L:=L4) rfl rfl rfl (Zy a b _) rfl rfl
def aoO:∀h,W4.call 194 [im n] h=aa (.ret (.tuple [im (if fmod n=0 then 0 else eE n),im (if fmod n=0 then 90 else 0)]),h):=br (L:=L4) rfl rfl rfl (aoN n _) rfl rfl
def arq:∀h,W4.call 94 [im x] h=aa (.ret (.v (.bool (bN x))),h):=br (L:=L4) rfl rfl rfl (arp x _) rfl rfl
def aoo:∀h,W4.call 140 [im a,im b] h=aa (.ret (.tuple [im (jx a b),im (me a b)]),h):=br (L:=L4) rfl rfl rfl (aon a b _) rfl rfl
def aov:∀h,W4.call 132 [im a,im n] h=aa (.ret (.tuple [im (ft a n),im (mJ a)]),h):=br (L:=L4) rfl rfl rfl (aou a n _) rfl rfl
def aoI:∀h,W4.call 120 [im n] h=aa (.ret (.agg (aJ 1 n [] .nil 0 [])),h):=br (L:=L4) rfl rfl rfl (aoH n _) rfl rfl
end
def akT(x y)(a own)(n)(hx:IL x a)(hy:IL y own)(hl:own.length=a.length)(hw:a.length<=1000000):∀h,W4.call 196 [x,y,im n] h=aa (.ret (.list .held 1 (ints (jb n a own))),h):=by obtain⟨h1,h2⟩:=hx.hold;obtain⟨h3,h4⟩:=hy.hold;obtain⟨r,h',hc,-,rfl,hb⟩:=XX ⟨[],[],0,[]⟩ (aD x) (aD y) a own n (.inl h1) (.inl h3) hl hw;exact br (L:=L4) (cA:=[aD x,aD y,im n]) rfl rfl (by simp[aW,h2,h4,aL,im]) hc (Ci hb (vy hl.symm)) (by simp[aL,nL,rG])
def aad(a)(n):(scaleB a n).length=a.length:=by unfold scaleB;rw[vy (by rw[mB]),mB]
def atD(x)(a)(n)(hx:IL x a)(hw:a.length<=1000000)(hn:0<=n/\n<=9223372036854775807):∀h,W4.call 195 [x,im n] h=aa (.ret (.list .held 1 (ints (scaleB a n))),h):=by obtain⟨h1,h2⟩:=hx.hold;obtain⟨r,h',hc,-,b,rfl,hb⟩:=atC ⟨[],[],0,[]⟩ (aD x) a n (.inl h1) hw hn;exact br (L:=L4) (cA:=[aD x,im n]) rfl rfl (by simp[aW,h2,aL,im]) hc (Ci hb (aad a n)) (by simp[aL,nL,rG])
def adb(k0)(s0)(xs:List AV)(y z)(ae)(ag aA)(hx:RL (.list k0 s0 (xs.map λa=>[a])) ae)(hy:IL y ag)(hz:IL z aA)(kL:aA.length<=1099511627776):
 (∃e,gC ae ag aA=([],az,e)/\∀h,W4.call 76 [.agg [.list k0 s0 (xs.map λa=>[a]),y],z] h=aa (.ret (.tuple [.list .nil 0 [],.v (.bool az),.v (.int .i64 e)]),h))∨
 ∃l,gC ae ag aA=(l,ai,0)/\l.length=ae.length/\∀h,W4.call 76 [.agg [.list k0 s0 (xs.map λa=>[a]),y],z] h=aa (.ret (.tuple [.list .held 1 (ints l),.v (.bool ai),.v (.int .i64 0)]),h):=by
 obtain⟨h1,h2⟩:=hx.hold;obtain⟨h3,h4⟩:=hy.hold;obtain⟨h5,h6⟩:=hz.hold;have ea:cr [.agg [.list k0 s0 (xs.map λa=>[a]),y],z]=[.agg [.list (cd k0) s0 ((xs.map aD).map λa=>[a]),aD y],aD z]:=by rw[cr,aD,cr,cr,cr,aD,B9];rfl
 have ef:aW 0 0 0 [.agg [.list (cd k0) s0 ((xs.map aD).map λa=>[a]),aD y],aD z]=ai:=by have hf:=ye _ h2;rw[aW,aL,aW,aW,aW,aW,aL,fy,hf,h4,h6];rfl
 obtain⟨r,h',hc,-,⟨e,e1,rfl⟩|⟨l,b,e1,e2,rfl,e3⟩⟩:=adg ⟨[],[],0,[]⟩ (cd k0) s0 (xs.map aD) (aD y) (aD z) ae ag aA h1 h3 h5 kL
 ·exact .inl ⟨e,e1,br (L:=L4) rfl ea ef hc rfl rfl⟩
 ·refine .inr ⟨l,e1,e2,br (L:=L4) rfl ea ef hc ?_ (by simp[aL,aW,nL,rG])⟩;rw[jM,tE,Ci e3 e2];rfl
def aod(x y)(ae)(target)(hx:RL x ae)(hy:IL y target)(hr:ae.length<=64)(hw:∀r∈ae,r.length=target.length)(nU:target.length<=64)(bJ:∀r∈ae,∀x∈r,okF x)(oB:∀x∈target,okF x):
 ∀h,W4.call 172 [x,y] h=aa (.ret (.v (.int .i64 0)),h):=by
 obtain⟨h1,h2⟩:=hx.fb;obtain⟨h3,h4⟩:=hy.hold;exact br (L:=L4) (cA:=[aD x,aD y]) rfl rfl (by simp[aW,h2,h4]) (aoc ⟨[],[],0,[]⟩ (aD x) (aD y) ae target h1 h3 hr hw nU bJ oB) rfl rfl
def La:Tryz.f137.results.toList=[.tmp 4]:=aw
def aiK(h:ao)(x:AV)(l:List Int)(n:Int)(hx:IL x l)(hl:l.length<=1099511627776):∃r h',W4.call 137 [x,im n] h=aa (r,h')/\h'=h/\r=.ret (.v (.bool (l.contains n))):=by
 obtain⟨k,s,rfl,hs⟩:=hx;have ks:=al.mk hs;clear hs;have u23:=dN;have z3:=fH;have cK:=dp l;unfold im;refine da rfl Tryz.func137 rfl ?_;refine bI @La ?_;refine cE (λm e H=>∃i:Nat,i<=l.length/\m=l.length - i/\al ((l.take i).contains n=az)/\e.get 0=.list k s (ints l)/\e.get 1=.v (.int .i64 n)/\e.get 5=.v (.int .i64 (i:Nat))/\e.defers=[]/\H=h) ?_ l.length _ _ ?_;rotate_left 1
 ·refine⟨0,cG _,rfl,⟨bH⟩,?_,?_,?_,?_,rfl⟩<;>exact gR
 rintro m e H ⟨i,hi,rfl,ka,g0,g1,g5,hd,rfl⟩;by_cases aB:i<l.length
 ·have bF:s=1:=ks.out (by intro q;rw[q] at aB;simp at aB);subst bF;have ld:=e7 (H:=H) (s:=1) aB;have hv:l[i]?=aa (ak l i):=by rw[aT aB,ga aB]
  have fA:(i:Int)<(l.length:Int):=by omega
  have kv:=al.mk hv;clear hv;by_cases hc:ak l i=n
  ·have dU:decide (ak l i=n)=ai:=(by simp[hc]);have hf:l.contains n=ai:=(by rw[C9,cz];rw[<-hc];exact dn kv.out);have kf:=al.mk hf;clear hf;have khc:=al.mk hc;generalize ak l i=v at *
   clear hc
   repeat' (first|simp(maxSteps:=999999)(disch:=first|exact dZ|fail)only[gW,reduceIte,aZ,aQ,La,a9, *]|refine dX ?_ ?_<;>(intro _;try omega))
   all_goals first|exact⟨_,_,rfl,rfl,by rw[kf.out]⟩|exact absurd khc.out (by assumption)
  ·have dU:decide (ak l i=n)=az:=(by simp[hc]);have kt2:al ((l.take (i+1)).contains n=az):=⟨by
    have:=ka.out;rw[fW kv.out];rw[C9,decide_eq_false_iff_not] at *
    rw[vX,not_or];exact⟨this,by rw[lu];exactλq=>hc q.symm⟩⟩
   repeat' (first|simp(maxSteps:=999999)(disch:=first|exact dZ|fail)only[gW,reduceIte,aZ,aQ,La,a9, *]|refine dX ?_ ?_<;>(intro _;try omega))
   all_goals exact⟨l.length - (i+1),by omega,i+1,by omega,rfl,kt2,by simp⟩
 ·have:i=l.length:=by omega
  subst this;have:=ka.out;rw[fI] at this;have kan:=al.mk this;clear this;refine bI @La ?_;exact⟨_,_,rfl,rfl,by rw[kan.out]⟩
def aqh:Tryz.f135.results.toList=[.tmp 2]:=aw
def atr(h:ao)(n:Nat)(h1:0<n)(h2:n<=1000000):W4.call 135 [im (n:Nat)] h=aa (.ret (.arr h.boxes.length 0 n n),h.push ((fR n).map im)):=by
 have mk:=AB h n h2 .i64 .i64;have nR:bg n (im 0)=(bg n (0:Int)).map im:=by rw[xQ]
 rw[nR] at mk;have sk:=y8 (H:=h.push ((bg n (0:Int)).map im)) (b:=h.boxes.length) (r:=bg n (0:Int)) (k:=0) (x:=1) (bh _ _) (by rw[mB];exact h1);have vt:(bg n (0:Int)).set 0 1=fR n:=by obtain⟨c,rfl⟩:∃c,n=c+1:=⟨n - 1,by omega⟩;unfold fR;rw[A1];rfl
 rw[pg,vt] at sk;have ix:dG aq 23 (.arr h.boxes.length 0 n n) (.v (.int .i64 0))=aa (.ptr (.box h.boxes.length) 0):=qy (n:=0) (k:=.i64) h1;clear nR vt;unfold im at *
 refine cL rfl Tryz.func135 rfl ?_;exact lP @aqh
def ZK:Tryz.f136.results.toList=[.tmp 2]:=aw
def af4(h:ao)(x y:AV)(ae:List (List Int))(ag:List Int)(hx:RL x ae)(hy:IL y ag):∃h',W4.call 136 [.agg [x,y]] h=aa (.ret (.v (.int .i64 (b9 ae:Nat))),h')/\h'=h.push [x,y]:=by
 obtain⟨k,s,xs,rfl,hs,dB,eg⟩:=hx;have bx:(AV.agg [.list k s (xs.map λa=>[a]),y]).cD=aa [.list k s (xs.map λa=>[a]),y]:=by obtain⟨ky,sy,rfl,-⟩:=hy;rfl
 have l0:=pO (bh h [.list k s (xs.map λa=>[a]),y]);have u23:=dN;have u22:=ir;have z23:=iW;have cK:(xs.map λa=>[a]).length=ae.length:=by rw[bE];exact dB
 refine iu rfl Tryz.func136 rfl ?_;by_cases h0:ae.length=0
 ·have hq:(ae.length:Int)=0:=by omega
  have hc:b9 ae=1:=by unfold b9;rw[aG h0]
  rw[hc];clear h0 eg hs dB hc;refine cR @ZK @bB @dw ?_;exact⟨_,rfl,rfl⟩
 ·have hq:¬((ae.length:Int)=0):=by omega
  obtain⟨a0,gf⟩:∃a,xs[0]?=aa a:=⟨_,aT ah⟩;obtain⟨r0,gg⟩:∃r,ae[0]?=aa r:=⟨_,aT ah⟩;have bF:s=1:=hs (by intro q;rw[q] at h0;simp at h0);subst bF;have ld0:=lh (H:=h.push [.list k 1 (xs.map λa=>[a]),y]) (s:=1) gf;obtain⟨ka0,sa0,rfl,pK⟩:=eg 0 a0 r0 gf gg;have hc:b9 ae=r0.length:=by unfold b9;rw[aH h0,dS,gg];rfl
  rw[hc];have cS:=dp r0;have yi:(0:Int)<(ae.length:Int):=by omega
  have z0:(0:Int).toNat=0:=rfl;clear h0 eg hs dB hc gf gg pK;refine bG @ZK @bB @dw @a9 ?_;exact⟨_,rfl,rfl⟩
def uz:Tryz.f93.results.toList=[.tmp 2]:=aw
def amH(h:ao)(x:AV)(l:List Int)(hx:IL x l)(hl:l.length<=9223372036854775807):∃r h',W4.call 93 [x] h=aa (r,h')/\h'=h/\r=.ret (.v (.bool (gx (-1) l))):=by
 obtain⟨k,s,rfl,hs⟩:=hx;have ks:=al.mk hs;clear hs;have u23:=dN;have z3:=fH;have cK:=dp l;refine da rfl Tryz.func93 rfl ?_;refine bI @uz ?_;refine cE (λm e H=>∃(i:Nat) (cW:Int),i<=l.length/\m=l.length - i/\al (gx cW (l.drop i)=gx (-1) l)/\ -1<=cW/\al (i=0->cW= -1)/\al (0<i->ak l (i - 1)=cW)/\e.get 0=.list k s (ints l)/\e.get 3=.v (.int .i64 (i:Nat))/\e.defers=[]/\H=h) ?_ l.length _ _ ?_;rotate_left 1
 ·refine⟨0,-1,cG _,rfl,⟨rfl⟩,Mh _,⟨λ_=>rfl⟩,⟨λq=>absurd q (FW _)⟩,?_,?_,?_,rfl⟩<;>exact gR
 rintro m e H ⟨i,cW,hi,rfl,kP,lR,k0,k1,g0,g3,hd,rfl⟩;by_cases aB:i<l.length;rotate_left 1
 ·have:i=l.length:=by omega
  subst this;have hf:gx (-1) l=ai:=by rw[<-kP.out,pZ (aM _)];rfl
  have kf:=al.mk hf;clear hf;refine bI @uz ?_;exact⟨_,_,rfl,rfl,by rw[kf.out]⟩
 have bF:s=1:=ks.out (by intro q;rw[q] at aB;simp at aB);subst bF;have ld:=e7 (H:=H) (s:=1) aB;have fA:(i:Int)<(l.length:Int):=by omega
 have oV:l.drop i=ak l i::l.drop (i+1):=by rw[ga aB];exact xP aB
 have qZ:=kP.out;rw[oV,gx] at qZ;have kpf:=al.mk qZ;clear qZ oV;by_cases c1:ak l i<0
 ·have dU:decide (ak l i<0)=ai:=by simp[c1]
  have hf:gx (-1) l=az:=by rw[<-kpf.out];simp;omega
  have kf:=al.mk hf;clear hf c1;refine bV @uz @a9 ?_;refine dR wu aw ?_;refine bV @uz @a9 ?_;exact⟨_,_,rfl,rfl,by rw[kf.out]⟩
 have dU:decide (ak l i<0)=az:=by simp[c1]
 by_cases c2:64<=ak l i
 ·have gu:decide (64<=ak l i)=ai:=by simp[c2]
  have hf:gx (-1) l=az:=by rw[<-kpf.out];simp;omega
  have kf:=al.mk hf;clear hf c1 c2;refine bV @uz @a9 ?_;refine dR wu aw ?_;refine bV @uz @a9 ?_;exact⟨_,_,rfl,rfl,by rw[kf.out]⟩
 have gu:decide (64<=ak l i)=az:=by simp;omega
 by_cases GH:i=0
 ·subst GH;have Am:=k0.out rfl;have kP2:al (gx (ak l 0) (l.drop (0+1))=gx (-1) l):=⟨by rw[<-kpf.out,cz (ah:cW<ak l 0),cz (ah:ak l 0<=63)];rfl⟩;have B2: -1<=ak l 0:=by omega
  have kk1:al (0<0+1->ak l (0+1 - 1)=ak l 0):=⟨λ_=>rfl⟩;clear c1 c2 Am kpf;refine bV @uz @a9 ?_;refine dR wu aw ?_;refine bV @uz @a9 ?_;exact⟨l.length - 1,by omega,0+1,ak l 0,by omega,rfl,kP2,B2,⟨λq=>absurd q ah⟩,kk1,by simp⟩
 ·have D1:=k1.out ah;have ld1:=e7 (H:=H) (l:=l) (i:=i - 1) (s:=1) ah;rw[D1] at ld1;have G8:decide ((0:Int)<(i:Int))=ai:=cz ah;have jB:(i:Int) - 1=((i - 1:Nat):Int):=by omega
  have Wp:((i - 1:Nat):Int)<(l.length:Int):=by omega
  by_cases c3:ak l i<=cW
  ·have tm:decide (ak l i<=cW)=ai:=(by simp[c3]);have hf:gx (-1) l=az:=(by rw[<-kpf.out];simp;omega);have kf:=al.mk hf;clear hf c1 c2 c3 D1;refine bV @uz @a9 ?_;refine dR wu aw ?_;refine bV @uz @a9 ?_;exact⟨_,_,rfl,rfl,by rw[kf.out]⟩
  ·have tm:decide (ak l i<=cW)=az:=(by simp;omega);have kP2:al (gx (ak l i) (l.drop (i+1))=gx (-1) l):=⟨by rw[<-kpf.out,cz (ah:cW<ak l i),cz (ah:ak l i<=63)];rfl⟩;have B2: -1<=ak l i:=(by omega);have kk1:al (0<i+1->ak l (i+1 - 1)=ak l i):=⟨λ_=>rfl⟩;clear c1 c2 c3 D1 kpf;refine bV @uz @a9 ?_;refine dR wu aw ?_;refine bV @uz @a9 ?_;exact⟨l.length - (i+1),by omega,i+1,ak l i,by omega,rfl,kP2,B2,⟨λq=>absurd q ah⟩,kk1,by simp⟩
end Go.Proofs.YtnfciiiohoafaaaGreatDoor
end
