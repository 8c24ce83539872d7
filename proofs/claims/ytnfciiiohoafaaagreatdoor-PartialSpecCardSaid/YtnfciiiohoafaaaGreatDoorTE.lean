/-
  Part of the proof: TE.
-/
import Derived.Test.YtnfciiiohoafaaaGreatDoorTD
open True renaming intro->aQ
open Option renaming some->aa,none->aq
open List renaming getElem?_eq_some_iff->aP,mem_of_getElem?->de,length_set->mn,getElem?_set_self->K5,getElem?_eq_getElem->aO,mem_or_eq_of_mem_set->u0,range->bO,getElem_map->qa,getElem_range->zS,length_append->dk,length_take->eP,length_drop->gE,getElem?_map->dW,length_map->bu,map_set->aaF,set_eq_take_append_cons_drop->zX,getElem?_set->lR,set_set->Ch,contains_eq_mem->Ce,set_set_perm->aaN,length_cons->iW,length_nil->jI,map_append->lU,getElem_of_mem->aax,mem_append->uZ,mem_of_mem_take->oa,mem_map->jo,getElem?_of_mem->s8,range_succ->ob,foldl_append->nY,getD_eq_getElem?_getD->dP,mem_cons_self->fR,mem_singleton->mo,take_succ_cons->hJ,take_zero->fB,mem_cons_of_mem->fi,replicate->aY,replicate_succ->zW,append_nil->jH,getElem?_append_left->qM,getElem?_concat_length->EC,take_of_length_le->gm,take_length->fA,any_append->KZ,any_eq_true->EA,nil_append->lV,any_eq_false->aal,length_replicate->lT,getElem?_zipIdx->aaw,mem_cons->gO,all_eq_true->dU,getElem?_drop->nZ,foldl_nil->EB,map_replicate->wO,map_eq_nil_iff->EG,mem_range->fY,getElem_mem->iD,filter_append->Cg,filter_cons->K3,map_cons->eo,length_filter_le->EF,drop_eq_getElem_cons->zR,drop_of_length_le->pc,map_inj_right->K9,mem_filter->tS,all_eq_false->KY
open Go.Proofs.Tryz renaming prog->al,underlying23->dJ,underlying203->EW,underlying22->iq,func218->abl,func154->abe
open And renaming intro->ar
open Nat renaming reduceEqDiff->aX,le_refl->aJ,le_trans->fe,mul_le_mul->pg,zero_add->oF,zero_le->cr,not_lt_zero->rU,lt_or_ge->dI,lt_irrefl->ER,sub_self->s9
open Bool renaming true->ah,and_eq_true->bC,not_eq_true'->yk,false->av,false_or->ZU,false_and->zL,and_eq_false_iff->ZT
open Int renaming zero_sub->Q2,le_refl->KT,toNat_natCast->dL,lt_trans->aab
open Decidable renaming not_not->Hz
set_option maxHeartbeats 64000000
set_option maxRecDepth 100000
set_option linter.unusedSimpArgs false
set_option linter.unusedVariables false
set_option linter.constructorNameAsVariable false
set_option linter.defProp false
section
namespace Go.Proofs.YtnfciiiohoafaaaGreatDoor
open Go.AE Go.NT
def PH:Tryz.f203.results.toList=[]:=au
structure jx(H:ak)(tb:Nat)(B:List Nat)(t:List (List Int))(w:Nat):Prop where
 gv:H.boxes[tb]?=aa (B.map λb=>AV.arr b 0 w w)
 len:B.length=t.length
 nd:B.Nodup
 row:∀(i b:Nat) (r:List Int),B[i]?=aa b->t[i]?=aa r->H.boxes[b]?=aa (r.map im)
 wid:∀r∈t,r.length=w
 out:tb∉B
def Ww{l:List Nat}(h:l.Nodup){i j x:Nat}(hi:l[i]?=aa x)(hj:l[j]?=aa x):i=j:=by obtain⟨h1,e1⟩:=aP.1 hi;obtain⟨h2,e2⟩:=aP.1 hj;exact(List.getElem_inj h).1 (e1.trans e2.symm)
def jx.set{H}{tb w i b}{B}{t}(T:jx H tb B t w)(hi:B[i]?=aa b){r}(hr:r.length=w):jx (H.put b (r.map im)) tb B (t.set i r) w:=by
 have cH:=(aP.1 hi).1;have xn:=de hi;refine⟨?_,by rw[mn];exact T.len,T.nd,λj b' r' hj fG=>?_,λr' fG=>?_,T.out⟩
 ·rw[cS (λe=>T.out (by rw[e];exact xn))];exact T.gv
 ·by_cases Nm:j=i
  ·subst Nm;rw[hi] at hj;injection hj with hj;subst hj;rw[K5 (by rw[<-T.len];exact cH)] at fG;injection fG with fG;subst fG;have jN:j<t.length:=(by rw[<-T.len];exact cH);exact ev (aP.1 (T.row j b _ hi (aO jN))).1
  ·have bH:b'≠b:=λe=>Nm (Ww T.nd (by rw[<-e];exact hj) hi);rw[cS bH];rw[List.getElem?_set_ne (λe=>Nm e.symm)] at fG;exact T.row j b' r' hj fG
 ·rcases u0 fG with q|q
  ·exact T.wid r' q
  ·rw[q];exact hr
def jx.mono{H H'}{tb w}{B}{t}(T:jx H tb B t w)(m:∀(c:Nat) cs,H.boxes[c]?=aa cs->H'.boxes[c]?=aa cs):jx H' tb B t w:=
 ⟨m _ _ T.gv,T.len,T.nd,λi b r hi hr=>m _ _ (T.row i b r hi hr),T.wid,T.out⟩
def mz(n:Int)(a own:List Int)(c k:Nat):List Int:=(bO a.length).map λj=>if c<=j/\j<k then jA n (ai a j) (ai own j) else ai a j
def tf{n}{a own}{c k}:(mz n a own c k).length=a.length:=by unfold mz;simp
def Fc{n}{a own}{c k j}(hj:j<a.length):ai (mz n a own c k) j=if c<=j/\j<k then jA n (ai a j) (ai own j) else ai a j:=by rw[fI (by rw[tf];exact hj)];unfold mz;rw[qa,zS]
def ae1{n}{a own}{c}:mz n a own c c=a:=by refine wc tf λj hj=>?_;rw[tf] at hj;rw[Fc hj,aG ag]
def ae0{n}{a own}{c k}(hc:c<=k)(hk:k<a.length):(mz n a own c k).set k (jA n (ai a k) (ai own k))=mz n a own c (k+1):=by
 refine wc (by rw[mn,tf,tf]) λj hj=>?_;rw[mn,tf] at hj;rw[HY (by rw[tf];exact hk),Fc hj,Fc hj];by_cases y8:j=k
 ·subst y8;rw[aF rfl,aF ag]
 ·rw[aG y8];by_cases q:c<=j/\j<k
  ·rw[aF q,aF ag]
  ·rw[aG q,aG ag]
def aeZ{n}{a own}{c}(hl:a.length=own.length)(hc:c<=a.length):mz n a own c a.length=a.take c++iI n (a.drop c) (own.drop c):=by
 have hd:(a.drop c).length=(own.drop c).length:=by simp[hl]
 refine wc (by rw[tf,dk,uD hd,eP,gE];omega) λj hj=>?_;rw[tf] at hj;rw[Fc hj,Cw hc];by_cases q:j<c
 ·rw[aG ag,aF q]
 ·rw[aF ag,aG q,vi hd (by rw[gE];omega),HX,HX,(ag:c+(j - c)=j)]
def vW{r}{k}(hk:k<r.length):(r.map im)[k]?=aa (im (ai r k)):=by rw[dW,aO hk,fI hk];rfl
def yd{H}{b k}{r:List Int}{x}(hb:H.boxes[b]?=aa (r.map im))(hk:k<r.length):ct al H 3 (.ptr (.box b) k) (.v (.int .i64 x))=aa (H.put b ((r.set k x).map im)):=by rw[gL (xs:=[im x]) rfl fP hb rfl (by rw[bu];exact hk)];congr 2;unfold eE;rw[aaF,zX,aF (by rw[bu];exact hk)];simp
def xT{x}(h:okF x):0<=x/\x<=9223372036854775807:=by obtain⟨h1,h2⟩:=h;have:Qi=1073741789:=rfl;omega
def aee(h:ak)(tb:Nat)(B:List Nat)(t:List (List Int))(w i y c:Nat)(a own:List Int)(T:jx h tb B t w)(hi:t[i]?=aa a)(hy:t[y]?=aa own)(bH:i≠y)(hc:c<w)(hw:w<=1000000)(bA:∀r∈t,∀x∈r,okF x):
 ∃h',W2.call 203 [.arr tb 0 B.length B.length,im (i:Nat),im (y:Nat),im (c:Nat)] h=aa (.ret (.tuple []),h')/\jx h' tb B (t.set i (uc c a own)) w/\∀n0,fS B n0 h h':=by
 have cH:=(aP.1 hi).1;have xG:=(aP.1 hy).1;obtain⟨bi,tv⟩:∃b,B[i]?=aa b:=⟨_,aO (by rw[T.len];exact cH)⟩;obtain⟨bY,II⟩:∃b,B[y]?=aa b:=⟨_,aO (by rw[T.len];exact xG)⟩;have ra:=T.row i bi a tv hi;have ro:=T.row y bY own II hy;have wa:=T.wid a (de hi);have wo:=T.wid own (de hy);have tu:bi≠bY:=λe=>bH (Ww T.nd (by rw[e] at tv;exact tv) II);have vE:=(aP.1 T.gv).1;have as1:=(aP.1 ra).1;have as4:=(aP.1 ro).1;have aie:tb≠bi:=λe=>T.out (by rw[e];exact de tv);have UD:(B.map λb=>AV.arr b 0 w w)[i]?=aa (.arr bi 0 w w):=by rw[dW,tv];rfl
 have hdy:(B.map λb=>AV.arr b 0 w w)[y]?=aa (.arr bY 0 w w):=by rw[dW,II];rfl
 have oka:=bA a (de hi);have oko:=bA own (de hy);have Nh:i<B.length:=by rw[T.len];exact cH
 have hyB:y<B.length:=by rw[T.len];exact xG
 have z3:=KH;have bx1:∀b n m:Nat,(AV.arr b 0 n m).b8=aa [.arr b 0 n m]:=λ_ _ _=>rfl;have bx2:∀n:Int,(AV.v (.int .i64 n)).b8=aa [.v (.int .i64 n)]:=λ_=>rfl;have ixi:=Dw (b:=tb) (len:=B.length) (aB:=B.length) (k:=.i64) Nh;have ixy:=Dw (b:=tb) (len:=B.length) (aB:=B.length) (k:=.i64) hyB;have ixc:=pQ (b:=bi) (len:=w) (aB:=w) (k:=.i64) hc;have n0:=xT (pk oka c);have unf:uc c a own=if ai a c=0 then a else mz (ai a c) a own c w:=by unfold uc;rw[<-wa,aeZ ag ag]
 rw[unf];clear unf;generalize hn:ai a c=n at *
 have yW:∀(z:AV) (cs ds:List AV),((h.push cs).push ds).boxes[tb]?=aa (B.map λb=>AV.arr b 0 w w)/\((h.push cs).push ds).boxes[bi]?=aa (a.map im):=λz cs ds=>⟨bg (bg T.gv),bg (bg ra)⟩;generalize ni:(h.push [.arr tb 0 B.length B.length]).push [im (i:Nat)]=H2;have l1:∀cs,aI al Gt (H2.push cs) 203 (.ptr (.box h.boxes.length) 0)=aa (.arr tb 0 B.length B.length):=λcs=>vT (by rw[<-ni];exact bg (bg (a9 _ _)));have l1':aI al Gt H2 203 (.ptr (.box h.boxes.length) 0)=aa (.arr tb 0 B.length B.length):=vT (by rw[<-ni];exact bg (a9 _ _));have l2:aI al Gt H2 3 (.ptr (.box (h.boxes.length+1)) 0)=aa (.v (.int .i64 (i:Nat))):=kQ (by rw[<-ni];exact mB (by rw[cK]));have l3:aI al Gt H2 23 (.ptr (.box tb) i)=aa (.arr bi 0 w w):=sM (by rw[<-ni];exact bg (bg T.gv)) UD;have l4:aI al Gt H2 3 (.ptr (.box bi) c)=aa (.v (.int .i64 n)):=by have:=xQ (k:=c) (x:=im (ai a c)) (show H2.boxes[bi]?=aa (a.map im) by rw[<-ni];exact bg (bg ra)) (vW ag);rw[hn] at this;exact this
 have l5:aI al Gt (H2.push [.v (.int .i64 n)]) 3 (.ptr (.box H2.boxes.length) 0)=aa (.v (.int .i64 n)):=kQ (a9 _ _);have s5:ct al (H2.push [im 0]) 3 (.ptr (.box H2.boxes.length) 0) (.v (.int .i64 n))=aa (H2.push [.v (.int .i64 n)]):=lq rfl fP rfl rfl;have l6:∀cs,aI al Gt (H2.push cs) 23 (.ptr (.box tb) y)=aa (.arr bY 0 w w):=λcs=>sM (by rw[<-ni];exact bg (bg (bg T.gv))) hdy;have kH2l:aj (H2.boxes.length=h.boxes.length+2):=⟨by rw[<-ni,cK,cK]⟩;have kM2:aj (∀n0,fS B n0 h H2):=⟨λn0=>by rw[<-ni];exact(fS.refl.push _).push _⟩;have kT2:aj (jx H2 tb B t w):=⟨T.mono λcc cs q=>by rw[<-ni];exact bg (bg q)⟩;have e0:(h.push [AV.arr tb 0 B.length B.length]).push [.v (.int .i64 (i:Nat))]=H2:=ni;have kL2:aj (H2.loops=h.loops):=⟨by rw[<-ni];rfl⟩;have kb0:aj (H2.boxes[h.boxes.length]?=aa [.arr tb 0 B.length B.length]):=⟨by rw[<-ni];exact bg (a9 _ _)⟩;have kb1:aj (H2.boxes[h.boxes.length+1]?=aa [im (i:Nat)]):=⟨by rw[<-ni];exact mB (by rw[cK])⟩;have e1:(h.push [AV.arr tb 0 B.length B.length]).boxes.length=h.boxes.length+1:=cK _ _;have kT:=aj.mk T;have ko:=aj.mk (ar oka oko);clear yW vE T ra ro bA oka oko ni;unfold im at *
 refine gP rfl Tryz.func203 rfl ?_;by_cases hz:n=0
 ·subst hz;rw[aF rfl];refine bM @PH @bL ?_;exact⟨_,rfl,by
   have e:t.set i a=t:=by
    apply List.ext_getElem?;intro j;rw[lR];split
    ·rename_i q;subst q;exact hi.symm
    ·rfl
   rw[e];exact kT2.out.mono λcc cs q=>bg q,λn0=>(kM2.out n0).push _⟩
 ·rw[aG hz];have af:=RN bY w c (H2.push [.v (.int .i64 n)]);unfold im at af;refine bM @PH @bL ?_;refine bG.gen λe he hd hp jO=>?_;have g4:e.get 4=.ptr (.box h.boxes.length) 0:=by rw[he];exact gS
  have g5:e.get 5=.ptr (.box (h.boxes.length+1)) 0:=by rw[he];exact gS
  have g8:e.get 8=.ptr (.box H2.boxes.length) 0:=by rw[he];exact gS
  have g25:e.get 25=.func (.func 219) [] [.ptr (.box (H2.boxes.length+1+1)) 0,.ptr (.box (H2.boxes.length+1)) 0]:=by rw[he];simp only[gW,reduceIte,aX,aR];simp only[cK]
  have hdf:e.defers=[]:=by rw[hd];exact gS
  clear he hd hp jO;refine D7 (by rw[Ax];exact g25) λrec w1 w2 w3 w4 w5 w6=>?_;have hkk:=kH2l.out;have Uj:=kT2.out;have bA:=ko.out;have Uf:∀n0,fS B n0 h (((H2.push [.v (.int .i64 n)]).push [.arr bY 0 w w]).push [.v (.int .i64 c)]):=λn0=>(((kM2.out n0).push _).push _).push _;have Ft:jx (((H2.push [.v (.int .i64 n)]).push [.arr bY 0 w w]).push [.v (.int .i64 c)]) tb B t w:=Uj.mono λcc cs q=>bg (bg (bg q));have p0:(((H2.push [.v (.int .i64 n)]).push [.arr bY 0 w w]).push [.v (.int .i64 c)]).boxes[H2.boxes.length]?=aa [.v (.int .i64 n)]:=bg (bg (a9 _ _));have p1:(((H2.push [.v (.int .i64 n)]).push [.arr bY 0 w w]).push [.v (.int .i64 c)]).boxes[H2.boxes.length+1]?=aa [.arr bY 0 w w]:=bg (mB (by rw[cK]));have p2:(((H2.push [.v (.int .i64 n)]).push [.arr bY 0 w w]).push [.v (.int .i64 c)]).boxes[H2.boxes.length+1+1]?=aa [.v (.int .i64 c)]:=mB (by rw[cK,cK]);have p3:(((H2.push [.v (.int .i64 n)]).push [.arr bY 0 w w]).push [.v (.int .i64 c)]).boxes[h.boxes.length]?=aa [.arr tb 0 B.length B.length]:=bg (bg (bg kb0.out));have p4:(((H2.push [.v (.int .i64 n)]).push [.arr bY 0 w w]).push [.v (.int .i64 c)]).boxes[h.boxes.length+1]?=aa [.v (.int .i64 i)]:=bg (bg (bg kb1.out));have pL:(((H2.push [.v (.int .i64 n)]).push [.arr bY 0 w w]).push [.v (.int .i64 c)]).loops=h.loops:=kL2.out;generalize ((H2.push [.v (.int .i64 n)]).push [.arr bY 0 w w]).push [.v (.int .i64 c)]=H3 at *
  have Ue:H3.loops.length=h.loops.length:=congrArg List.length pL;rw[Ue];clear pL;clear l1 l1' l2 l3 l4 l5 s5 l6 e0 e1 af Uj kb0 kb1;have dF:=Ft.row i bi a tv hi;have NY:=Ft.row y bY own II hy;have js:=(aP.1 dF).1;have xF:=(aP.1 (kT.out.gv)).1;have as3:=(aP.1 (kT.out.row i bi a tv hi)).1;have iR:(H3.loop rec).loops[h.loops.length]?=aa rec:=by rw[<-Ue];exact @DI H3 rec
  have I1:∀(k:Nat) (H:ak),H=(H3.loop rec).put bi ((mz n a own c k).map im)->H.boxes[H2.boxes.length+1+1]?=aa [im (c:Nat)]/\H.boxes[H2.boxes.length+1]?=aa [.arr bY 0 w w]/\(k<w->∃cs,H.boxes[bY]?=aa cs/\cs[k]?=aa (im (ai own k))):=by
   rintro k H rfl;refine⟨?_,?_,λhk=>⟨_,?_,vW ag⟩⟩
   ·rw[cS ag];exact p2
   ·rw[cS ag];exact p1
   ·rw[cS (Ne.symm tu)];exact NY
  have I2:∀(k:Nat) (H:ak),c<=k->k<w->H=(H3.loop rec).put bi ((mz n a own c k).map im)->∃H',W2.round h.loops.length [im (k:Nat),im (ai own k)] H=aa (.ret (.v (.bool ah)),H')/\H'=(H3.loop rec).put bi ((mz n a own c (k+1)).map im):=by
   rintro k H y9 C9 rfl;refine JR (Post:=λH=>H=(H3.loop rec).put bi ((mz n a own c (k+1)).map im)) iR (by rw[w2];rfl) w5 w6 ?_;have kq:=ae0 (n:=n) (own:=own) y9 (ag:k<a.length);have cat:ai (mz n a own c k) k=ai a k:=(by rw[Fc ag,aG ag]);have r1:∀t,(nx h.loops.length rec [im (k:Nat),im (ai own k)]).get t=if 27=t then im (ai own k) else if 26=t then im (k:Nat) else e.get t:=λt=>JQ w2 w1
   have d1:(nx h.loops.length rec [im (k:Nat),im (ai own k)]).defers=[]:=rfl;obtain⟨K,hK⟩:∃K,((H3.loop rec).put bi ((mz n a own c k).map im)).busy h.loops.length rec=K:=⟨_,rfl⟩;rw[hK];have b1:K.boxes[bi]?=aa ((mz n a own c k).map im):=(by rw[<-hK];exact ev js);have b2:K.boxes[h.boxes.length]?=aa [.arr tb 0 B.length B.length]:=(by rw[<-hK];exact(cS ag).trans p3);have b3:K.boxes[h.boxes.length+1]?=aa [im (i:Nat)]:=(by rw[<-hK];exact(cS ag).trans p4);have b4:K.boxes[H2.boxes.length]?=aa [im n]:=(by rw[<-hK];exact(cS ag).trans p0);have b5:K.boxes[tb]?=aa (B.map λb=>AV.arr b 0 w w):=(by rw[<-hK];exact(cS aie).trans Ft.gv);have m1:=xQ b1 (vW (r:=mz n a own c k) (k:=k) (by rw[tf];omega));rw[cat] at m1;have m2:=vT b2;have m3:=kQ b3;have m4:=kQ b4;have m5:=sM b5 UD;have Dy:=pQ (b:=bi) (len:=w) (aB:=w) (k:=.i64) C9;have sk:=yd (r:=mz n a own c k) (k:=k) (x:=jA n (ai a k) (ai own k)) b1 (by rw[tf];omega);rw[kq] at sk;have uH:=xT (pk bA.1 k);have ok2:=xT (pk bA.2 k);have f1:=λh=>OJ n (ai own k) h;have f2:=λh=>RK (ai a k) (0 - b9 n (ai own k)) h;have f3:=xT (Fh n (ai own k));have fl:jA n (ai a k) (ai own k)=cP (ai a k) (0 - b9 n (ai own k)):=(by rw[Q2];rfl);rw[fl] at sk;generalize b9 n (ai own k)=z at *
   generalize ai a k=z1 at *
   generalize ai own k=z2 at *
   clear hkk g25 dF NY p0 p1 p2 p3 p4 kH2l kM2 kT2 kT ko cat Uf Ft b1 b2 b3 b4 b5 kq fl bA;unfold im at *
   rw[w3,w4];refine xd ?_;refine⟨aQ,aQ,?_⟩;refine bG.gen λe2 eV gu mF Dj=>?_;have q4:e2.get 4=.ptr (.box h.boxes.length) 0:=(by rw[eV];simp only[gW,reduceIte,aX,aR,r1];exact g4);have q5:e2.get 5=.ptr (.box (h.boxes.length+1)) 0:=(by rw[eV];simp only[gW,reduceIte,aX,aR,r1];exact g5);have q8:e2.get 8=.ptr (.box H2.boxes.length) 0:=(by rw[eV];simp only[gW,reduceIte,aX,aR,r1];exact g8);have q9:e2.get 9=.v (.int .i64 k):=(by rw[eV];simp only[gW,reduceIte,aX,aR,r1]);have q10:e2.get 10=.v (.int .i64 z2):=(by rw[eV];simp only[gW,reduceIte,aX,aR,r1]);clear eV gu mF Dj r1 d1
   repeat' (first|simp(maxSteps:=999999)(disch:=first|exact dZ|fail)only[gW,reduceIte,aX,aR, *]|(refine dX ?_ ?_<;>(intro _;try omega))|refine ey yE au ?_)
   rw[<-hK];simp only[ak.put,ak.busy,ak.loop,Ch];exact⟨aQ,aQ,aQ⟩
  obtain⟨h',c1,c2⟩:=RP h.loops.length (H2.boxes.length+1+1) (H2.boxes.length+1) bY w c own (λk H=>H=(H3.loop rec).put bi ((mz n a own c k).map im)) I1 I2 ag hw ((H3.loop rec).put bi ((mz n a own c c).map im)) rfl;have e3:H3.loop rec=(H3.loop rec).put bi ((mz n a own c c).map im):=by rw[ae1];exact(rL (h:=H3.loop rec) dF).symm
  rw[<-e3] at c1;subst c2;clear e3;refine⟨_,_,c1,rec,iR,by rw[w5];decide,.inl ⟨w6,?_⟩⟩;clear c1 w1 w2 w3 w4 w5 w6 iR dF NY p0 p1 p2 p3 p4 kH2l kM2 kT2 kT ko;refine br @PH ?_;refine⟨_,rfl,?_,λn0=>(((Uf n0).Bs _).trans (.put (de tv) _)).eW (aJ _) _⟩;have T5:=jx.set (H:=H3.loop rec) (Ft.mono λ_ _ q=>q) tv (r:=mz n a own c w) (by rw[tf];exact wa);exact T5.mono λ_ _ q=>q
structure GM(S:List Nat)(n0:Nat)(h h':ak)(t:Tok):Prop where
 mu:fS S n0 h h'
 can:dj n0 h' t
 ok:cA h'=ah
section
variable {S S':List Nat} {n0:Nat} {h h' h2:ak} {t k:Tok}
def adJ(m:∀n,fS S n h h')(c:dj n0 h t):dj n0 h' t:=by
 rcases c with q|q|⟨i,q,q1,q2⟩
 ·exact .inl q
 ·exact .inr (.inl q)
 ·refine .inr (.inr ⟨i,q,q1,?_⟩);have aA:=tX q2;unfold alive at *
  simp only[bC,yk,Ce,decide_eq_false_iff_not,decide_eq_true_eq] at *
  exact⟨Nat.lt_of_lt_of_le aA (m 0).tn,λhd=>q2.2 ((m (i+1)).dead i (Nat.lt_succ_self _) hd)⟩
def GM.then(g:GM S n0 h h' t)(m:∀n,fS S n h' h2):GM S n0 h h2 t:=⟨g.mu.trans (m n0),adJ m g.can,(m 0).ok g.ok⟩
def GM.app(g:GM S n0 h h' t)(hn:n0<=h.tn):GM S n0 h (h'.app t) (.free h'.tn):=by have G:=Grown.one (n0:=n0) g.can g.ok (fe hn g.mu.tn);exact⟨g.mu.trans G.OM,G.can,G.ok⟩
def GM.refl(hk:dj n0 h t)(ho:cA h=ah):GM S n0 h h t:=⟨.refl,hk,ho⟩
end
def tG:Tryz.f180.results.toList=[.tmp 4]:=au
def jx.swap{H}{tb w i j bi bj}{B}{t}{a b}(T:jx H tb B t w)(hi:B[i]?=aa bi)(hj:B[j]?=aa bj)(ha:t[i]?=aa a)(hb:t[j]?=aa b):
 jx (H.put tb (((B.set i bj).set j bi).map λb=>AV.arr b 0 w w)) tb ((B.set i bj).set j bi) ((t.set i b).set j a) w:=by
 have cH:=(aP.1 hi).1;have ou:=(aP.1 hj).1;have aA:=(aP.1 T.gv).1;have Vn:((B.set i bj).set j bi).Perm B:=by
  have q:=aaN cH ou
  rwa [show B[j]=bj from(aP.1 hj).2,show B[i]=bi from(aP.1 hi).2] at q
 have oP:∀x,x∈(B.set i bj).set j bi->x∈B:=λx hx=>Vn.mem_iff.1 hx;refine⟨ev aA,by simp[T.len],(Vn.nodup_iff).2 T.nd,λk b' r hk hr=>?_,λr hr=>?_,λhx=>T.out (oP _ hx)⟩
 ·have bH:b'≠tb:=λe=>T.out (oP _ (by rw[<-e];exact de hk));rw[cS bH];rw[lR] at hk hr;rw[mn] at hk hr;by_cases e1:j=k
  ·subst e1;rw[aF rfl,aF ou] at hk;rw[aF rfl,aF (by rw[<-T.len];exact ou)] at hr;injection hk with hk;injection hr with hr;subst hk;subst hr;exact T.row i _ _ hi ha
  ·rw[aG e1] at hk hr;rw[lR] at hk hr;by_cases e2:i=k
   ·subst e2;rw[aF rfl,aF cH] at hk;rw[aF rfl,aF (by rw[<-T.len];exact cH)] at hr;injection hk with hk;injection hr with hr;subst hk;subst hr;exact T.row j _ _ hj hb
   ·rw[aG e2] at hk hr;exact T.row k _ _ hk hr
 ·rcases u0 hr with q|q
  ·rcases u0 q with q|q
   ·exact T.wid r q
   ·rw[q];exact T.wid _ (de hb)
  ·rw[q];exact T.wid _ (de ha)
def po(x):fC al 23 1 [(0,.v (.int .i64 x))]=aa (.list .tight 1 [[.v (.int .i64 x)]]):=au
def tY{H}{k}{n0 sz}{es}{x}(hl:es.length<1099511627776)(hs:sz=1∨(es=[]/\k=.nil))(hk:dj n0 H k):
 gq al H #[23,23] (.list k sz (ints es)) (.list .tight 1 [[.v (.int .i64 x)]])=aa (.list (.free H.tn) 1 (ints (es++[x])),H.app k):=by
 obtain⟨i,q1,q2,q3,q4⟩:=Dt;have hb:=pg (ag:es.length+1<=1099511627776) q3;have:=E6 (t0:=23) (t1:=23) (n0:=n0) (i:=i) (sz:=sz) (es:=ints es) (new:=ints [x]) (x:=.list .tight 1 (ints [x])) dJ (.inl ⟨_,dJ⟩) q1 ag (by rw[q2];exact q4) (by rw[q2];rfl) (by simp[ints])
  (by simp only[ints,bu,iW,jI,oF];omega) (by simp only[ints,bu,iW,jI];omega) (hs.imp (λq=>q.trans q2.symm) λq=>⟨by rw[q.1];rfl,q.2⟩) hk
 rw[q2] at this;unfold ints at *
 rw[lU];exact this
def YP{H}{b k x w}{B:List Nat}(hb:H.boxes[b]?=aa (B.map λb=>AV.arr b 0 w w))(hk:k<B.length):ct al H 23 (.ptr (.box b) k) (.arr x 0 w w)=aa (H.put b ((B.set k x).map λb=>AV.arr b 0 w w)):=by rw[gL (xs:=[AV.arr x 0 w w]) rfl iM hb rfl (by rw[bu];exact hk)];congr 2;unfold eE;rw[aaF,zX,aF (by rw[bu];exact hk)];simp
def ajh{n}{a b}:∀x∈iI n a b,okF x:=by intro x hx;unfold iI at hx;obtain⟨i,hi,rfl⟩:=aax hx;rw[List.getElem_zipWith];exact CP _
def aed{c}{a own}(h:∀x∈a,okF x):∀x∈uc c a own,okF x:=by
 intro x hx;unfold uc at hx;split at hx
 ·exact h x hx
 ·rcases uZ.1 hx with q|q
  ·exact h x (oa q)
  ·exact ajh x q
def apE{c}{a}{n}(h:∀x∈a,okF x):∀x∈gX c a n,okF x:=by
 intro x hx;unfold gX at hx;rcases uZ.1 hx with q|q
 ·exact h x (oa q)
 ·obtain⟨y,-,rfl⟩:=jo.1 q;exact Fh _ _
def aeg{c r j}{own}{t}(h:∀a∈t,∀x∈a,okF x):∀a∈px c own r j t,∀x∈a,okF x:=by
 intro a ha;obtain⟨i,hi⟩:=s8 ha;rw[vn] at hi;cases q:t[i]? with
 |none=>rw[q] at hi;cases hi
 |some y=>
  rw[q,Option.map_some] at hi;injection hi with hi;have hy:=h y (de q);rw[<-hi];split
  ·exact aed hy
  ·exact hy
def Yu{c}{a}{n}(hc:c<=a.length):(gX c a n).length=a.length:=by unfold gX;rw[dk,bu,eP,gE];omega
def b7(pv:List Nat):List Int:=pv.map λ(p:Nat)=>(p:Int)
def qB(t:List (List Int))(c:Nat):List (List Int) × List Nat:=(bO c).foldl wy (t,[])
def XD(t)(c):qB t (c+1)=wy (qB t c) c:=by unfold qB;rw[ob,nY];rfl
def XC{t}{w}(hl:∀a∈t,a.length=w)(ho:∀a∈t,∀x∈a,okF x):∀c,c<=w->vd w c (qB t c)/\(qB t c).1.length=t.length/\(qB t c).2.length<=t.length:=by
 intro c
 induction c with
 |zero=>exactλ_=>⟨⟨hl,ho,λ_ _ _ _ j hj=>by omega⟩,rfl,cr _⟩|succ c ih=>
  intro hc;obtain⟨i1,i2,i3⟩:=ih ag;rw[XD];refine⟨by rw[Y1 i1 ag];exact Kr i1 ag,?_⟩;unfold wy;cases hf:nK (qB t c).1 (qB t c).2.length c with|none=>exact⟨i2,i3⟩|some k=>obtain⟨k1,k2,k3⟩:=AB hf;refine⟨by simp[i2],?_⟩;simp only[dk,iW,jI];omega
def Oh(pv):(ints (b7 pv)).length=pv.length:=by unfold ints b7;simp
def XB(t)(many):DV t many=qB t many:=rfl
def ame(h:ak)(tb:Nat)(B:List Nat)(t:List (List Int))(w many:Nat)(T:jx h tb B t w)(hm:many<=w)(hw:w<=1000000)(hn:t.length<=1000000)(bA:∀r∈t,∀x∈r,okF x)(ho:cA h=ah):
 ∃r h',W2.call 180 [.arr tb 0 t.length t.length,im (many:Nat)] h=aa (r,h')/\∃(k:Tok) (s:Nat) (B':List Nat),r=.ret (.list k s (ints (b7 (DV t many).2)))/\(s=1∨(b7 (DV t many).2=[]/\k=.nil))/\jx h' tb B' (DV t many).1 w/\B'.Perm B/\GM (tb::B) h.tn h h' k:=by
 have kT:=aj.mk T;have kok:=aj.mk bA;have kBl:aj (∀b∈B,b<h.boxes.length):=⟨λb hb=>by obtain⟨i,hi⟩:=s8 hb;have cH:=(aP.1 hi).1;exact(aP.1 (T.row i b _ hi (aO (by rw[<-T.len];exact cH)))).1⟩;have z3:=KH;have bx1:∀b n m:Nat,(AV.arr b 0 n m).b8=aa [.arr b 0 n m]:=λ_ _ _=>rfl;have bx2:∀n:Int,(AV.v (.int .i64 n)).b8=aa [.v (.int .i64 n)]:=λ_=>rfl;have g0:GM (tb::B) h.tn h (h.push [.arr tb 0 t.length t.length]) .nil:=⟨fS.refl.push _,.inl rfl,ho⟩;have T0:jx (h.push [.arr tb 0 t.length t.length]) tb B t w:=T.mono λ_ _ q=>bg q;have p0:(h.push [.arr tb 0 t.length t.length]).boxes[h.boxes.length]?=aa [.arr tb 0 t.length t.length]:=a9 _ _;have r0:vd w 0 (qB t 0):=⟨T.wid,bA,λ_ _ _ _ _ q=>absurd q (rU _)⟩;have kk:=aj.mk (ar g0 (ar T0 (ar p0 r0)));clear g0 T0 p0 r0 T bA ho;unfold im at *
 refine df rfl Tryz.func180 rfl ?_;refine bM @tG @bL ?_;refine bG.gen λe0 aD bI cT cJ=>?_;have q2:e0.get 2=.ptr (.box h.boxes.length) 0:=by rw[aD];exact gS
 have q4:e0.get 4=.list .nil 0 (ints (b7 [])):=by rw[aD];exact gR
 have q13:e0.get 13=.v (.int .i64 (many:Nat)):=by rw[aD];exact gS
 have q14:e0.get 14=.v (.int .i64 (0:Nat)):=by rw[aD];exact gR
 have qd:e0.defers=[]:=by rw[bI];exact gS
 clear aD bI cT cJ;refine cq (λm e H=>∃(c:Nat) (B':List Nat) (k:Tok) (s:Nat),c<=many/\m=many - c/\jx H tb B' (qB t c).1 w/\B'.Perm B/\H.boxes[h.boxes.length]?=aa [.arr tb 0 t.length t.length]/\e.get 2=.ptr (.box h.boxes.length) 0/\e.get 4=.list k s (ints (b7 (qB t c).2))/\(s=1∨(b7 (qB t c).2=[]/\k=.nil))/\e.get 13=.v (.int .i64 (many:Nat))/\e.get 14=.v (.int .i64 (c:Nat))/\e.defers=[]/\GM (tb::B) h.tn h H k) ?_ many _ _ ?_;rotate_left 1
 ·exact⟨0,B,.nil,0,cr _,rfl,kk.out.2.1,.refl _,kk.out.2.2.1,q2,q4,.inr ⟨rfl,rfl⟩,q13,q14,qd,kk.out.1⟩
 clear kk q2 q4 q13 q14 qd;rintro m e H ⟨c,B',tk,s,hc,rfl,T',hP,fk,g2,g4,hs,g13,g14,hd,hG⟩;have kT':=aj.mk T';have kP:=aj.mk hP;have ks:=aj.mk hs;have kG:=aj.mk hG;obtain⟨R,i2,i3⟩:=XC kT.out.wid kok.out c ag;have kR:=aj.mk R;clear T' hP hG R;by_cases aA:c<many;rotate_left 1
 ·have:c=many:=by omega
  subst this;clear fk i2 i3 hs;refine br @tG ?_;refine⟨_,_,rfl,tk,s,B',?_⟩;rw[XB];exact⟨rfl,ks.out,kT'.out,kP.out,kG.out⟩
 have rS:=XD t c;generalize bZ:qB t c=st at *
 obtain⟨t',pv⟩:=st;dsimp only at *
 have cO:=Oh pv;have u23:=dJ;have u203:=EW;have s0:∀n,ct al (H.push [.v (.int .i64 0)]) 3 (.ptr (.box H.boxes.length) 0) (.v (.int .i64 n))=aa (H.push [.v (.int .i64 n)]):=λn=>lq rfl fP rfl rfl;have l0:∀n,aI al Gt (H.push [.v (.int .i64 n)]) 3 (.ptr (.box H.boxes.length) 0)=aa (.v (.int .i64 n)):=λn=>kQ (a9 _ _);refine bM @tG @bL ?_;refine bG.gen λe0 aD bI cT cJ=>?_;have f2:e0.get 2=.ptr (.box h.boxes.length) 0:=by rw[aD];simp only[gW,reduceIte,aX,aR,g2]
 have f4:e0.get 4=.list tk s (ints (b7 pv)):=by rw[aD];simp only[gW,reduceIte,aX,aR,g4]
 have f5:e0.get 5=.v (.int .i64 (c:Nat)):=by rw[aD];simp only[gW,reduceIte,aX,aR,g14]
 have f6:e0.get 6=.ptr (.box H.boxes.length) 0:=by rw[aD];exact gS
 have f7:e0.get 7=.v (.int .i64 (pv.length:Nat)):=by rw[aD];exact gS
 have f13:e0.get 13=.v (.int .i64 (many:Nat)):=by rw[aD];simp only[gW,reduceIte,aX,aR,g13]
 have f14:e0.get 14=.v (.int .i64 (c:Nat)):=by rw[aD];simp only[gW,reduceIte,aX,aR,g14]
 have fd:e0.defers=[]:=by rw[bI];simp only[gW,reduceIte,aX,aR];exact hd
 clear aD bI cT cJ g2 g4 g13 g14 hd;have T2:jx (H.push [.v (.int .i64 (pv.length:Nat))]) tb B' t' w:=kT'.out.mono λ_ _ q=>bg q;have G2:GM (tb::B) h.tn h (H.push [.v (.int .i64 (pv.length:Nat))]) tk:=kG.out.then λ_=>fS.refl.push _;have b2:(H.push [.v (.int .i64 (pv.length:Nat))]).boxes[h.boxes.length]?=aa [.arr tb 0 t.length t.length]:=bg fk;have b3:(H.push [.v (.int .i64 (pv.length:Nat))]).boxes[H.boxes.length]?=aa [.v (.int .i64 (pv.length:Nat))]:=a9 _ _;have uk:(H.push [.v (.int .i64 (pv.length:Nat))]).boxes.length=H.boxes.length+1:=cK _ _;have hhl:h.boxes.length<H.boxes.length:=(aP.1 fk).1;generalize H.push [.v (.int .i64 (pv.length:Nat))]=H2 at *
 clear kT' kG s0 l0 fk;have kT2:=aj.mk T2;have kG2:=aj.mk G2;have kl:=aj.mk uk;have l2:=vT b2;have l3:=kQ b3;have kb2:=aj.mk b2;have kb3:=aj.mk b3;clear T2 G2 uk b2 b3;generalize hHn:H.boxes.length=hl at *
 clear hHn;refine cq (λm e H3=>∃j:Nat,pv.length<=j/\j<=t.length/\m=t.length - j/\aj (∀k,pv.length<=k->k<j->ai (t'.getD k []) c=0)/\e.get 2=.ptr (.box h.boxes.length) 0/\e.get 4=.list tk s (ints (b7 pv))/\e.get 5=.v (.int .i64 (c:Nat))/\e.get 6=.ptr (.box hl) 0/\e.get 7=.v (.int .i64 (j:Nat))/\e.get 13=.v (.int .i64 (many:Nat))/\e.get 14=.v (.int .i64 (c:Nat))/\e.defers=[]/\H3=H2) ?_ (t.length - pv.length) _ _ ?_;rotate_left 1
 ·exact⟨pv.length,aJ _,i3,rfl,⟨λk h1 h2=>absurd h1 ag⟩,f2,f4,f5,f6,f7,f13,f14,fd,rfl⟩
 clear f2 f4 f5 f6 f7 f13 f14 fd;rintro m e3 H2 ⟨j,UT,UU,rfl,kz,g2,g4,g5,g6,g7,g13,g14,hd,rfl⟩;by_cases ou:j<t.length;rotate_left 1
 ·have nO:j=t.length:=by omega
  subst nO;have AZ:=Iu (t:=t') (c:=c) UT ag kz.out (λq=>absurd q ag);rw[aF ag] at AZ;have bZ:qB t (c+1)=(t',pv):=by rw[rS];unfold wy;simp only[AZ]
  have khst:=aj.mk bZ;clear AZ bZ rS;refine br @tG ?_;refine⟨many - (c+1),by omega,c+1,B',tk,s,by omega,rfl,?_⟩;rw[khst.out];exact⟨kT2.out,kP.out,kb2.out,aQ,rfl,ks.out,aQ,by simp,aQ,kG2.out⟩
 obtain⟨b,hb⟩:∃b,t'[j]?=aa b:=⟨_,aO ag⟩;obtain⟨bj,uo⟩:∃b,B'[j]?=aa b:=⟨_,aO (by rw[kT2.out.len];omega)⟩;have wb:=kT2.out.wid b (de hb);have dF:=kT2.out.row j bj b uo hb;have ixj:=Dw (b:=tb) (len:=t.length) (aB:=t.length) (k:=.i64) ou;have ixc:=pQ (b:=bj) (len:=w) (aB:=w) (k:=.i64) (ag:c<w);have vD:(B'.map λb=>AV.arr b 0 w w)[j]?=aa (.arr bj 0 w w):=by rw[dW,uo];rfl
 have m1:=sM kT2.out.gv vD;have m2:=xQ dF (vW (k:=c) ag);have gDj:t'.getD j []=b:=by rw[dP,hb];rfl
 have khr:=aj.mk dF;clear dF;by_cases hzero:ai b c=0
 ·have gI:∀k,pv.length<=k->k<j+1->ai (t'.getD k []) c=0:=by
   intro k h1 h2;rcases dI k j with q|q
   ·exact kz.out k h1 q
   ·rw[(ag:k=j),gDj];exact hzero
  have kz2:=aj.mk gI;rw[hzero] at m2;clear gI kz gDj hzero vD rS;unfold im at *
  refine br @tG ?_;exact⟨t.length - (j+1),by omega,j+1,by omega,by omega,rfl,kz2,aQ,aQ,aQ,aQ,by simp,aQ,aQ,aQ,aQ⟩
 have AZ:=Iu (t:=t') (c:=c) UT ag kz.out (λ_=>by rw[gDj];exact hzero);rw[aG ag] at AZ;obtain⟨o,ho⟩:∃b,t'[pv.length]?=aa b:=⟨_,aO ag⟩;obtain⟨bo,vC⟩:∃b,B'[pv.length]?=aa b:=⟨_,aO (by rw[kT2.out.len];omega)⟩;have nk:=aqJ AZ hb ho;rw[<-rS] at nk;have kgo:=aj.mk nk;have kne:=aj.mk hzero;have okb:=kR.out.ok b (de hb);have nz:=xT (pk okb c);have ixr:=Dw (b:=tb) (len:=t.length) (aB:=t.length) (k:=.i64) (ag:pv.length<t.length);have UF:(B'.map λb=>AV.arr b 0 w w)[pv.length]?=aa (.arr bo 0 w w):=by rw[dW,vC];rfl
 have m3:=sM kT2.out.gv UF;have T3:=jx.swap kT2.out vC uo ho hb;have nb1:bj<h.boxes.length:=kBl.out bj (kP.out.mem_iff.1 (de uo));have nb2:tb≠bj:=λe=>kT2.out.out (by rw[e];exact de uo);have atr:=(aP.1 kT.out.gv).1;have U5:h.boxes.length≠tb:=by omega
 have ah1:hl≠tb:=by omega
 have s1:=YP (w:=w) (x:=bj) (k:=pv.length) kT2.out.gv (by rw[kT2.out.len];omega);have gu:(H2.put tb ((B'.set pv.length bj).map λb=>AV.arr b 0 w w)).boxes[tb]?=aa ((B'.set pv.length bj).map λb=>AV.arr b 0 w w):=ev (aP.1 kT2.out.gv).1;have s2:=YP (w:=w) (x:=bo) (k:=j) gu (by rw[mn,kT2.out.len];omega);rw[JJ] at s2;have l2b:aI al Gt (H2.put tb ((B'.set pv.length bj).map λb=>AV.arr b 0 w w)) 203 (.ptr (.box h.boxes.length) 0)=aa (.arr tb 0 t.length t.length):=vT ((cS U5).trans kb2.out);have G3:GM (tb::B) h.tn h (H2.put tb (((B'.set pv.length bj).set j bo).map λb=>AV.arr b 0 w w)) tk:=kG2.out.then λ_=>.put (fR) _;have b2:(H2.put tb (((B'.set pv.length bj).set j bo).map λb=>AV.arr b 0 w w)).boxes[h.boxes.length]?=aa [.arr tb 0 t.length t.length]:=(cS U5).trans kb2.out;have b3:(H2.put tb (((B'.set pv.length bj).set j bo).map λb=>AV.arr b 0 w w)).boxes[hl]?=aa [.v (.int .i64 (pv.length:Nat))]:=(cS ah1).trans kb3.out;have ML:(H2.put tb (((B'.set pv.length bj).set j bo).map λb=>AV.arr b 0 w w)).boxes.length=H2.boxes.length:=mh _ _ _;have IG:((B'.set pv.length bj).set j bo).Perm B:=by have q:=aaN (aP.1 vC).1 (aP.1 uo).1;rw[show B'[j]'(aP.1 uo).1=bj from(aP.1 uo).2,show B'[pv.length]'(aP.1 vC).1=bo from(aP.1 vC).2] at q;exact q.trans kP.out
 have vx:((B'.set pv.length bj).set j bo)[pv.length]?=aa bj:=by
  rw[lR];by_cases q:j=pv.length
  ·rw[aF q,aF (by rw[mn,kT2.out.len];omega)];rw[q,vC] at uo;exact uo
  ·rw[aG q,K5 (aP.1 vC).1]
 have xE:((t'.set pv.length b).set j o)[pv.length]?=aa b:=by
  rw[lR];by_cases q:j=pv.length
  ·rw[aF q,aF (by rw[mn];omega)];rw[q,ho] at hb;exact hb
  ·rw[aG q,K5 ag]
 have VA:((t'.set pv.length b).set j o).length=t.length:=by rw[mn,mn];exact i2
 have U8:∀a∈(t'.set pv.length b).set j o,∀x∈a,okF x:=by
  intro a ha;rcases u0 ha with q|q
  ·rcases u0 q with q|q
   ·exact kR.out.ok a q
   ·rw[q];exact okb
  ·rw[q];exact kR.out.ok o (de ho)
 have kok3:=aj.mk (ar U8 (ar okb VA));clear U8 VA;generalize (t'.set pv.length b).set j o=t3 at *
 generalize (B'.set pv.length bj).set j bo=B3 at *
 obtain⟨H3,vy⟩:∃H3,H2.put tb (B3.map λb=>AV.arr b 0 w w)=H3:=⟨_,rfl⟩;rw[vy] at s2 T3 G3 b2 b3 ML;have kP3:=aj.mk IG;clear vy gu IG nk AZ kz gDj hb ho rS bZ;have l23:=vT b2;have l33:=kQ b3;have su:(B3.map λb=>AV.arr b 0 w w)[pv.length]?=aa (.arr bj 0 w w):=by rw[dW,vx];rfl
 have m13:=sM T3.gv su;have NZ:=T3.row pv.length bj b vx xE;have m23:=xQ NZ (vW (k:=c) ag);have vI:fmod (ai b c)=ai b c:=AH (pk okb c);have ci:=λh=>aiB (ai b c) h;rw[vI] at ci;simp only[aG hzero] at ci;have kokz:aj (0<=dV (ai b c)/\dV (ai b c)<=9223372036854775807):=⟨xT (Mp _)⟩;have asY:tb<H3.boxes.length:=(aP.1 T3.gv).1;have as2:bj<H3.boxes.length:=(aP.1 NZ).1;have hh3:h.boxes.length<H3.boxes.length:=(aP.1 b2).1;have as6:hl<H3.boxes.length:=(aP.1 b3).1;generalize hz:ai b c=z at *
 have kfz:aj (okF (dV z)):=⟨Mp _⟩;generalize hf:dV z=fz at *
 have s5:ct al (H3.push [.v (.int .i64 0)]) 3 (.ptr (.box H3.boxes.length) 0) (.v (.int .i64 fz))=aa (H3.push [.v (.int .i64 fz)]):=lq rfl fP rfl rfl;have T4:jx (H3.push [.v (.int .i64 fz)]) tb B3 t3 w:=T3.mono λ_ _ q=>bg q;have G4:GM (tb::B) h.tn h (H3.push [.v (.int .i64 fz)]) tk:=G3.then λ_=>fS.refl.push _;have b24:(H3.push [.v (.int .i64 fz)]).boxes[h.boxes.length]?=aa [.arr tb 0 t.length t.length]:=bg b2;have b34:(H3.push [.v (.int .i64 fz)]).boxes[hl]?=aa [.v (.int .i64 (pv.length:Nat))]:=bg b3;have b44:(H3.push [.v (.int .i64 fz)]).boxes[H3.boxes.length]?=aa [.v (.int .i64 fz)]:=a9 _ _;have Fo:(H3.push [.v (.int .i64 fz)]).boxes.length=H3.boxes.length+1:=cK _ _;have kH3:=aj.mk ML;obtain⟨H4,yS⟩:∃H4,H3.push [.v (.int .i64 fz)]=H4:=⟨_,rfl⟩;rw[yS] at s5 T4 G4 b24 b34 b44 Fo;have l24:=vT b24;have l34:=kQ b34;have m14:=sM T4.gv su;have af:=RN bj w c H4;have kT4:=aj.mk T4;have kG4:=aj.mk G4;have kb4:=aj.mk (ar b24 (ar b34 (ar b44 (ar Fo (ar vx xE)))));unfold im at af m2 m23 ci;clear yS T4 G4 b24 b34 b44 Fo T3 G3 b2 b3 ML NZ su vx xE vI vD UF vC uo;refine br @tG ?_;refine mW [(2,13)] yE au (λp hp=>?_) ?_
 ·simp only[mo] at hp;subst hp;refine zH (x:=.ptr (.box h.boxes.length) 0) (v:=.arr tb 0 t.length t.length) au rfl rfl rfl au (by simp[eT,mj]) ?_ ?_<;>(simp only[hJ,fB];exact jL @tG @and_self)
 refine br @tG ?_;refine bG.gen λe4 iY rk vM tA=>?_;have f2:e4.get 2=.ptr (.box h.boxes.length) 0:=by rw[iY];simp only[gW,reduceIte,aX,aR];exact g2
 have f4:e4.get 4=.list tk s (ints (b7 pv)):=by rw[iY];simp only[gW,reduceIte,aX,aR];exact g4
 have f5:e4.get 5=.v (.int .i64 (c:Nat)):=by rw[iY];simp only[gW,reduceIte,aX,aR];exact g5
 have f6:e4.get 6=.ptr (.box hl) 0:=by rw[iY];simp only[gW,reduceIte,aX,aR];exact g6
 have f8:e4.get 8=.ptr (.box H3.boxes.length) 0:=by rw[iY];exact gS
 have f13:e4.get 13=.v (.int .i64 (many:Nat)):=by rw[iY];simp only[gW,reduceIte,aX,aR];exact g13
 have f14:e4.get 14=.v (.int .i64 (c:Nat)):=by rw[iY];simp only[gW,reduceIte,aX,aR];exact g14
 have f70:e4.get 70=.func (.func 219) [] [.ptr (.box (H4.boxes.length+1)) 0,.ptr (.box H4.boxes.length) 0]:=by rw[iY];exact gS
 have fd:e4.defers=[]:=by rw[rk];simp only[gW,reduceIte,aX,aR];exact hd
 clear iY rk vM tA g2 g4 g5 g6 g7 g13 g14 hd;refine D7 (by rw[Ax];exact f70) λrec w1 w2 w3 w4 w5 w6=>?_;obtain⟨b24,b34,b44,Fo,vx,xE⟩:=kb4.out;have T5:jx ((H4.push [.arr bj 0 w w]).push [.v (.int .i64 (c:Nat))]) tb B3 t3 w:=kT4.out.mono λ_ _ q=>bg (bg q);have G5:GM (tb::B) h.tn h ((H4.push [.arr bj 0 w w]).push [.v (.int .i64 (c:Nat))]) tk:=kG4.out.then λ_=>(fS.refl.push _).push _;have b25:((H4.push [.arr bj 0 w w]).push [.v (.int .i64 (c:Nat))]).boxes[h.boxes.length]?=aa [.arr tb 0 t.length t.length]:=bg (bg b24);have b35:((H4.push [.arr bj 0 w w]).push [.v (.int .i64 (c:Nat))]).boxes[hl]?=aa [.v (.int .i64 (pv.length:Nat))]:=bg (bg b34);have b45:((H4.push [.arr bj 0 w w]).push [.v (.int .i64 (c:Nat))]).boxes[H3.boxes.length]?=aa [.v (.int .i64 fz)]:=bg (bg b44);have b55:((H4.push [.arr bj 0 w w]).push [.v (.int .i64 (c:Nat))]).boxes[H4.boxes.length]?=aa [.arr bj 0 w w]:=bg (a9 _ _);have b65:((H4.push [.arr bj 0 w w]).push [.v (.int .i64 (c:Nat))]).boxes[H4.boxes.length+1]?=aa [.v (.int .i64 (c:Nat))]:=mB (by rw[cK]);have agW:((H4.push [.arr bj 0 w w]).push [.v (.int .i64 (c:Nat))]).boxes.length=H4.boxes.length+2:=by rw[cK,cK]
 generalize (H4.push [.arr bj 0 w w]).push [.v (.int .i64 (c:Nat))]=H5 at *
 clear l2 l3 l23 l33 m1 m2 m3 m13 m23 ci s1 s2 l2b s5 l24 l34 m14 af kb4 kT4 kG4 kb2 kb3 kT2 kG2 khr;have dF:=T5.row pv.length bj b vx xE;have js:=(aP.1 dF).1;have iR:(H5.loop rec).loops[H5.loops.length]?=aa rec:=@DI H5 rec;have I1:∀(k:Nat) (H:ak),H=(H5.loop rec).put bj ((jU (λi=>b9 (ai b i) fz) b c k).map im)->H.boxes[H4.boxes.length+1]?=aa [im (c:Nat)]/\H.boxes[H4.boxes.length]?=aa [.arr bj 0 w w]/\(k<w->∃cs,H.boxes[bj]?=aa cs/\cs[k]?=aa (im (ai b k))):=by
  rintro k H rfl;refine⟨?_,?_,λhk=>⟨_,ev js,?_⟩⟩
  ·rw[cS ag];exact b65
  ·rw[cS ag];exact b55
  ·have:=vW (r:=jU (λi=>b9 (ai b i) fz) b c k) (k:=k) (by rw[qY];omega);rw[CE ag,aG ag] at this;exact this
 have I2:∀(k:Nat) (H:ak),c<=k->k<w->H=(H5.loop rec).put bj ((jU (λi=>b9 (ai b i) fz) b c k).map im)->∃H',W2.round H5.loops.length [im (k:Nat),im (ai b k)] H=aa (.ret (.v (.bool ah)),H')/\H'=(H5.loop rec).put bj ((jU (λi=>b9 (ai b i) fz) b c (k+1)).map im):=by
  rintro k H y9 C9 rfl;refine JR (Post:=λH=>H=(H5.loop rec).put bj ((jU (λi=>b9 (ai b i) fz) b c (k+1)).map im)) iR (by rw[w2];rfl) w5 w6 ?_;have kq:=S3 (f:=λi=>b9 (ai b i) fz) y9 (ag:k<b.length);have r1:∀t,(nx H5.loops.length rec [im (k:Nat),im (ai b k)]).get t=if 72=t then im (ai b k) else if 71=t then im (k:Nat) else e4.get t:=λt=>JQ w2 w1
  have d1:(nx H5.loops.length rec [im (k:Nat),im (ai b k)]).defers=[]:=rfl;obtain⟨K,hK⟩:∃K,((H5.loop rec).put bj ((jU (λi=>b9 (ai b i) fz) b c k).map im)).busy H5.loops.length rec=K:=⟨_,rfl⟩;rw[hK];have c1:K.boxes[bj]?=aa ((jU (λi=>b9 (ai b i) fz) b c k).map im):=by rw[<-hK];exact ev js
  have c2:K.boxes[h.boxes.length]?=aa [.arr tb 0 t.length t.length]:=by rw[<-hK];exact(cS ag).trans b25
  have c3:K.boxes[hl]?=aa [.v (.int .i64 (pv.length:Nat))]:=by rw[<-hK];exact(cS ag).trans b35
  have c4:K.boxes[H3.boxes.length]?=aa [im fz]:=by rw[<-hK];exact(cS ag).trans b45
  have c5:K.boxes[tb]?=aa (B3.map λb=>AV.arr b 0 w w):=by rw[<-hK];exact(cS nb2).trans T5.gv
  have su:(B3.map λb=>AV.arr b 0 w w)[pv.length]?=aa (.arr bj 0 w w):=by rw[dW,vx];rfl
  have m2:=vT c2;have m3:=kQ c3;have m4:=kQ c4;have m5:=sM c5 su;have Dy:=pQ (b:=bj) (len:=w) (aB:=w) (k:=.i64) C9;have sk:=yd (r:=jU (λi=>b9 (ai b i) fz) b c k) (k:=k) (x:=b9 (ai b k) fz) c1 (by rw[qY];omega);rw[kq] at sk;have uH:=xT (pk okb k);have f1:=λh=>OJ (ai b k) fz h;clear dF b25 b35 b45 b55 b65 T5 G5 c1 c2 c3 c4 c5 kq su I1 okb f70 ixj ixc;generalize b9 (ai b k) fz=z1 at *
  generalize ai b k=z2 at *
  unfold im at *
  rw[w3,w4];refine xd ?_;refine⟨aQ,aQ,?_⟩;refine bG.gen λe2 eV gu mF Dj=>?_;have q2:e2.get 2=.ptr (.box h.boxes.length) 0:=by rw[eV];simp only[gW,reduceIte,aX,aR,r1];exact f2
  have q6:e2.get 6=.ptr (.box hl) 0:=by rw[eV];simp only[gW,reduceIte,aX,aR,r1];exact f6
  have q8:e2.get 8=.ptr (.box H3.boxes.length) 0:=by rw[eV];simp only[gW,reduceIte,aX,aR,r1];exact f8
  have q10:e2.get 10=.v (.int .i64 k):=by rw[eV];simp only[gW,reduceIte,aX,aR,r1]
  have q11:e2.get 11=.v (.int .i64 z2):=by rw[eV];simp only[gW,reduceIte,aX,aR,r1]
  clear eV gu mF Dj r1 d1
  repeat' (first|simp(maxSteps:=999999)(disch:=first|exact dZ|fail)only[gW,reduceIte,aX,aR, *]|(refine dX ?_ ?_<;>(intro _;try omega))|refine ey yE au ?_)
  rw[<-hK];simp only[ak.put,ak.busy,ak.loop,Ch];exact⟨aQ,aQ,aQ⟩
 obtain⟨h',c1,c2⟩:=RP H5.loops.length (H4.boxes.length+1) H4.boxes.length bj w c b (λk H=>H=(H5.loop rec).put bj ((jU (λi=>b9 (ai b i) fz) b c k).map im)) I1 I2 ag hw ((H5.loop rec).put bj ((jU (λi=>b9 (ai b i) fz) b c c).map im)) rfl;have e3:H5.loop rec=(H5.loop rec).put bj ((jU (λi=>b9 (ai b i) fz) b c c).map im):=by rw[S4];exact(rL (h:=H5.loop rec) dF).symm
 rw[<-e3] at c1;have e4':jU (λi=>b9 (ai b i) fz) b c w=gX c b fz:=by rw[<-wb];exact aeY ag
 rw[e4'] at c2;subst c2;clear e3 I1 I2 e4';refine⟨_,_,c1,rec,iR,by rw[w5];decide,.inl ⟨w6,?_⟩⟩;clear c1;have IF:h.loops.length<=H5.loops.length:=by
  have:=G5.mu.loop;rcases dI H5.loops.length h.loops.length with q|q
  ·have:=(aP.1 (this _ _ (aO q))).1;omega
  ·exact q
 have okt:=kok3.out;have Fv:bj∈B:=kP3.out.mem_iff.1 (de vx);have T6:jx (((H5.loop rec).put bj ((gX c b fz).map im)).eW H5.loops.length {rec with state:=.exhausted}) tb B3 (t3.set pv.length (gX c b fz)) w:=by have q:=jx.set (H:=H5.loop rec) (T5.mono λ_ _ q=>q) vx (r:=gX c b fz) (by rw[Yu ag];exact wb);exact q.mono λ_ _ q=>q
 have G6:GM (tb::B) h.tn h (((H5.loop rec).put bj ((gX c b fz).map im)).eW H5.loops.length {rec with state:=.exhausted}) tk:=⟨((G5.mu.Bs rec).trans (.put (fi _ Fv) _)).eW IF _,G5.can,G5.ok⟩;have b26:(((H5.loop rec).put bj ((gX c b fz).map im)).eW H5.loops.length {rec with state:=.exhausted}).boxes[h.boxes.length]?=aa [.arr tb 0 t.length t.length]:=(cS ag).trans b25;have b36:(((H5.loop rec).put bj ((gX c b fz).map im)).eW H5.loops.length {rec with state:=.exhausted}).boxes[hl]?=aa [.v (.int .i64 (pv.length:Nat))]:=(cS ag).trans b35;have Vp:(t3.set pv.length (gX c b fz))[pv.length]?=aa (gX c b fz):=K5 (aP.1 xE).1;have ok4:∀a∈t3.set pv.length (gX c b fz),∀x∈a,okF x:=by
  intro a ha;rcases u0 ha with q|q
  ·exact okt.1 a q
  ·rw[q];exact apE okb
 have FH:(t3.set pv.length (gX c b fz)).length=t.length:=by rw[mn];exact okt.2.2
 have nk:=kgo.out;rw[i2] at nk;have T7:jx (((H5.loop rec).put bj ((gX c b fz).map im)).eW H5.loops.length {rec with state:=.exhausted}) tb B3 (px c (gX c b fz) pv.length 0 (t3.set pv.length (gX c b fz))) w:=by rw[ael];exact T6
 have hso:(gX c b fz).length=w:=by rw[Yu ag];exact wb
 generalize (((H5.loop rec).put bj ((gX c b fz).map im)).eW H5.loops.length {rec with state:=.exhausted})=H6 at *
 clear T6 iR dF b25 b35 b45 b55 b65 T5 G5 agW js w1 w2 w3 w4 w5 w6 IF vx xE okt f70 f8 Fo ixj ixr ixc;have l26:=vT b26;have l36:=kQ b36;generalize gX c b fz=own at *
 generalize t3.set pv.length own=t4 at *
 have k7:=aj.mk (ar T7 (ar G6 (ar b26 b36)));have kok4:=aj.mk (ar ok4 (ar Vp (ar FH nk)));clear T7 G6 b26 b36 ok4 Vp nk okb kok3 FH;refine br @tG ?_;refine bG.gen λe5 xo UC hp5 NV=>?_;have r2:e5.get 2=.ptr (.box h.boxes.length) 0:=by rw[xo];simp only[gW,reduceIte,aX,aR];exact f2
 have r4:e5.get 4=.list tk s (ints (b7 pv)):=by rw[xo];simp only[gW,reduceIte,aX,aR];exact f4
 have r5:e5.get 5=.v (.int .i64 (c:Nat)):=by rw[xo];simp only[gW,reduceIte,aX,aR];exact f5
 have r6:e5.get 6=.ptr (.box hl) 0:=by rw[xo];simp only[gW,reduceIte,aX,aR];exact f6
 have r13:e5.get 13=.v (.int .i64 (many:Nat)):=by rw[xo];simp only[gW,reduceIte,aX,aR];exact f13
 have r14:e5.get 14=.v (.int .i64 (c:Nat)):=by rw[xo];simp only[gW,reduceIte,aX,aR];exact f14
 have r83:e5.get 83=.v (.int .i64 (t.length:Nat)):=by rw[xo];exact gS
 have r84:e5.get 84=.v (.int .i64 (0:Nat)):=by rw[xo];exact gR
 have rd:e5.defers=[]:=by rw[UC];simp only[gW,reduceIte,aX,aR];exact fd
 clear xo UC hp5 NV f2 f4 f5 f6 f13 f14 fd l26 l36;refine cq (λm e H=>∃i:Nat,i<=t.length/\m=t.length - i/\aj (jx H tb B3 (px c own pv.length i t4) w)/\aj (GM (tb::B) h.tn h H tk)/\aj (H.boxes[h.boxes.length]?=aa [.arr tb 0 t.length t.length])/\aj (H.boxes[hl]?=aa [.v (.int .i64 (pv.length:Nat))])/\e.get 2=.ptr (.box h.boxes.length) 0/\e.get 4=.list tk s (ints (b7 pv))/\e.get 5=.v (.int .i64 (c:Nat))/\e.get 6=.ptr (.box hl) 0/\e.get 13=.v (.int .i64 (many:Nat))/\e.get 14=.v (.int .i64 (c:Nat))/\e.get 83=.v (.int .i64 (t.length:Nat))/\e.get 84=.v (.int .i64 (i:Nat))/\e.defers=[]) ?_ t.length _ _ ?_;rotate_left 1
 ·exact⟨0,cr _,rfl,⟨k7.out.1⟩,⟨k7.out.2.1⟩,⟨k7.out.2.2.1⟩,⟨k7.out.2.2.2⟩,r2,r4,r5,r6,r13,r14,r83,r84,rd⟩
 clear r2 r4 r5 r6 r13 r14 r83 r84 rd k7;rintro m e6 K ⟨i,hi,rfl,kT7,kG7,kb7,kc7,g2,g4,g5,g6,g13,g14,g83,g84,hd⟩;have l27:=vT kb7.out;have l37:=kQ kc7.out;by_cases hit:i<t.length;rotate_left 1
 ·have fK:i=t.length:=by omega
  subst fK;have bl:=po (c:Int);have ap:=tY (x:=(c:Int)) (show(b7 pv).length<1099511627776 by unfold b7;rw[bu];omega) hs kG7.out.can;refine br @tG ?_;refine⟨many - (c+1),by omega,c+1,B3,.free K.tn,1,by omega,rfl,?_⟩;rw[kok4.out.2.2.2];have FH:=kok4.out.2.2.1;rw[<-FH] at kT7;have ee:b7 (pv++[c])=b7 pv++[(c:Int)]:=by unfold b7;simp
  dsimp only;rw[ee];exact⟨by rw[<-FH];exact kT7.out.mono λ_ _ q=>by rw[eu];exact q,kP3.out,by rw[eu];exact kb7.out,aQ,rfl,.inl rfl,aQ,by simp,aQ,kG7.out.app (aJ _)⟩
 have TX:B3.length=t.length:=by rw[kT7.out.len,SR];exact kok4.out.2.2.1
 by_cases Nl:i=pv.length
 ·subst Nl;have T8:=kT7.out;rw[<-aej] at T8;have kT8:=aj.mk T8;clear T8;refine br @tG ?_;exact⟨t.length - (pv.length+1),by omega,pv.length+1,by omega,rfl,kT8,aQ,aQ,aQ,aQ,aQ,aQ,aQ,aQ,aQ,aQ,by simp,aQ⟩
 ·obtain⟨a,ha⟩:∃a,t4[i]?=aa a:=⟨_,aO (by rw[kok4.out.2.2.1];exact hit)⟩;obtain⟨K2,c1,c2,c3⟩:=aee K tb B3 (px c own pv.length i t4) w i pv.length c a own kT7.out (aei.trans ha) (aeh.trans kok4.out.2.1) Nl ag hw (aeg kok4.out.1);rw[aek ha Nl] at c2;rw[TX] at c1;have cM:∀n0,fS (tb::B) n0 K K2:=λn0=>(c3 n0).mono λb hb=>fi _ (kP3.out.mem_iff.1 hb);have Fv:∀b∈B3,b<h.boxes.length:=λb hb=>kBl.out b (kP3.out.mem_iff.1 hb);have kb8:=aj.mk ((c3 0).box _ _ (λq=>absurd (Fv _ q) ag) kb7.out);have kc8:=aj.mk ((c3 0).box _ _ (λq=>absurd (Fv _ q) ag) kc7.out);have kG8:=aj.mk (kG7.out.then cM);have kT8:=aj.mk c2;have as7:¬((i:Int)=(pv.length:Int)):=by omega
  clear c2 c3 cM Fv ha TX kT7 kG7 kb7 kc7;unfold im at c1;refine br @tG ?_;exact⟨t.length - (i+1),by omega,i+1,by omega,rfl,kT8,aQ,aQ,aQ,aQ,aQ,aQ,aQ,aQ,aQ,aQ,by simp,aQ⟩
def IL(x:AV)(l:List Int):Prop:=∃k s,x=.list k s (ints l)/\(l≠[]->s=1)
def RL(x:AV)(ae:List (List Int)):Prop:=∃(k:Tok) (s:Nat) (xs:List AV),x=.list k s (xs.map λa=>[a])/\(ae≠[]->s=1)/\xs.length=ae.length/\∀(i:Nat) (a:AV) (r:List Int),xs[i]?=aa a->ae[i]?=aa r->IL a r
def ain{l}{i}(h:i<l.length):(ints l)[i]?=aa [.v (.int .i64 (ai l i))]:=by unfold ints xK;rw[dW,aO h,fI h];rfl
def e7{H}{l}{i s}(h:i<l.length):aI al Gt H 3 (.elem s (ints l) i 0)=aa (.v (.int .i64 (ai l i))):=by rw[qw eM (ain h)];rfl
def jY{H}{xs:List AV}{i s}{x}(h:xs[i]?=aa x):aI al Gt H 23 (.elem s (xs.map λa=>[a]) i 0)=aa x:=by rw[qw oI (row:=[x]) (by rw[dW,h];rfl)];rfl
def DY:Tryz.f179.results.toList=[.tmp 4]:=au
def aoF:Tryz.f199.results.toList=[]:=au
def vG(w:Nat)(B:List Nat):List AV:=B.map λb=>AV.arr b 0 w w
def KR(H:ak)(B:List Nat)(tb base:Nat)(cur:AV)(l:List Int):Prop:=(l=[]/\cur=.list .nil 0 [])∨(l≠[]/\∃b,cur=.arr b 0 l.length l.length/\H.boxes[b]?=aa (l.map im)/\b∉B/\b≠tb/\base<=b)
def arB{h0 H}{B}{tb}{cur}{l}(hc:KR H B tb h0.boxes.length cur l)(hx:Ext h0 H)(hb:h0.boxes.length<=tb)(x)(hl:l.length<1000000)(hB:∀b∈B,b<H.boxes.length)(VB:tb<H.boxes.length):
 ∃H2,qI al H #[23,23] cur (.list .tight 1 [[.v (.int .i64 x)]])=aa (.arr H.boxes.length 0 (l.length+1) (l.length+1),H2)/\KR H2 B tb h0.boxes.length (.arr H.boxes.length 0 (l.length+1) (l.length+1)) (l++[x])/\Ext h0 H2/\H2.loops=H.loops/\H2.boxes.length=H.boxes.length+1/\∀c cs,(c∈B∨c=tb)->H.boxes[c]?=aa cs->H2.boxes[c]?=aa cs:=by
 obtain⟨i,q1,q2,q3,q4⟩:=Dt;have tu:=pg (ag:l.length+1<=1000000) q3;have hlen:=hx.len;rcases hc with⟨rfl,rfl⟩|⟨bH,b,rfl,h1,h2,h3,h4⟩
 ·have:=Kz (h:=H) (k:=.nil) (sz:=0) (es:=[]) (new:=[[.v (.int .i64 x)]]) (x:=.list .tight 1 [[.v (.int .i64 x)]]) dJ dJ q1 ag (by rw[q2];exact q4) bh (by simp;omega) bh (.inr rfl) (.inl rfl) (by rw[q2];rfl);refine⟨_,this,.inr ⟨bh,H.boxes.length,rfl,a9 _ _,λq=>absurd (hB _ q) (ER _),by omega,hlen⟩,hx.trans (.push _ _),rfl,cK _ _,λc cs _ q=>bg q⟩
 ·have aA:=(aP.1 h1).1;have jW:0<l.length:=List.length_pos_iff.2 bH;have:=Qu (h:=H) (b:=b) (len:=l.length) (cs:=l.map im) (new:=[[.v (.int .i64 x)]]) (x:=.list .tight 1 [[.v (.int .i64 x)]]) dJ dJ q1 ag (by rw[q2];exact q4) bh (by simp;omega) (by simp;omega) h1 jW (by rw[q2,bu];omega) (by rw[q2];rfl);refine⟨_,this,.inr ⟨bh,H.boxes.length,by simp,?_,λq=>absurd (hB _ q) (ER _),by omega,hlen⟩,(hx.fO h4 _).trans (.push _ _),rfl,by rw[cK,mh],λc cs hc q=>bg ((cS ?_).trans q)⟩
  ·rw[lU];exact mB (by rw[mh])
  ·rcases hc with hc|hc
   ·rintro rfl;exact h2 hc
   ·rintro rfl;exact h3 hc
structure wH(H:ak)(tb base w m:Nat)(B:List Nat)(t:List (List Int))(cur:AV)(l:List Int):Prop where
 gv:H.boxes[tb]?=aa (vG w B++cur::aY (m - B.length - 1) (.list .nil 0 []))
 lt:B.length<m
 len:B.length=t.length
 nd:B.Nodup
 row:∀(i b:Nat) (r:List Int),B[i]?=aa b->t[i]?=aa r->H.boxes[b]?=aa (r.map im)
 wid:∀r∈t,r.length=w
 out:tb∉B
 low:∀b∈B,base<=b
 cur:KR H B tb base cur l
def Wl{P}{h}{t elem}{i}{zero}{n}{k k'}(hu:P.underlying t=aa (.slice elem))(hi:P.info? elem=aa i)(hz:(iN P elem).bind AV.b8=aa zero)(h1:zero.length=i.size)(h2:0<i.size)(h3:i.bytes * n<=281474976710656)(h4:n<9223372036854775808):
 xS P h t (.v (.int k (n:Nat))) (.v (.int k' (n:Nat)))=aa (.arr h.boxes.length 0 n n,h.push (aY n zero).flatten):=by
 unfold xS;have h5:(i.bytes:Int) * (n:Nat)<=281474976710656:=by rw[<-Int.natCast_mul];omega
 simp only[hu,hi,hz];rw[aF ⟨ag,KT _,by omega,h5,h2,h1⟩];simp[ak.push]
def Jk:∃i,al.info? 23=aa i/\i.size=1/\i.bytes<=24/\(i.zero.map λz=>z.cells.size)=aa 1:=by
 have h:(match al.info? 23 with|some i=>Nat.beq i.size 1&&Nat.ble i.bytes 24&&decide ((i.zero.map λz=>z.cells.size)=aa 1)|none=>av)=ah:=au;cases hi:al.info? 23 with
 |none=>rw[hi] at h;cases h
 |some i=>rw[hi] at h;simp only[bC,decide_eq_true_eq] at h;exact⟨i,rfl,Nat.eq_of_beq_eq_true h.1.1,Nat.le_of_ble_eq_true h.1.2,h.2⟩
def ajS(h)(n)(hn:n<=1000000)(k k'):xS al h 203 (.v (.int k (n:Nat))) (.v (.int k' (n:Nat)))=aa (.arr h.boxes.length 0 n n,h.push (aY n (.list .nil 0 []))):=by obtain⟨i,q1,q2,q3,q4⟩:=Jk;have hb:=pg q3 hn;have:=Wl (h:=h) (n:=n) (k:=k) (k':=k') (zero:=[.list .nil 0 []]) EW q1 au (by rw[q2];rfl) ag ag ag;rw[this];simp
def zw(h)(n)(hn:n<=1000000)(k k'):xS al h 23 (.v (.int k (n:Nat))) (.v (.int k' (n:Nat)))=aa (.arr h.boxes.length 0 n n,h.push (aY n (im 0))):=by obtain⟨i,q1,q2,q3,q4⟩:=Dt;have hb:=pg q3 hn;have:=Wl (h:=h) (n:=n) (k:=k) (k':=k') (zero:=[im 0]) dJ q1 KH (by rw[q2];rfl) ag ag ag;rw[this];simp
structure zY(H:ak)(tb base w m:Nat)(B:List Nat)(t:List (List Int)):Prop where
 gv:H.boxes[tb]?=aa (vG w B++aY (m - B.length) (.list .nil 0 []))
 len:B.length=t.length
 nd:B.Nodup
 row:∀(i b:Nat) (r:List Int),B[i]?=aa b->t[i]?=aa r->H.boxes[b]?=aa (r.map im)
 wid:∀r∈t,r.length=w
 out:tb∉B
 low:∀b∈B,base<=b
def zY.half{H}{tb base w m}{B}{t}(M:zY H tb base w m B t)(hm:B.length<m):wH H tb base w m B t (.list .nil 0 []) []:=by refine⟨?_,hm,M.len,M.nd,M.row,M.wid,M.out,M.low,.inl ⟨rfl,rfl⟩⟩;rw[M.gv,(ag:m - B.length=m - B.length - 1+1),zW];rfl
def zY.Hj{H}{tb base w m}{B}{t}(M:zY H tb base w m B t)(hm:B.length=m):jx H tb B t w:=by refine⟨?_,M.len,M.nd,M.row,M.wid,M.out⟩;rw[M.gv,hm,s9,List.replicate_zero,jH];rfl
def FB(w)(B):(vG w B).length=B.length:=by unfold vG;simp
def ahr(w)(B)(c)(r):(vG w B++c::r)[B.length]?=aa c:=by rw[List.getElem?_append_right (by rw[FB];exact aJ _),FB,s9];rfl
def ahs(w)(B)(c d)(r):(vG w B++c::r).set B.length d=vG w B++d::r:=by rw[List.set_append_right _ _ (by rw[FB];exact aJ _),FB,s9];rfl
def aqI{H}{b k x n}{cs}(hb:H.boxes[b]?=aa cs)(hk:k<cs.length):ct al H 23 (.ptr (.box b) k) (.arr x 0 n n)=aa (H.put b (cs.set k (.arr x 0 n n))):=by rw[gL (xs:=[AV.arr x 0 n n]) rfl iM hb rfl hk];congr 2;unfold eE;rw[zX,aF hk];simp
def wH.lts{H}{tb base w m}{B}{t}{cur}{l}(F:wH H tb base w m B t cur l):∀b∈B,b<H.boxes.length:=by intro b hb;obtain⟨i,hi⟩:=s8 hb;have cH:=(aP.1 hi).1;exact(aP.1 (F.row i b _ hi (aO (by rw[<-F.len];exact cH)))).1
def wH.more{h0 H}{tb w m}{B}{t}{cur}{l}(F:wH H tb h0.boxes.length w m B t cur l)(hx:Ext h0 H)(hb:h0.boxes.length<=tb)(x)(hl:l.length<1000000):
 ∃H2 H3 cur',qI al H #[23,23] cur (.list .tight 1 [[.v (.int .i64 x)]])=aa (cur',H2)/\ct al H2 23 (.ptr (.box tb) B.length) cur'=aa H3/\wH H3 tb h0.boxes.length w m B t cur' (l++[x])/\Ext h0 H3/\H3.loops=H.loops:=by
 have VB:=(aP.1 F.gv).1;obtain⟨H2,c1,c2,c3,c4,c5,c6⟩:=arB F.cur hx hb x hl F.lts VB;have hd:=c6 tb _ (.inr rfl) F.gv;have s1:=aqI (x:=H.boxes.length) (n:=l.length+1) (k:=B.length) hd (by simp[FB]);rw[ahs] at s1;refine⟨H2,_,_,c1,s1,⟨ev (aP.1 hd).1,F.lt,F.len,F.nd,λi b r hi hr=>?_,F.wid,F.out,F.low,?_⟩,c3.fO hb _,c4⟩
 ·have xn:=de hi;rw[cS (λe=>F.out (by rw[<-e];exact xn))];exact c6 b _ (.inl xn) (F.row i b r hi hr)
 ·rcases c2 with⟨q,-⟩|⟨q,b,q1,q2,q3,q4,q5⟩
  ·simp at q
  ·exact .inr ⟨q,b,q1,by rw[cS q4];exact q2,q3,q4,q5⟩
def wH.mid{H}{tb base w m}{B}{t}{cur}{l}(F:wH H tb base w m B t cur l)(hl:l.length=w)(hw:0<w):∃b,zY H tb base w m (B++[b]) (t++[l]):=by
 rcases F.cur with⟨rfl,-⟩|⟨q,b,q1,q2,q3,q4,q5⟩
 ·simp at hl;omega
 ·refine⟨b,?_,by simp[F.len],?_,λi c r hi hr=>?_,λr hr=>?_,?_,λc hc=>?_⟩
  ·rw[F.gv,q1,hl];unfold vG;rw[lU,dk,List.append_assoc];rfl
  ·rw[List.nodup_append];refine⟨F.nd,by simp,λx hx y hy=>?_⟩;rw[mo] at hy;subst hy;rintro rfl;exact q3 hx
  ·rcases dI i B.length with aA|dM
   ·rw[qM aA] at hi;rw[qM (by rw[<-F.len];exact aA)] at hr;exact F.row i c r hi hr
   ·have:=(aP.1 hi).1;rw[dk] at this;have Nh:i=B.length:=(by simp at this;omega);subst Nh;rw[EC] at hi;rw[F.len,EC] at hr;injection hi with hi;injection hr with hr;subst hi;subst hr;exact q2
  ·rcases uZ.1 hr with z|z
   ·exact F.wid r z
   ·rw[mo] at z;rw[z];exact hl
  ·intro z;rcases uZ.1 z with z|z
   ·exact F.out z
   ·rw[mo] at z;exact q4 z.symm
  ·rcases uZ.1 hc with z|z
   ·exact F.low c z
   ·rw[mo] at z;rw[z];exact q5
def arN(h:ak)(x y:AV)(ae:List (List Int))(target:List Int)(hx:RL x ae)(hy:IL y target)(hr:ae.length<=1000)(ht:target.length<=1000)(hw:∀r∈ae,r.length=target.length):
 ∃r h',W2.call 179 [x,y] h=aa (r,h')/\∃tb B,r=.ret (.arr tb 0 target.length target.length)/\jx h' tb B (fw ae target) (ae.length+1)/\Ext h h'/\h.boxes.length<=tb/\∀b∈B,h.boxes.length<=b:=by
 obtain⟨kx0,sx,xs,rfl,tC,dx,dR⟩:=hx;obtain⟨ky,sy,rfl,jX⟩:=hy;have kx:=aj.mk (ar tC (ar dR (ar jX hw)));clear tC dR jX hw;have mk:=ajS h target.length ag .i64 .i64;have u23:=dJ;have u22:=iq;have u203:=EW;have z23:=iM;have z3:=fP;have cH:=dn target;have Jg:(xs.map λa=>[a]).length=ae.length:=by rw[bu];exact dx
 refine df rfl Tryz.func179 rfl ?_;refine br @DY ?_;refine bG.gen λe0 aD bI cT cJ=>?_;have f0:e0.get 0=.list kx0 sx (xs.map λa=>[a]):=by rw[aD];exact gS
 have f5:e0.get 5=.arr h.boxes.length 0 target.length target.length:=by rw[aD];exact gS
 have f13:e0.get 13=.list ky sy (ints target):=by rw[aD];exact gS
 have f14:e0.get 14=.v (.int .i64 (target.length:Nat)):=by rw[aD];exact gS
 have f15:e0.get 15=.v (.int .i64 (0:Nat)):=by rw[aD];exact gR
 have fd:e0.defers=[]:=by rw[bI];exact gS
 clear aD bI cT cJ mk;have tl:=Qv ae target;have M0:zY (h.push (aY target.length (.list .nil 0 []))) h.boxes.length h.boxes.length (ae.length+1) target.length [] ((fw ae target).take 0):=by refine⟨by rw[a9];simp[vG],rfl,.nil,λi b r hi=>by simp at hi,λr hr=>by simp at hr,by simp,λb hb=>by simp at hb⟩
 refine cq (λm e H=>∃(k:Nat) (B:List Nat),k<=target.length/\m=target.length - k/\B.length=k/\aj (zY H h.boxes.length h.boxes.length (ae.length+1) target.length B ((fw ae target).take k))/\aj (Ext h H)/\e.get 0=.list kx0 sx (xs.map λa=>[a])/\e.get 5=.arr h.boxes.length 0 target.length target.length/\e.get 13=.list ky sy (ints target)/\e.get 14=.v (.int .i64 (target.length:Nat))/\e.get 15=.v (.int .i64 (k:Nat))/\e.defers=[]) ?_ target.length _ _ ?_;rotate_left 1
 ·exact⟨0,[],cr _,rfl,rfl,⟨M0⟩,⟨.push _ _⟩,f0,f5,f13,f14,f15,fd⟩
 clear M0 f0 f5 f13 f14 f15 fd;rintro m e H ⟨k,B,hk,rfl,uj,kM,kX,g0,g5,g13,g14,g15,hd⟩;by_cases IU:k<target.length;rotate_left 1
 ·have:k=target.length:=by omega
  subst this;have T:=kM.out.Hj uj;rw[gm ag] at T;have kT:=aj.mk T;clear T;refine br @DY ?_;exact⟨_,_,rfl,_,B,rfl,kT.out,kX.out,aJ _,kM.out.low⟩
 have bB:sy=1:=kx.out.2.2.1 (by intro q;rw[q] at IU;simp at IU);subst bB;have l0:=e7 (H:=H) (s:=1) IU;have F0:=kM.out.half ag;have kF0:=aj.mk F0;have hkI:(k:Int)<(target.length:Int):=by omega
 clear F0;refine bM @DY @a8 ?_;refine bG.gen λe0 aD bI cT cJ=>?_;have f0:e0.get 0=.list kx0 sx (xs.map λa=>[a]):=by rw[aD];simp only[gW,reduceIte,aX,aR];exact g0
 have f5:e0.get 5=.arr h.boxes.length 0 target.length target.length:=by rw[aD];simp only[gW,reduceIte,aX,aR];exact g5
 have f6:e0.get 6=.v (.int .i64 (k:Nat)):=by rw[aD];exact gS
 have f7:e0.get 7=.v (.int .i64 (ai target k)):=by rw[aD];exact gS
 have f13:e0.get 13=.list ky 1 (ints target):=by rw[aD];simp only[gW,reduceIte,aX,aR];exact g13
 have f14:e0.get 14=.v (.int .i64 (target.length:Nat)):=by rw[aD];simp only[gW,reduceIte,aX,aR];exact g14
 have f15:e0.get 15=.v (.int .i64 (k:Nat)):=by rw[aD];simp only[gW,reduceIte,aX,aR];exact g15
 have f20:e0.get 20=.list kx0 sx (xs.map λa=>[a]):=by rw[aD];exact gS
 have f21:e0.get 21=.v (.int .i64 (ae.length:Nat)):=by rw[aD];exact gS
 have f22:e0.get 22=.v (.int .i64 (0:Nat)):=by rw[aD];exact gR
 have fd:e0.defers=[]:=by rw[bI];simp only[gW,reduceIte,aX,aR];exact hd
 clear aD bI cT cJ g0 g5 g13 g14 g15 hd l0;refine cq (λm e H=>∃(i:Nat) (cur:AV),i<=ae.length/\m=ae.length - i/\aj (wH H h.boxes.length h.boxes.length (ae.length+1) target.length B ((fw ae target).take k) cur ((ae.take i).map λr=>ai r k))/\aj (Ext h H)/\e.get 0=.list kx0 sx (xs.map λa=>[a])/\e.get 5=.arr h.boxes.length 0 target.length target.length/\e.get 6=.v (.int .i64 (k:Nat))/\e.get 7=.v (.int .i64 (ai target k))/\e.get 13=.list ky 1 (ints target)/\e.get 14=.v (.int .i64 (target.length:Nat))/\e.get 15=.v (.int .i64 (k:Nat))/\e.get 20=.list kx0 sx (xs.map λa=>[a])/\e.get 21=.v (.int .i64 (ae.length:Nat))/\e.get 22=.v (.int .i64 (i:Nat))/\e.defers=[]) ?_ ae.length _ _ ?_;rotate_left 1
 ·exact⟨0,_,cr _,rfl,kF0,kX,f0,f5,f6,f7,f13,f14,f15,f20,f21,f22,fd⟩
 clear f0 f5 f6 f7 f13 f14 f15 f20 f21 f22 fd kF0 kM kX;rintro m e2 H2 ⟨i,cur,hi,rfl,kF,kX,g0,g5,g6,g7,g13,g14,g15,g20,g21,g22,hd⟩;have lc:((ae.take i).map λr=>ai r k).length=i:=by rw[bu,eP];omega
 have pF:(vG (ae.length+1) B++cur::aY (target.length - B.length - 1) (.list .nil 0 []))[k]?=aa cur:=by rw[<-uj];exact ahr _ _ _ _
 have m1:=sM kF.out.gv pF;have Dy:=Dw (b:=h.boxes.length) (len:=target.length) (aB:=target.length) (k:=.i64) IU;clear pF;by_cases iu:i<ae.length
 ·obtain⟨a,ha⟩:∃a,xs[i]?=aa a:=⟨_,aO ag⟩;obtain⟨r,hr⟩:∃r,ae[i]?=aa r:=⟨_,aO iu⟩;have tC:sx=1:=kx.out.1 (by intro q;rw[q] at iu;simp at iu);subst tC;obtain⟨ka,sa,rfl,iZ⟩:=kx.out.2.1 i a r ha hr;have cO:=kx.out.2.2.2 r (de hr);have N2:sa=1:=iZ (by intro q;rw[q] at cO;simp at cO;omega);subst N2;have l1:=jY (H:=H2) (s:=1) ha;have l2:=e7 (H:=H2) (l:=r) (i:=k) (s:=1) ag;have vN:(ints r).length=target.length:=by rw[dn];exact cO
  obtain⟨H3,H4,cur',c1,c2,c3,c4,-⟩:=kF.out.more kX.out (aJ _) (ai r k) (by rw[lc];omega);have iH:((ae.take i).map λr=>ai r k)++[ai r k]=(ae.take (i+1)).map λr=>ai r k:=by rw[fH hr,lU];rfl
  rw[iH] at c3;rw[uj] at c2;have bl:=po (ai r k);have kF2:=aj.mk c3;have kX2:=aj.mk c4;have IT:(i:Int)<(ae.length:Int):=by omega
  clear c3 c4 iH ha hr iZ lc uj tl cO;refine bM @DY @a8 ?_
  repeat' (first|simp(maxSteps:=999999)(disch:=first|exact dZ|fail)only[gW,reduceIte,aX,aR,DY,a8, *]|(refine dX ?_ ?_<;>(intro _;try omega))|refine ey yE au ?_)
  exact⟨ae.length - (i+1),by omega,i+1,cur',by omega,rfl,kF2,by simp⟩
 ·have fK:i=ae.length:=by omega
  subst fK;obtain⟨H3,H4,cur',c1,c2,c3,c4,-⟩:=kF.out.more kX.out (aJ _) (ai target k) (by rw[lc];omega);rw[fA] at c3;have dF:(ae.map λr=>ai r k)++[ai target k]=((fw ae target)[k]' ag):=by unfold fw;rw[qa,zS]
  rw[dF] at c3;obtain⟨b,M2⟩:=c3.mid (by rw[<-dF];simp) ag;rw[<-fH (aO (ag:k<(fw ae target).length))] at M2;have kM2:=aj.mk M2;have kX2:=aj.mk c4;have hBl:(B++[b]).length=k+1:=by rw[dk,uj];rfl
  rw[uj] at c2;have bl:=po (ai target k);clear c3 c4 M2 dF lc uj tl;refine br @DY ?_;exact⟨target.length - (k+1),by omega,k+1,B++[b],by omega,rfl,hBl,kM2,by simp⟩
def XT:Tryz.f126.results.toList=[.tmp 4]:=au
def zD:Tryz.f167.results.toList=[.tmp 4]:=au
def aor:Tryz.f152.results.toList=[.tmp 4]:=au
def J8:Tryz.f185.results.toList=[.tmp 4]:=au
def Yg:Tryz.f218.results.toList=[.tmp 2]:=au
def GQ:Tryz.f200.results.toList=[]:=au
def Yc:Tryz.f178.results.toList=[]:=au
def aiq(g:FuncId)(p:Int->Bool)(h:ak)(x:AV)(l:List Int)(hx:IL x l)(hl:l.length<=1000000)(hp:∀n∈l,W2.call g [im n] h=aa (.ret (.v (.bool (p n))),h)):
 ∃r h',W2.call 167 [x,.func (.func g) [] []] h=some (r,h')/\h'=h/\∃i:Int,r=.ret (im i)/\decide (0<=i)=l.any p:=by
 obtain⟨k,s,rfl,hs⟩:=hx;have kp:=aj.mk hp;have ks:=aj.mk hs;clear hp hs;have u23:=dJ;have z3:=fP;have cH:=dn l;refine df rfl Tryz.func167 rfl ?_;refine br @zD ?_;refine cq (λm e H=>∃i:Nat,i<=l.length/\m=l.length - i/\(l.take i).any p=av/\e.get 0=.list k s (ints l)/\e.get 1=.func (.func g) [] []/\e.get 7=.v (.int .i64 (l.length:Nat))/\e.get 8=.v (.int .i64 (i:Nat))/\e.defers=[]/\H=h) ?_ l.length _ _ ?_;rotate_left 1
 ·refine⟨0,cr _,rfl,by simp,?_,?_,?_,?_,?_,rfl⟩<;>exact gR
 rintro m e H ⟨i,hi,rfl,ha,g0,g1,g7,g8,hd,rfl⟩;have ka:=aj.mk ha;clear ha;by_cases aA:i<l.length
 ·have bB:s=1:=ks.out (by intro q;rw[q] at aA;simp at aA);subst bB;have ld:=e7 (H:=H) (s:=1) aA;have hv:l[i]?=aa (ai l i):=by rw[aO aA,fI aA]
  have hc:=kp.out (ai l i) (de hv);have fL:(i:Int)<(l.length:Int):=by omega
  have oS:(l.take (i+1)).any p=p (ai l i):=by rw[fH hv,KZ,ka.out];simp
  have kt:=aj.mk oS;have kh:=aj.mk hv;clear hv oS;unfold im at hc;cases fc:p (ai l i) with
  |true=>rw[fc] at hc;have lH:l.any p=ah:=EA.2 ⟨_,de kh.out,fc⟩;have kan:=aj.mk lH;clear lH fc;refine bJ @zD @a8 @lV.{0} @jH.{0} ?_;exact⟨_,_,rfl,rfl,(i:Int),rfl,by rw[kan.out];simp⟩
  |false=>rw[fc] at hc;have kt2:(l.take (i+1)).any p=av:=kt.out.trans fc;clear fc;refine bJ @zD @a8 @lV.{0} @jH.{0} ?_;exact⟨l.length - (i+1),by omega,i+1,by omega,rfl,kt2,by simp⟩
 ·have:i=l.length:=by omega
  subst this;have:=ka.out;rw[fA] at this;have kan:=aj.mk this;clear this;refine br @zD ?_;exact⟨_,_,rfl,rfl,-1,rfl,by rw[kan.out];rfl⟩
def SY(g)(p)(h)(x)(l)(hx:IL x l)(hl:l.length<=1000000)(hp:∀n∈l,W2.call g [im n] h=aa (.ret (.v (.bool (p n))),h)):
 W2.call 126 [x,.func (.func g) [] []] h=aa (.ret (.v (.bool (l.any p))),h):=by
 obtain⟨r,h',c,rfl,i,rfl,hi⟩:=aiq g p h x l hx hl hp;have ot:(0<=i)=(l.any p=ah):=by rw[<-hi];simp
 have CZ:decide (0<=i)=l.any p:=hi;unfold im at c;refine cC rfl Tryz.func126 rfl ?_;clear hi ot;exact lG @XT
def air(g:FuncId)(p:List Int->Bool)(h:ak)(x:AV)(l:List (List Int))(hx:RL x l)(hl:l.length<=1000000)(hp:∀a r,r∈l->IL a r->W2.call g [a] h=aa (.ret (.v (.bool (p r))),h)):
 ∃r h',W2.call 185 [x,.func (.func g) [] []] h=some (r,h')/\h'=h/\∃i:Int,r=.ret (im i)/\decide (0<=i)=l.any p:=by
 obtain⟨k,s,xs,rfl,hs,dx,dR⟩:=hx;have kxr:=aj.mk dR;clear dR;have kp:=aj.mk hp;have ks:=aj.mk hs;clear hp hs;have u22:=iq;have z23:=iM;have cH:(xs.map λa=>[a]).length=l.length:=by rw[bu];exact dx
 refine df rfl Tryz.func185 rfl ?_;refine br @J8 ?_;refine cq (λm e H=>∃i:Nat,i<=l.length/\m=l.length - i/\(l.take i).any p=av/\e.get 0=.list k s (xs.map λa=>[a])/\e.get 1=.func (.func g) [] []/\e.get 7=.v (.int .i64 (l.length:Nat))/\e.get 8=.v (.int .i64 (i:Nat))/\e.defers=[]/\H=h) ?_ l.length _ _ ?_;rotate_left 1
 ·refine⟨0,cr _,rfl,by simp,?_,?_,?_,?_,?_,rfl⟩<;>exact gR
 rintro m e H ⟨i,hi,rfl,ha,g0,g1,g7,g8,hd,rfl⟩;have ka:=aj.mk ha;clear ha;by_cases aA:i<l.length
 ·have bB:s=1:=ks.out (by intro q;rw[q] at aA;simp at aA);subst bB;obtain⟨a,fD⟩:∃a,xs[i]?=aa a:=⟨_,aO ag⟩;obtain⟨r,hv⟩:∃r,l[i]?=aa r:=⟨_,aO aA⟩;have ld:=jY (H:=H) (s:=1) fD;have hc:=kp.out a r (de hv) (kxr.out i a r fD hv);clear fD;have fL:(i:Int)<(l.length:Int):=by omega
  have oS:(l.take (i+1)).any p=p r:=by rw[fH hv,KZ,ka.out];simp
  have kt:=aj.mk oS;have kh:=aj.mk hv;clear hv oS;cases fc:p r with
  |true=>rw[fc] at hc;have lH:l.any p=ah:=EA.2 ⟨_,de kh.out,fc⟩;have kan:=aj.mk lH;clear lH fc;refine bJ @J8 @a8 @lV.{0} @jH.{0} ?_;exact⟨_,_,rfl,rfl,(i:Int),rfl,by rw[kan.out];simp⟩
  |false=>rw[fc] at hc;have kt2:(l.take (i+1)).any p=av:=kt.out.trans fc;clear fc;refine bJ @J8 @a8 @lV.{0} @jH.{0} ?_;exact⟨l.length - (i+1),by omega,i+1,by omega,rfl,kt2,by simp⟩
 ·have:i=l.length:=by omega
  subst this;have:=ka.out;rw[fA] at this;have kan:=aj.mk this;clear this;refine br @J8 ?_;exact⟨_,_,rfl,rfl,-1,rfl,by rw[kan.out];rfl⟩
def aeH(g)(p)(h)(x)(l)(hx:RL x l)(hl:l.length<=1000000)(hp:∀a r,r∈l->IL a r->W2.call g [a] h=aa (.ret (.v (.bool (p r))),h)):
 W2.call 152 [x,.func (.func g) [] []] h=aa (.ret (.v (.bool (l.any p))),h):=by
 obtain⟨r,h',c,rfl,i,rfl,hi⟩:=air g p h x l hx hl hp;have ot:(0<=i)=(l.any p=ah):=by rw[<-hi];simp
 have CZ:decide (0<=i)=l.any p:=hi;unfold im at c;refine cC rfl Tryz.func152 rfl ?_;clear hi ot;exact lG @aor
def pR(n:Int):Bool:=decide (n<0)||decide (1073741789<=n)
def akf(n:Int)(h:ak):W2.call 218 [im n] h=aa (.ret (.v (.bool (pR n))),h):=by
 unfold im pR;by_cases h0:n<0
 ·refine cC rfl abl rfl ?_;have:decide (n<0)=ah:=by simp[h0]
  exact jL @Yg @Bool.true_or
 ·refine cC rfl abl rfl ?_;have:decide (n<0)=av:=by simp[h0]
  exact jL @Yg @ZU
def Jx(e:Int)(h:ak):W2.call 199 [.v (.bool ah),im e] h=aa (.ret (.tuple []),h):=by unfold im;refine cC rfl Tryz.func199 rfl ?_;exact lG @aoF
def akh{l:List Int}(h:∀x∈l,okF x):l.any pR=av:=by rw[aal];intro x hx;obtain⟨h1,h2⟩:=h x hx;have:Qi=1073741789:=rfl;unfold pR;simp;omega
def SM(h:ak)(x:AV)(ae:List (List Int))(w:Nat)(hx:RL x ae)(hr:ae.length<=1000)(hw:∀r∈ae,r.length=w)(nt:w<=64)(bA:∀r∈ae,∀x∈r,okF x):∃h',W2.call 200 [x] h=aa (.ret (.tuple []),h')/\h'=h:=by
 obtain⟨k,s,xs,rfl,hs,dx,dR⟩:=hx;have kk:=aj.mk (ar hs (ar dR (ar hw bA)));clear hs dR hw bA;have u23:=dJ;have u22:=iq;have z23:=iM;have cH:(xs.map λa=>[a]).length=ae.length:=by rw[bu];exact dx
 have n2:=Jx 2;have n130:=Jx 130;unfold im at n2 n130;refine gP rfl Tryz.func200 rfl ?_;refine br @GQ ?_;refine cq (λm e H=>∃i:Nat,i<=ae.length/\m=ae.length - i/\e.get 0=.list k s (xs.map λa=>[a])/\e.get 7=.list k s (xs.map λa=>[a])/\e.get 8=.v (.int .i64 (ae.length:Nat))/\e.get 9=.v (.int .i64 (i:Nat))/\e.defers=[]/\H=h) ?_ ae.length _ _ ?_;rotate_left 1
 ·refine⟨0,cr _,rfl,?_,?_,?_,?_,?_,rfl⟩<;>exact gR
 rintro m e H ⟨i,hi,rfl,g0,g7,g8,g9,hd,rfl⟩;by_cases aA:i<ae.length
 ·have bB:s=1:=kk.out.1 (by intro q;rw[q] at aA;simp at aA);subst bB;obtain⟨a,fD⟩:∃a,xs[i]?=aa a:=⟨_,aO ag⟩;obtain⟨r,hv⟩:∃r,ae[i]?=aa r:=⟨_,aO aA⟩;have ld:=jY (H:=H) (s:=1) fD;obtain⟨ka,sa,rfl,iZ⟩:=kk.out.2.1 i a r fD hv;have cO:=kk.out.2.2.1 r (de hv);have vN:(ints r).length=w:=by rw[dn];exact cO
  have fL:(i:Int)<(ae.length:Int):=by omega
  have hwd:decide ((w:Int)<=64)=ah:=by simp;omega
  clear fD hv iZ cO;refine bM @GQ @a8 ?_;exact⟨ae.length - (i+1),by omega,i+1,by omega,rfl,by simp⟩
 ·refine br @GQ ?_;refine bG.gen λe0 aD bI cT cJ=>?_;have f0:e0.get 0=.list k s (xs.map λa=>[a]):=by rw[aD];simp only[gW,reduceIte,aX,aR];exact g0
  have f4:e0.get 4=.func (.func 218) [] []:=by rw[aD];exact gS
  have f18:e0.get 18=.list k s (xs.map λa=>[a]):=by rw[aD];exact gS
  have f19:e0.get 19=.v (.int .i64 (ae.length:Nat)):=by rw[aD];exact gS
  have f20:e0.get 20=.v (.int .i64 (0:Nat)):=by rw[aD];exact gR
  have fd:e0.defers=[]:=by rw[bI];simp only[gW,reduceIte,aX,aR];exact hd
  clear aD bI cT cJ g0 g7 g8 g9 hd hi aA;refine cq (λm e H2=>∃i:Nat,i<=ae.length/\m=ae.length - i/\e.get 0=.list k s (xs.map λa=>[a])/\e.get 4=.func (.func 218) [] []/\e.get 18=.list k s (xs.map λa=>[a])/\e.get 19=.v (.int .i64 (ae.length:Nat))/\e.get 20=.v (.int .i64 (i:Nat))/\e.defers=[]/\H2=H) ?_ ae.length _ _ ?_;rotate_left 1
  ·exact⟨0,cr _,rfl,f0,f4,f18,f19,f20,fd,rfl⟩
  clear f0 f4 f18 f19 f20 fd;rintro m e H ⟨i,hi,rfl,g0,g4,g18,g19,g20,hd,rfl⟩;by_cases aA:i<ae.length
  ·have bB:s=1:=kk.out.1 (by intro q;rw[q] at aA;simp at aA);subst bB;obtain⟨a,fD⟩:∃a,xs[i]?=aa a:=⟨_,aO ag⟩;obtain⟨r,hv⟩:∃r,ae[i]?=aa r:=⟨_,aO aA⟩;obtain⟨a0,fJ⟩:∃a,xs[0]?=aa a:=⟨_,aO ag⟩;obtain⟨r0,fM⟩:∃r,ae[0]?=aa r:=⟨_,aO ag⟩;have ld:=jY (H:=H) (s:=1) fD;have ld0:=jY (H:=H) (s:=1) fJ;obtain⟨ka,sa,rfl,iZ⟩:=kk.out.2.1 i a r fD hv;obtain⟨ka0,sa0,rfl,oR⟩:=kk.out.2.1 0 a0 r0 fJ fM;have cO:=kk.out.2.2.1 r (de hv);have sI:=kk.out.2.2.1 r0 (de fM);have cc:=SY 218 pR H (.list ka sa (ints r)) r ⟨_,_,rfl,iZ⟩ ag (λn _=>akf n H);rw[akh (kk.out.2.2.2 r (de hv))] at cc;have vN:(ints r).length=w:=(by rw[dn];exact cO);have NW:(ints r0).length=w:=(by rw[dn];exact sI);have fL:(i:Int)<(ae.length:Int):=(by omega);have yR:(0:Int)<(ae.length:Int):=(by omega);have z0:(0:Int).toNat=0:=rfl;clear fD hv iZ cO fJ fM oR sI;refine bM @GQ @a8 ?_;exact⟨ae.length - (i+1),by omega,i+1,by omega,rfl,by simp⟩
  ·refine br @GQ ?_;exact⟨_,rfl,rfl⟩
def DW:Tryz.f144.results.toList=[.tmp 4,.tmp 5,.cell 6 32]:=au
def aoA:Tryz.f177.results.toList=[]:=au
def H8(x)(hx:x.dN=ah):fC al 22 1 [(0,x)]=aa (.list .tight 1 [[x]]):=by cases x<;>first|(cases hx;done)|kernel_rfl
def IL.cell{x}{l}(h:IL x l):x.dN=ah:=by obtain⟨k,s,rfl,-⟩:=h;rfl
def SG(b:Nat)(h:ak):W2.jy 177 [.ptr (.box b) 0] aq h=aa (.ret (.tuple []),aq,h):=by have u20:=Tryz.underlying20;refine ae4 Tryz.func177 rfl ?_;exact sf @aoA @acL @and_self
def afK(h:ak)(x y:AV)(ae:List (List Int))(target:List Int)(hx:RL x ae)(hy:IL y target)(hr:ae.length<=64)(hw:∀r∈ae,r.length=target.length)(nt:target.length<=64)(bA:∀r∈ae,∀x∈r,okF x)(nP:∀x∈target,okF x):
 W2.call 178 [x,y] h=aa (.ret (.tuple []),h):=by
 obtain⟨h1,c1,e1⟩:=SM h x ae target.length hx ag hw nt bA;rw[e1] at c1;clear e1 h1;have xj:RL (.list .tight 1 [[y]]) [target]:=⟨.tight,1,[y],rfl,λ_=>rfl,rfl,λi a r ha hr=>by
  cases i with
  |zero=>simp only[List.getElem?_cons_zero] at ha hr;injection ha with ha;injection hr with hr;subst ha;subst hr;exact hy
  |succ i=>simp at ha⟩
 obtain⟨h2,c2,e2⟩:=SM h (.list .tight 1 [[y]]) [target] target.length xj bh bh nt (by simpa using nP);rw[e2] at c2;clear e2 h2;have bl:=H8 y hy.cell;have n2:=Jx 2;have n130:=Jx 130;obtain⟨k,s,xs,rfl,hs,dx,dR⟩:=hx;obtain⟨ky,sy,rfl,jX⟩:=hy;have u23:=dJ;have u22:=iq;have z23:=iM;have cH:(xs.map λa=>[a]).length=ae.length:=by rw[bu];exact dx
 have xu:=dn target;have hrI:decide ((ae.length:Int)<=64)=ah:=by simp;omega
 unfold im at n2 n130;clear xj bA nP;refine cC rfl Tryz.func178 rfl ?_;by_cases h0:ae.length=0
 ·have hq:decide ((ae.length:Int)=0)=ah:=by simp[h0]
  clear hw dR h0;exact lG @Yc
 ·have hq:decide ((ae.length:Int)=0)=av:=by simp[h0]
  obtain⟨a0,fJ⟩:∃a,xs[0]?=aa a:=⟨_,aO ag⟩;obtain⟨r0,fM⟩:∃r,ae[0]?=aa r:=⟨_,aO ag⟩;have bB:s=1:=hs (by intro q;rw[q] at h0;simp at h0);subst bB;have ld0:=jY (H:=h) (s:=1) fJ;obtain⟨ka0,sa0,rfl,oR⟩:=dR 0 a0 r0 fJ fM;have sI:=hw r0 (de fM);have NW:(ints r0).length=target.length:=by rw[dn];exact sI
  have yR:(0:Int)<(ae.length:Int):=by omega
  have z0:(0:Int).toNat=0:=rfl;clear hw dR fJ fM sI hs;exact jL @Yc @a8
def Aj:gx al 32=aa av:=au
def Zo:dm al 32=aa 1:=au
def asG:(iN al 32).bind AV.b8=aa [im 0]:=au
def V7{H}{b}{x}(hb:H.boxes[b]?=aa [x]):aI al Gt H 32 (.ptr (.box b) 0)=aa x:=by rw[lP Aj hb];rfl
def YV{H}{b}{x}{n}(hb:H.boxes[b]?=aa [x]):ct al H 32 (.ptr (.box b) 0) (.v (.int .i64 n))=aa (H.put b [.v (.int .i64 n)]):=gL (off:=0) (cs:=[x]) (xs:=[im n]) rfl Zo hb rfl (aJ 1)
def aqd{b n k}(hk:k<=n):∃off,gC al 203 (.arr b 0 n n) (aa (.v (.int .i64 (k:Nat)))) aq aq=aa (.arr b off (n - k) (n - k))/\(k<n->off=k):=by
 refine⟨if n=k then 0 else 0+k * 1,?_,λh=>by rw[aG ag];omega⟩;have e1:ga n aq n=aa n:=rfl;have e3:ga n (aa (.v (.int .i64 (k:Nat)))) 0=aa k:=by show(if 0<=(k:Int)/\(k:Int)<=(n:Int) then aa (k:Int).toNat else aq)=_;rw[aF ⟨ag,by omega⟩];rfl
 unfold gC;simp only[EW,iM,e1,e3,Option.isSome_none,zL,Bool.false_eq_true,false_and,if_false];rfl
def aiJ{b off len aB n}{k}(hn:n<len):dy al 203 (.arr b off len aB) (.v (.int k (n:Nat)))=aa (.ptr (.box b) (off+n)):=by rw[Du EW iM ag ag,dL,Nat.mul_one]
def kU(t:List (List Int))(pv:List Nat)(n j:Nat):List Int:=(pv.zipIdx.take j).foldl (λy p=>y.set p.1 (ai (t.getD p.2 []) n)) (aY n 0)
def JL(t)(pv)(n j):(kU t pv n j).length=n:=by unfold kU;rw[Fi (λp=>ai (t.getD p.2 []) n),lT]
def Xy{t}{pv}{n j p}(h:pv[j]?=aa p):(kU t pv n j).set p (ai (t.getD j []) n)=kU t pv n (j+1):=by
 have hz:pv.zipIdx[j]?=aa (p,j):=by rw[aaw,h];simp
 unfold kU;rw[fH hz,nY];rfl
def Xx(t)(pv)(n):kU t pv n pv.length=oC (t,pv) n:=by unfold kU oC;rw[gm bh]
def Z0(ae:List (List Int))(target:List Int)(h:ak)(r:eK)(h':ak):Prop:=
 Ext h h'/\((oN ae target=aq/\r=.ret (.tuple [.list .nil 0 [],.v (.bool av),im 0]))∨∃l b,oN ae target=aa l/\l.length=ae.length/\r=.ret (.tuple [.arr b 0 ae.length ae.length,.v (.bool ah),im 0])/\h'.boxes[b]?=aa (l.map im))
def aez(h:ak)(x y:AV)(ae:List (List Int))(target:List Int)(hx:RL x ae)(hy:IL y target)(hr:ae.length<=64)(hw:∀r∈ae,r.length=target.length)(nt:target.length<=64)(bA:∀r∈ae,∀x∈r,okF x)(nP:∀x∈target,okF x)(ho:cA h=ah):
 ∃r h',W2.call 144 [x,y] h=aa (r,h')/\Z0 ae target h r h':=by
 have c1:=afK (h.push [im 0]) x y ae target hx hy hr hw nt bA nP;obtain⟨_,H2,c2,tb,B,rfl,T2,X2,jM,fk⟩:=arN (h.push [im 0]) x y ae target hx hy ag ag hw;obtain⟨t1,t2⟩:=Qw bA nP;have tl:=Qv ae target;obtain⟨_,H3,c3,tk,s3,B3,rfl,pO,T3,IG,G3⟩:=ame H2 tb B (fw ae target) (ae.length+1) ae.length T2 ag ag ag t2 (X2.ok ho);have iT:=amf (many:=ae.length) t1 t2 ag;obtain⟨R,V⟩:=Gy t1 t2 (ag:ae.length<=ae.length+1);rw[iT] at pO T3 c3;rw[tl] at c3;have e1:oN ae target=if ((iK (fw ae target) ae.length).1.drop (iK (fw ae target) ae.length).2.length).all (λa=>decide (ai a ae.length=0)) then aa (oC (iK (fw ae target) ae.length) ae.length) else aq:=rfl
 have FG:(iK (fw ae target) ae.length).1.length=target.length:=by have:=(XC t1 t2 ae.length ag).2.1;rw[<-XB,iT] at this;omega
 have X3:Ext (h.push [im 0]) H3:=X2.OM (G3.mu.sV X2.tn) (λb hb=>by
  rcases gO.1 hb with q|q
  ·rw[q];exact jM
  ·exact fk b q)
 have b0:H3.boxes[h.boxes.length]?=aa [im 0]:=X3.box _ _ (a9 _ _);have X0:Ext h H3:=(Ext.push h [im 0]).trans X3;obtain⟨k,s,xs,rfl,hs,dx,dR⟩:=hx;obtain⟨ky,sy,rfl,jX⟩:=hy;have cH:(xs.map λa=>[a]).length=ae.length:=by rw[bu];exact dx
 have atm:=V.len;generalize bZ:iK (fw ae target) ae.length=st at *
 obtain⟨t',pv⟩:=st;dsimp only at *
 have FW:=Oh pv;have kk:=aj.mk (ar T3 (ar V (ar e1 (ar X0 (ar b0 pO)))));clear T2 X2 jM fk t1 t2 tl iT R V e1 IG G3 X3 b0 X0 T3 hs dx dR jX bZ pO bA nP hw ho;have u23:=dJ;have u22:=iq;have u203:=EW;have z23:=iM;have z32:=asG;obtain⟨off,mG,zh⟩:=aqd (b:=tb) (ag:pv.length<=target.length);have khoff:=aj.mk zh;clear zh;unfold im at *
 refine df rfl Tryz.func144 rfl ?_;refine br @DW ?_;refine bG.gen λe0 aD bI cT cJ=>?_;have f6:e0.get 6=.ptr (.box h.boxes.length) 0:=by rw[aD];exact gS
 have f7:e0.get 7=.v (.int .i64 (ae.length:Nat)):=by rw[aD];exact gS
 have f8:e0.get 8=.arr tb 0 target.length target.length:=by rw[aD];exact gS
 have f9:e0.get 9=.list tk s3 (ints (b7 pv)):=by rw[aD];exact gS
 have f28:e0.get 28=.arr tb off (target.length - pv.length) (target.length - pv.length):=by rw[aD];exact gS
 have f29:e0.get 29=.v (.int .i64 ((target.length - pv.length:Nat):Int)):=by rw[aD];exact gS
 have f30:e0.get 30=.v (.int .i64 (0:Nat)):=by rw[aD];exact gR
 have fd:e0.defers=[(177,[.ptr (.box h.boxes.length) 0])]:=by rw[bI];exact gS
 have fp:e0.cD=aq:=by rw[cT];exact gS
 clear aD bI cT cJ c1 c2 c3 mG;refine cq (λm e H=>∃j:Nat,j<=target.length - pv.length/\m=target.length - pv.length - j/\aj (∀i,i<j->∀a,t'[pv.length+i]?=aa a->ai a ae.length=0)/\e.get 6=.ptr (.box h.boxes.length) 0/\e.get 7=.v (.int .i64 (ae.length:Nat))/\e.get 8=.arr tb 0 target.length target.length/\e.get 9=.list tk s3 (ints (b7 pv))/\e.get 28=.arr tb off (target.length - pv.length) (target.length - pv.length)/\e.get 29=.v (.int .i64 ((target.length - pv.length:Nat):Int))/\e.get 30=.v (.int .i64 (j:Nat))/\e.defers=[(177,[.ptr (.box h.boxes.length) 0])]/\e.cD=aq/\H=H3) ?_ (target.length - pv.length) _ _ ?_;rotate_left 1
 ·exact⟨0,cr _,rfl,⟨λi hi=>absurd hi (rU _)⟩,f6,f7,f8,f9,f28,f29,f30,fd,fp,rfl⟩
 clear f6 f7 f8 f9 f28 f29 f30 fd fp;rintro m e H3 ⟨j,hj,rfl,kz,g6,g7,g8,g9,g28,g29,g30,hd,hp,rfl⟩;obtain⟨T3,V,e1,X0,b0,pO⟩:=kk.out;have s6:=λn=>YV (n:=n) b0;by_cases aA:j<target.length - pv.length
 ·obtain⟨a,ha⟩:∃a,t'[pv.length+j]?=aa a:=⟨_,aO ag⟩;obtain⟨b,hb⟩:∃b,B3[pv.length+j]?=aa b:=⟨_,aO (by rw[T3.len];omega)⟩;have wa:=T3.wid a (de ha);have vD:(B3.map λb=>AV.arr b 0 (ae.length+1) (ae.length+1))[off+j]?=aa (.arr b 0 (ae.length+1) (ae.length+1)):=by rw[khoff.out ag,dW,hb];rfl
  have m1:=sM T3.gv vD;have m2:=xQ (T3.row _ _ _ hb ha) (vW (k:=ae.length) ag);have ix1:=aiJ (b:=tb) (off:=off) (aB:=target.length - pv.length) (k:=.i64) aA;have ix2:=pQ (b:=b) (len:=ae.length+1) (aB:=ae.length+1) (k:=.i64) (ag:ae.length<ae.length+1);have fL:(j:Int)<((target.length - pv.length:Nat):Int):=by omega
  by_cases hz:ai a ae.length=0
  ·have kz2:aj (∀i,i<j+1->∀a,t'[pv.length+i]?=aa a->ai a ae.length=0):=⟨λi hi a' mC=>by
    rcases dI i j with q|q
    ·exact kz.out i q a' mC
    ·rw[(ag:i=j),ha] at mC;injection mC with mC;rw[<-mC];exact hz⟩
   rw[hz] at m2;unfold im at *
   clear T3 V e1 X0 b0 pO s6 ha hb wa vD hz kz;refine br @DW ?_;exact⟨target.length - pv.length - (j+1),by omega,j+1,by omega,rfl,kz2,by simp⟩
  ·have e2:oN ae target=aq:=(by rw[e1,aG];intro q;rw[dU] at q;have:=q a (de (i:=j) (by rw[nZ];exact ha));exact hz (of_decide_eq_true this));have ke:=aj.mk e2;have kX:=aj.mk X0;have kb:=aj.mk b0;have l6:∀n,aI al Gt (H3.put h.boxes.length [.v (.int .i64 n)]) 32 (.ptr (.box h.boxes.length) 0)=aa (.v (.int .i64 n)):=λn=>V7 (ev (aP.1 b0).1);unfold im at *
   clear T3 V e1 X0 b0 pO ha hb wa vD kz e2
   repeat' (first|simp(maxSteps:=999999)(disch:=first|exact dZ|fail)only[gW,reduceIte,aX,aR,DW,Qz (SG _ _), *]|refine dX ?_ ?_<;>(intro _;try omega))
   exact⟨_,_,rfl,kX.out.fO (aJ _) _,.inl ⟨ke.out,rfl⟩⟩
 ·have nO:j=target.length - pv.length:=by omega
  subst nO;have e2:oN ae target=aa (oC (t',pv) ae.length):=by rw[e1,aF];rw[dU];intro a ha;obtain⟨i,hi⟩:=s8 ha;rw[nZ] at hi;have cH:=(aP.1 hi).1;exact bX (kz.out i ag a hi)
  rw[<-Xx] at e2;have ke:=aj.mk e2;have mk:=zw H3 ae.length ag .i64 .i64;have nm:aY ae.length (im 0)=(kU t' pv ae.length 0).map im:=by unfold kU;rw[fB,EB,wO]
  rw[nm] at mk;clear e1 e2 nm kz b0 s6 X0 T3 V pO;unfold im at mk;refine br @DW ?_;refine bG.gen λe0 aD bI cT cJ=>?_;have f4:e0.get 4=.arr H3.boxes.length 0 ae.length ae.length:=by rw[aD];exact gS
  have f6:e0.get 6=.ptr (.box h.boxes.length) 0:=by rw[aD];simp only[gW,reduceIte,aX,aR];exact g6
  have f7:e0.get 7=.v (.int .i64 (ae.length:Nat)):=by rw[aD];simp only[gW,reduceIte,aX,aR];exact g7
  have f8:e0.get 8=.arr tb 0 target.length target.length:=by rw[aD];simp only[gW,reduceIte,aX,aR];exact g8
  have f42:e0.get 42=.list tk s3 (ints (b7 pv)):=by rw[aD];exact gS
  have f43:e0.get 43=.v (.int .i64 (pv.length:Nat)):=by rw[aD];exact gS
  have f44:e0.get 44=.v (.int .i64 (0:Nat)):=by rw[aD];exact gR
  have fd:e0.defers=[(177,[.ptr (.box h.boxes.length) 0])]:=by rw[bI];simp only[gW,reduceIte,aX,aR];exact hd
  have fp:e0.cD=aq:=by rw[cT];simp only[gW,reduceIte,aX,aR];exact hp
  clear aD bI cT cJ g6 g7 g8 g9 g28 g29 g30 hd hp mk;refine cq (λm e H=>∃j:Nat,j<=pv.length/\m=pv.length - j/\e.get 4=.arr H3.boxes.length 0 ae.length ae.length/\e.get 6=.ptr (.box h.boxes.length) 0/\e.get 7=.v (.int .i64 (ae.length:Nat))/\e.get 8=.arr tb 0 target.length target.length/\e.get 42=.list tk s3 (ints (b7 pv))/\e.get 43=.v (.int .i64 (pv.length:Nat))/\e.get 44=.v (.int .i64 (j:Nat))/\e.defers=[(177,[.ptr (.box h.boxes.length) 0])]/\e.cD=aq/\H=H3.push ((kU t' pv ae.length j).map im)) ?_ pv.length _ _ ?_;rotate_left 1
  ·exact⟨0,cr _,rfl,f4,f6,f7,f8,f42,f43,f44,fd,fp,rfl⟩
  clear f4 f6 f7 f8 f42 f43 f44 fd fp;rintro m e H ⟨j,hj,rfl,g4,g6,g7,g8,g42,g43,g44,hd,hp,rfl⟩;obtain⟨T3,V,-,X0,b0,pO⟩:=kk.out;by_cases aA:j<pv.length
  ·obtain⟨p,fc⟩:∃p,pv[j]?=aa p:=⟨_,aO aA⟩;have xx:=V.lt j p fc;have bB:s3=1:=by
    rcases pO with q|⟨q,-⟩
    ·exact q
    ·exfalso;unfold b7 at q;rw[EG] at q;rw[q] at aA;exact rU _ aA
   subst bB;obtain⟨a,ha⟩:∃a,t'[j]?=aa a:=⟨_,aO ag⟩;obtain⟨b,hb⟩:∃b,B3[j]?=aa b:=⟨_,aO (by rw[T3.len];omega)⟩;have wa:=T3.wid a (de ha);have vD:(B3.map λb=>AV.arr b 0 (ae.length+1) (ae.length+1))[j]?=aa (.arr b 0 (ae.length+1) (ae.length+1)):=(by rw[dW,hb];rfl);have NM:ai (b7 pv) j=(p:Int):=(by have:(b7 pv)[j]?=aa (p:Int):=(by unfold b7;rw[dW,fc];rfl);unfold ai;rw[dP,this];rfl);have l0:=e7 (H:=H3.push ((kU t' pv ae.length j).map im)) (l:=b7 pv) (i:=j) (s:=1) (by unfold b7;rw[bu];exact aA);rw[NM] at l0;have m1:=sM (H:=H3.push ((kU t' pv ae.length j).map im)) (bg T3.gv) vD;have m2:=xQ (H:=H3.push ((kU t' pv ae.length j).map im)) (bg (T3.row _ _ _ hb ha)) (vW (k:=ae.length) ag);have ix1:=Dw (b:=tb) (len:=target.length) (aB:=target.length) (k:=.i64) (ag:j<target.length);have ix2:=pQ (b:=b) (len:=ae.length+1) (aB:=ae.length+1) (k:=.i64) (ag:ae.length<ae.length+1);have ix3:=pQ (b:=H3.boxes.length) (len:=ae.length) (aB:=ae.length) (k:=.i64) xx;have sk:=yd (H:=H3.push ((kU t' pv ae.length j).map im)) (b:=H3.boxes.length) (r:=kU t' pv ae.length j) (k:=p) (x:=ai a ae.length) (a9 _ _) (by rw[JL];exact xx);have gD:t'.getD j []=a:=(by rw[dP,ha];rfl);rw[oA,<-gD,Xy fc,gD] at sk;have fL:(j:Int)<(pv.length:Int):=(by omega);have z3:=fP;unfold im at *
   clear T3 V X0 b0 pO ha hb wa vD gD NM fc kk ke;refine bM @DW @a8 ?_;exact⟨pv.length - (j+1),by omega,j+1,by omega,rfl,by simp⟩
  ·have nO:j=pv.length:=(by omega);subst nO;have b1:(H3.push ((kU t' pv ae.length pv.length).map im)).boxes[h.boxes.length]?=aa [im 0]:=bg b0;have s6:=λn=>YV (n:=n) b1;have Ny:=(aP.1 b1).1;have l6:∀n,aI al Gt ((H3.push ((kU t' pv ae.length pv.length).map im)).put h.boxes.length [.v (.int .i64 n)]) 32 (.ptr (.box h.boxes.length) 0)=aa (.v (.int .i64 n)):=λn=>V7 (ev Ny);have bH:H3.boxes.length≠h.boxes.length:=(by have:=(aP.1 b0).1;omega);have kX:=aj.mk X0;clear T3 V X0 b0 b1 pO Ny
   repeat' (first|simp(maxSteps:=999999)(disch:=first|exact dZ|fail)only[gW,reduceIte,aX,aR,DW,Qz (SG _ _), *]|refine dX ?_ ?_<;>(intro _;try omega))
   exact⟨_,_,rfl,(kX.out.trans (.push _ _)).fO (aJ _) _,.inr ⟨_,_,ke.out,JL _ _ _ _,rfl,(cS bH).trans (a9 _ _)⟩⟩
def XZ:Tryz.f154.results.toList=[.tmp 6]:=au
def aot:Tryz.f155.results.toList=[.tmp 2]:=au
def aoq:Tryz.f151.results.toList=[.tmp 2]:=au
def aos:Tryz.f153.results.toList=[.tmp 2]:=au
def wj:Tryz.f97.results.toList=[.tmp 2]:=au
def Zy(n a b)(h):W2.call 154 [im n,im a,im b] h=aa (.ret (.v (.bool (decide (a<=n)&&decide (n<=b)))),h):=by
 unfold im;by_cases h0:a<=n
 ·have:decide (a<=n)=ah:=by simp[h0]
  refine cC rfl abe rfl ?_;exact jL @XZ @Bool.true_and
 ·have:decide (a<=n)=av:=by simp[h0]
  refine cC rfl abe rfl ?_;exact jL @XZ @zL
def uK(n:Int):Bool:=decide (0<=n)&&decide (n<=63)
def WY(n)(h):W2.call 155 [im n] h=aa (.ret (.v (.bool (uK n))),h):=by
 have w:=Zy n 0 63 h;unfold uK;unfold im at *
 refine cC rfl Tryz.func155 rfl ?_;exact lG @aot
def aju(a)(r)(ha:IL a r)(h):W2.call 151 [a] h=aa (.ret (.v (.bool (decide (64<r.length)))),h):=by
 obtain⟨k,s,rfl,-⟩:=ha;have u23:=dJ;have hl:=dn r;have hd:decide (64<r.length)=decide ((64:Int)<(r.length:Int)):=by rw[decide_eq_decide];omega
 rw[hd];refine cC rfl Tryz.func151 rfl ?_;exact lG @aoq
def akd(n)(h):W2.call 153 [im n] h=aa (.ret (.v (.bool (!da n))),h):=by
 have w:=Zy n 0 1073741788 h;have e:da n=(decide (0<=n)&&decide (n<=1073741788)):=by unfold da Qi;congr 1;rw[decide_eq_decide];omega
 rw[e];unfold im at *
 refine cC rfl Tryz.func153 rfl ?_;exact lG @aos
def LB:gx al 22=aa av:=au
def wT:gx al 25=aa ah:=au
def dw{b}:gQ al 25 (.ptr (.box b) 0) 0=aa (.ptr (.box b) 0):=au
def eG{b}:gQ al 25 (.ptr (.box b) 0) 1=aa (.ptr (.box b) 1):=au
def rE{H}{b}{x y}(hb:H.boxes[b]?=aa [x,y]):aI al Gt H 22 (.ptr (.box b) 0)=aa x:=by rw[lP LB hb];rfl
def DC{H}{b}{x y}(hb:H.boxes[b]?=aa [x,y]):aI al Gt H 23 (.ptr (.box b) 1)=aa y:=by rw[lP oI hb];rfl
def r8(ae:List (List Int))(owners:List Int)(i:Nat):Bool:= !(ae.getD i []).isEmpty&&decide ((ae.getD i []).length=(ae.getD 0 []).length)&&(decide (0<=ai owners i)&&decide (ai owners i<=63))&&(ae.getD i []).all da
def SP(h:ak)(x y:AV)(ae:List (List Int))(owners:List Int)(hx:RL x ae)(hy:IL y owners):
 ∃h',W2.call 97 [.agg [x,y]] h=aa (.ret (.v (.int .i64 (cR ae owners))),h')/\h'=h.push [x,y]:=by
 have c1:=λ(hl:ae.length<=64)=>aeH 151 (λr=>decide (64<r.length)) (h.push [x,y]) x ae hx ag (λa r _ ha=>aju a r ha _);obtain⟨k,s,xs,rfl,hs,dx,dR⟩:=hx;obtain⟨ky,sy,rfl,jX⟩:=hy;have kk:=aj.mk (ar hs (ar dR jX));clear hs dR jX;have u23:=dJ;have u22:=iq;have z23:=iM;have z3:=fP;have cH:(xs.map λa=>[a]).length=ae.length:=by rw[bu];exact dx
 have ry:=dn owners;have b0:(h.push [.list k s (xs.map λa=>[a]),.list ky sy (ints owners)]).boxes[h.boxes.length]?=aa [.list k s (xs.map λa=>[a]),.list ky sy (ints owners)]:=a9 _ _;have l0:=rE b0;have l1:=DC b0;have bx:(AV.agg [.list k s (xs.map λa=>[a]),.list ky sy (ints owners)]).b8=aa [.list k s (xs.map λa=>[a]),.list ky sy (ints owners)]:=rfl;clear b0;unfold cR;refine gP rfl Tryz.func97 rfl ?_;by_cases h1:64<ae.length
 ·have hq:decide ((64:Int)<(ae.length:Int))=ah:=by simp;omega
  rw[aF (by simp[h1])];clear c1;generalize hH:h.push [.list k s (xs.map λa=>[a]),.list ky sy (ints owners)]=H at *
  refine bJ @wj @dw @eG (ar @bL @hH) ?_;exact⟨_,rfl,rfl⟩
 have hq:decide ((64:Int)<(ae.length:Int))=av:=by simp;omega
 have c2:=c1 ag;have eL:decide (64<ae.length)=av:=by simp[h1]
 rw[eL,ZU];clear c1 eL;cases h2:ae.any λr=>decide (64<r.length) with
 |true=>rw[h2] at c2;rw[aF rfl];clear h2;refine bJ @wj @dw @eG @bL ?_;exact⟨_,rfl,rfl⟩|false=>
  rw[h2] at c2;rw[aG bh];by_cases h3:ae.length=owners.length;rotate_left 1
  ·rw[aF h3];clear h2;have hn:¬((ae.length:Int)=(owners.length:Int)):=(by omega);refine bJ @wj @dw @eG @bL ?_;exact⟨_,rfl,rfl⟩
  rw[aG (by simpa using h3)];have vw:=aj.mk h2;have hn:(ae.length:Int)=(owners.length:Int):=by omega
  have kn:=aj.mk h3;clear h2 h3;obtain⟨H,hH⟩:∃H,h.push [.list k s (xs.map λa=>[a]),.list ky sy (ints owners)]=H:=⟨_,rfl⟩;rw[hH] at l0 l1 c2;rw[hH];generalize gH:(if ((bO ae.length).all λi=> !(ae.getD i []).isEmpty&&decide ((ae.getD i []).length=(ae.getD 0 []).length)&&(decide (0<=ai owners i)&&decide (ai owners i<=63))&&(ae.getD i []).all da)=ah then (0:Int) else 230)=res;have kres:aj (res=if ((bO ae.length).all (r8 ae owners))=ah then (0:Int) else 230):=⟨gH.symm⟩;have kH:=aj.mk hH;clear gH hn;have eg:ae.length<=64:=by omega
  have De:(owners.length:Int)=(ae.length:Int):=by have:=kn.out;omega
  refine bJ @wj @dw @eG (ar @bL @hH) ?_;refine bG.gen λe0 aD bI cT cJ=>?_;have f1:e0.get 1=.ptr (.box h.boxes.length) 0:=by rw[aD];exact gS
  have f25:e0.get 25=.list k s (xs.map λa=>[a]):=by rw[aD];exact gS
  have f26:e0.get 26=.v (.int .i64 (ae.length:Nat)):=by rw[aD];exact gS
  have f27:e0.get 27=.v (.int .i64 (0:Nat)):=by rw[aD];exact gR
  have fd:e0.defers=[]:=by rw[bI];exact gS
  clear aD bI cT cJ hH bx c2 hq h1;refine cq (λm e H2=>∃i:Nat,i<=ae.length/\m=ae.length - i/\aj (∀j,j<i->r8 ae owners j=ah)/\e.get 1=.ptr (.box h.boxes.length) 0/\e.get 25=.list k s (xs.map λa=>[a])/\e.get 26=.v (.int .i64 (ae.length:Nat))/\e.get 27=.v (.int .i64 (i:Nat))/\e.defers=[]/\H2=H) ?_ ae.length _ _ ?_;rotate_left 1
  ·exact⟨0,cr _,rfl,⟨λj hj=>absurd hj (rU _)⟩,f1,f25,f26,f27,fd,rfl⟩
  clear f1 f25 f26 f27 fd;rintro m e H2 ⟨i,hi,rfl,kf,g1,g25,g26,g27,hd,Ua⟩;rw[<-Ua] at l0 l1 kH ⊢;clear Ua;by_cases aA:i<ae.length;rotate_left 1
  ·have fK:i=ae.length:=(by omega);subst fK;have h0:res=0:=(by rw[kres.out,aF];rw[dU];intro j hj;exact kf.out j (fY.1 hj));have k0:=aj.mk h0;clear h0;refine br @wj ?_;exact⟨_,by rw[k0.out],rfl⟩
  have bB:s=1:=kk.out.1 (by intro q;rw[q] at aA;simp at aA);subst bB;have lM:sy=1:=kk.out.2.2 (by intro q;have h0:=kn.out;rw[q,jI] at h0;omega);subst lM;obtain⟨a,fD⟩:∃a,xs[i]?=aa a:=⟨_,aO ag⟩;obtain⟨r,hv⟩:∃r,ae[i]?=aa r:=⟨_,aO aA⟩;obtain⟨a0,fJ⟩:∃a,xs[0]?=aa a:=⟨_,aO ag⟩;obtain⟨r0,fM⟩:∃r,ae[0]?=aa r:=⟨_,aO ag⟩;have ld:=jY (H:=H2) (s:=1) fD;have ld0:=jY (H:=H2) (s:=1) fJ;have xu:=kk.out.2.1 i a r fD hv;obtain⟨ka,sa,rfl,iZ⟩:=xu;obtain⟨ka0,sa0,rfl,oR⟩:=kk.out.2.1 0 a0 r0 fJ fM;have cO:=dn r;have sI:=dn r0;have ldo:=e7 (H:=H2) (l:=owners) (i:=i) (s:=1) (by have:=kn.out;omega);have Ut:r.length<=64:=by have:=vw.out;rw[aal] at this;have:=this r (de hv);simpa using this
  have cc:=SY 153 (λn=> !da n) H2 (.list ka sa (ints r)) r ⟨_,_,rfl,iZ⟩ ag (λn _=>akd n H2);have cp:=WY (ai owners i) H2;have y5:r8 ae owners i=(!r.isEmpty&&decide (r.length=r0.length)&&uK (ai owners i)&&r.all da):=by unfold r8 uK;have g1:ae.getD i []=r:=(by rw[dP,hv];rfl);have g2:ae.getD 0 []=r0:=(by rw[dP,fM];rfl);rw[g1,g2]
  have lH:(r.any λn=> !da n)= !(r.all da):=by rw[List.any_eq_not_all_not];simp
  rw[lH] at cc;have fV:=aj.mk y5;have bad:r8 ae owners i=av->res=230:=by intro q;rw[kres.out,aG];intro z;rw[dU] at z;have:=z i (fY.2 aA);rw[q] at this;cases this
  have kbad:=aj.mk bad;have fL:(i:Int)<(ae.length:Int):=by omega
  have yR:(0:Int)<(ae.length:Int):=by omega
  have z0:(0:Int).toNat=0:=rfl;clear y5 bad lH Ut fD hv iZ fJ fM oR;unfold im at *
  generalize ai owners i=o at *
  by_cases e1:r.length=0
  ·have rz:decide ((r.length:Int)=0)=ah:=(by simp[e1]);have hb:res=230:=kbad.out (by rw[fV.out,List.length_eq_zero_iff.1 e1];rfl);have kb:=aj.mk hb;clear hb e1 cc cp;refine bJ @wj @dw @eG @a8 ?_;exact⟨_,by rw[kb.out],rfl⟩
  have rz:decide ((r.length:Int)=0)=av:=by simp[e1]
  have ia:r.isEmpty=av:=by cases r with|nil=>exact absurd rfl e1|cons _ _=>rfl
  by_cases e2:r.length=r0.length;rotate_left 1
  ·have qs:decide ((r.length:Int)=(r0.length:Int))=av:=(by simp;omega);have hb:res=230:=kbad.out (by rw[fV.out,ia,cI e2];rfl);have kb:=aj.mk hb;clear hb e1 e2 ia cc cp;refine bJ @wj @dw @eG @a8 ?_;exact⟨_,by rw[kb.out],rfl⟩
  have qs:decide ((r.length:Int)=(r0.length:Int))=ah:=by simp;omega
  cases e3:uK o with
  |false=>have hb:res=230:=kbad.out (by rw[fV.out,e3];simp);have kb:=aj.mk hb;rw[e3] at cp;clear hb e1 e2 ia cc e3;refine bJ @wj @dw @eG @a8 ?_;exact⟨_,by rw[kb.out],rfl⟩
  |true=>
   rw[e3] at cp;cases e4:r.all da with
   |false=>have hb:res=230:=kbad.out (by rw[fV.out,e4];simp);have kb:=aj.mk hb;rw[e4] at cc;clear hb e1 e2 ia e3 e4;refine bJ @wj @dw @eG @a8 ?_;exact⟨_,by rw[kb.out],rfl⟩
   |true=>
    rw[e4] at cc;have kf2:aj (∀j,j<i+1->r8 ae owners j=ah):=⟨λj hj=>by
     rcases dI j i with q|q
     ·exact kf.out j q
     ·rw[(ag:j=i),fV.out,ia,bX e2,e3,e4];rfl⟩
    clear e1 e2 ia e3 e4 fV kf;refine bJ @wj @dw @eG @a8 ?_;exact⟨ae.length - (i+1),by omega,i+1,by omega,rfl,kf2,by simp⟩
def D2:Tryz.f198.results.toList=[.tmp 4,.tmp 5]:=au
def aoI:Tryz.f216.results.toList=[.tmp 4]:=au
def aoJ:Tryz.f217.results.toList=[.tmp 2]:=au
def aoM:Tryz.f226.results.toList=[.tmp 2]:=au
def Wv(n)(h):W2.call 226 [im n] h=aa (.ret (.v (.bool av)),h):=by
 unfold im;refine cC rfl Tryz.func226 rfl ?_
 repeat' (first|simp(maxSteps:=999999)(disch:=first|exact dZ|fail)only[gW,reduceIte,aX,aR,aoM,ne_eq,not_true_eq_false,decide_false, *]|refine dX ?_ ?_<;>(intro _;try omega))
def aj1(n)(h):W2.call 217 [im n] h=aa (.ret (.v (.bool av)),h):=by
 unfold im;refine cC rfl Tryz.func217 rfl ?_
 repeat' (first|simp(maxSteps:=999999)(disch:=first|exact dZ|fail)only[gW,reduceIte,aX,aR,aoJ,ne_eq,not_true_eq_false,decide_false, *]|refine dX ?_ ?_<;>(intro _;try omega))
def aje(a b)(h):W2.call 216 [im a,im b] h=aa (.ret (.v (.bool (decide (a<b)))),h):=by
 have n1:=Wv a h;have n2:=Wv b h;unfold im at *
 refine cC rfl Tryz.func216 rfl ?_;exact lG @aoI
def S5(n)(h):mK al h 179 3 (.v (.int .u64 n))=aa (.v (.int .i64 (IntKind.i64.wrap n)),h):=au
def YC{t}{x y}{n}:cN al .shr t x y (.v (.int .u64 (n:Nat))) (.v (.int .u64 1))=aa (.v (.int .u64 ((n/2:Nat):Int))):=by rw[Am aK];congr 3;show((n:Nat):Int).fdiv (2^1)=_;rw[Int.fdiv_eq_ediv_of_nonneg _ aK];simp
def asr{n}(h:n<18446744073709551616):IntKind.u64.wrap (n:Nat)=(n:Nat):=by show((n:Nat):Int).emod 18446744073709551616=_;exact Int.emod_eq_of_lt ag ag
def Hs(aw:List Int):Prop:=∀i j:Nat,i<j->j<aw.length->ai aw i<ai aw j
def LI{l}{i}(h:i<l.length):ai l i∈l:=by rw[fI h];exact iD h
def Wo{l}{x}(h:x∈l):∃i,i<l.length/\ai l i=x:=by obtain⟨i,hi,rfl⟩:=aax h;exact⟨i,hi,fI hi⟩
def apF(h:ak)(x:AV)(aw:List Int)(o:Int)(hx:IL x aw)(hs:Hs aw)(hl:aw.length<=1000000):
 ∃r h',W2.call 198 [x,im o] h=aa (r,h')/\h'=h/\∃i:Int,r=.ret (.tuple [im i,.v (.bool (aw.contains o))]):=by
 obtain⟨k,s,rfl,dH⟩:=hx;have kk:=aj.mk (ar dH hs);clear dH hs;have u23:=dJ;have z3:=fP;have cH:=dn aw;have vK:=λn=>aj1 n h;unfold im at *
 refine df rfl Tryz.func198 rfl ?_;refine br @D2 ?_;refine bG.gen λe0 aD bI cT cJ=>?_;have f0:e0.get 0=.list k s (ints aw):=by rw[aD];exact gS
 have f1:e0.get 1=.v (.int .i64 o):=by rw[aD];exact gS
 have f6:e0.get 6=.v (.int .i64 (aw.length:Nat)):=by rw[aD];exact gS
 have f7:e0.get 7=.v (.int .i64 (0:Nat)):=by rw[aD];exact gR
 have f8:e0.get 8=.v (.int .i64 (aw.length:Nat)):=by rw[aD];exact gS
 have fd:e0.defers=[]:=by rw[bI];exact gS
 clear aD bI cT cJ;refine cq (λm e H=>∃lo hi:Nat,lo<=hi/\hi<=aw.length/\m=hi - lo/\aj ((∀j,j<lo->ai aw j<o)/\∀j,hi<=j->j<aw.length->o<=ai aw j)/\e.get 0=.list k s (ints aw)/\e.get 1=.v (.int .i64 o)/\e.get 6=.v (.int .i64 (aw.length:Nat))/\e.get 7=.v (.int .i64 (lo:Nat))/\e.get 8=.v (.int .i64 (hi:Nat))/\e.defers=[]/\H=h) ?_ aw.length _ _ ?_;rotate_left 1
 ·exact⟨0,aw.length,cr _,aJ _,rfl,⟨λj hj=>absurd hj (rU _),λj h1 h2=>by omega⟩,f0,f1,f6,f7,f8,fd,rfl⟩
 clear f0 f1 f6 f7 f8 fd;rintro m e H ⟨lo,hi,h1,h2,rfl,kI,g0,g1,g6,g7,g8,hd,rfl⟩;by_cases aA:lo<hi
 ·have bB:s=1:=kk.out.1 (by intro q;rw[q,jI] at h2;omega);subst bB;obtain⟨md,A8⟩:∃md:Nat,(lo+hi)/2=md:=⟨_,rfl⟩;have ld:=e7 (H:=H) (l:=aw) (i:=md) (s:=1) ag;have ls:=aje (ai aw md) o H;have fL:(lo:Int)<(hi:Int):=by omega
  have yU:(lo:Int)+(hi:Int)=((lo+hi:Nat):Int):=by omega
  have hw1:IntKind.u64.wrap ((lo+hi:Nat):Int)=((lo+hi:Nat):Int):=asr ag;have nt:IntKind.i64.wrap (((lo+hi)/2:Nat):Int)=((md:Nat):Int):=by rw[A8];exact gf ag ag
  have atd:(md:Int)<(aw.length:Int):=by omega
  unfold im at ls;by_cases hc:ai aw md<o
  ·have Fz:decide (ai aw md<o)=ah:=(by simp[hc]);rw[Fz] at ls;have kI2:aj ((∀j,j<md+1->ai aw j<o)/\∀j,hi<=j->j<aw.length->o<=ai aw j):=⟨λj hj=>by
    rcases dI j md with q|q
    ·exact aab (kk.out.2 j md q ag) hc
    ·rw[(ag:j=md)];exact hc,kI.out.2⟩
   have khm:=aj.mk A8;clear hc Fz A8;refine bJ @D2 @a8 @tg (ar @S5 @YC) ?_;have:=khm.out;exact⟨hi - (md+1),by omega,md+1,hi,by omega,h2,rfl,kI2,aQ,aQ,aQ,by simp,rfl,aQ,aQ⟩
  ·have Fz:decide (ai aw md<o)=av:=(by simp[hc]);rw[Fz] at ls;have kI2:aj ((∀j,j<lo->ai aw j<o)/\∀j,md<=j->j<aw.length->o<=ai aw j):=⟨kI.out.1,λj hj UU=>by
    rcases dI md j with q|q
    ·have:=kk.out.2 md j q UU;omega
    ·rw[(ag:j=md)];omega⟩
   have khm:=aj.mk A8;clear hc Fz A8;refine bJ @D2 @a8 @tg (ar @S5 @YC) ?_;have:=khm.out;exact⟨md - lo,by omega,lo,md,by omega,by omega,rfl,kI2,aQ,aQ,aQ,rfl,by simp,aQ,aQ⟩
 ·have eg:lo=hi:=by omega
  subst eg;have iG:∀j,j<aw.length->ai aw j=o->j=lo:=by
   intro j hj he;rcases Nat.lt_trichotomy j lo with q|q|q
   ·have:=kI.out.1 j q;omega
   ·exact q
   ·have h3:=kk.out.2 lo j q hj;have h4:=kI.out.2 lo (aJ _) ag;omega
  by_cases iu:lo<aw.length
  ·have bB:s=1:=kk.out.1 (by intro q;rw[q,jI] at iu;omega);subst bB;have ld:=e7 (H:=H) (l:=aw) (i:=lo) (s:=1) iu;have fL:(lo:Int)<(aw.length:Int):=(by omega);have hdI:decide ((lo:Int)<(aw.length:Int))=ah:=(by simp[iu]);by_cases hv:ai aw lo=o
   ·have hc:aw.contains o=ah:=(by rw[Ce,bX (by rw[<-hv];exact LI iu)]);have kc:=aj.mk hc;have eL:decide (ai aw lo=o)=ah:=(by simp[hv]);clear hc hv iG;refine bM @D2 @a8 ?_;exact⟨_,_,rfl,rfl,_,by rw[kc.out]⟩
   ·have hc:aw.contains o=av:=(by rw[Ce,cI];intro q;obtain⟨j,j1,j2⟩:=Wo q;have:=iG j j1 j2;subst this;exact hv j2);have kc:=aj.mk hc;have eL:decide (ai aw lo=o)=av:=(by simp[hv]);clear hc hv iG;refine bM @D2 @a8 ?_;exact⟨_,_,rfl,rfl,_,by rw[kc.out]⟩
  ·have hc:aw.contains o=av:=(by rw[Ce,cI];intro q;obtain⟨j,j1,j2⟩:=Wo q;have:=iG j j1 j2;omega);have kc:=aj.mk hc;have eg:lo=aw.length:=(by omega);subst eg;have hdI:decide ((aw.length:Int)<(aw.length:Int))=av:=(by simp);clear hc iG;refine bM @D2 @a8 ?_;exact⟨_,_,rfl,rfl,_,by rw[kc.out]⟩
def aoz:Tryz.f176.results.toList=[.tmp 4]:=au
def D1:Tryz.f197.results.toList=[]:=au
def aky(h:ak)(x y z:AV)(bx:(AV.agg [x,y]).b8=aa [x,y])(hz:z.b8=aa [z]):W2.call 176 [.agg [x,y],z] h=aa (.ret (.func (.func 197) [] [.ptr (.box h.boxes.length) 0,.ptr (.box (h.boxes.length+1)) 0]),(h.push [x,y]).push [z]):=by refine cC rfl Tryz.func176 rfl ?_;exact sf @aoz @bL @cK
def akz(l pb wb:Nat)(k0:Tok)(s0:Nat)(xs:List AV)(y z:AV)(ae:List (List Int))(owners aw:List Int)(Inv:Nat->ak->Prop)
 (hy:IL y owners) (hz:IL z aw) (dx:xs.length=ae.length) (ry:owners.length=ae.length) (ux:ae≠[]->s0=1) (Fu:Hs aw) (jQ:aw.length<=1000000) (cO:ae.length<=1000000)
 (h1:∀k H,Inv k H->H.boxes[pb]?=aa [.list k0 s0 (xs.map λa=>[a]),y]/\H.boxes[wb]?=aa [z])
 (hR:∀k a H,k<ae.length->xs[k]?=aa a->aw.contains (ai owners k)=ah->Inv k H->∃H',W2.round l [im (k:Nat),a] H=aa (.ret (.v (.bool ah)),H')/\Inv (k+1) H')
 (hS:∀k H,k<ae.length->aw.contains (ai owners k)=av->Inv k H->Inv (k+1) H)
 (H0:ak) (h0:Inv 0 H0):∃H',W2.call 197 [.yield l,.ptr (.box pb) 0,.ptr (.box wb) 0] H0=aa (.ret (.tuple []),H')/\Inv ae.length H':=by
 have kk:=aj.mk (ar h1 (ar hR (ar hS (ar h0 (ar ux (ar Fu hz))))));obtain⟨b1,b2⟩:=h1 0 H0 h0;have l1:=rE b1;obtain⟨ky,sy,rfl,jX⟩:=hy;have ksy:=aj.mk jX;clear h1 hR hS h0 ux Fu hz b1 b2 jX;have u23:=dJ;have u22:=iq;have z3:=fP;have z23:=iM;have cH:(xs.map λa=>[a]).length=ae.length:=by rw[bu];exact dx
 have xu:(ints owners).length=ae.length:=by rw[dn];exact ry
 refine gP rfl Tryz.func197 rfl ?_;refine cY @D1 @dw @eG ?_;refine cq (λm e H=>∃k:Nat,k<=ae.length/\m=ae.length - k/\aj (Inv k H)/\e.get 0=.yield l/\e.get 1=.ptr (.box pb) 0/\e.get 2=.ptr (.box wb) 0/\e.get 9=.list k0 s0 (xs.map λa=>[a])/\e.get 10=.v (.int .i64 (ae.length:Nat))/\e.get 11=.v (.int .i64 (k:Nat))/\e.defers=[]) ?_ ae.length _ _ ?_;rotate_left 1
 ·refine⟨0,cr _,rfl,⟨kk.out.2.2.2.1⟩,?_,?_,?_,?_,?_,?_,?_⟩<;>exact gR
 clear l1;rintro m e H ⟨k,hk,rfl,kI,g0,g1,g2,g9,g10,g11,hd⟩;by_cases aA:k<ae.length;rotate_left 1
 ·have:k=ae.length:=by omega
  subst this;refine br @D1 ?_;exact⟨_,rfl,kI.out⟩
 obtain⟨b1,b2⟩:=kk.out.1 k H kI.out;have bB:s0=1:=kk.out.2.2.2.2.1 (by intro q;rw[q,jI] at aA;omega);subst bB;have lM:sy=1:=ksy.out (by intro q;rw[q,jI] at ry;omega);subst lM;obtain⟨a,ha⟩:∃a,xs[k]?=aa a:=⟨_,aO ag⟩;have ld:=jY (H:=H) (s:=1) ha;have lo:=e7 (H:=H) (l:=owners) (i:=k) (s:=1) ag;have l1:=DC b1;have l2:=uA b2;obtain⟨_,H2,cs,e2,i,rfl⟩:=apF H z aw (ai owners k) kk.out.2.2.2.2.2.2 kk.out.2.2.2.2.2.1 jQ;rw[e2] at cs;clear e2 b1 b2;have fL:(k:Int)<(ae.length:Int):=by omega
 cases hc:aw.contains (ai owners k) with
 |true=>
  obtain⟨H',r1,r2⟩:=kk.out.2.1 k a H aA ha hc kI.out;rw[hc] at cs;have kI2:=aj.mk r2;clear r2 ha hc kI;unfold im at *
  refine bJ @D1 @dw @eG @a8 ?_;refine ey yE au ?_;refine bJ @D1 @dw @eG (ar @a8 @Aq) ?_;exact⟨ae.length - (k+1),by omega,k+1,by omega,rfl,kI2,by simp⟩
 |false=>
  have kI2:=aj.mk (kk.out.2.2.1 k H aA hc kI.out);rw[hc] at cs;clear ha hc kI;unfold im at *
  refine bJ @D1 @dw @eG @a8 ?_;refine ey yE au ?_;refine bJ @D1 @dw @eG (ar @a8 @Aq) ?_;exact⟨ae.length - (k+1),by omega,k+1,by omega,rfl,kI2,by simp⟩
structure Ai(h H:ak)(t1 t2:Tok):Prop where
 c1:dj h.tn H t1
 c2:dj h.tn H t2
 ne:∀a,t1=.free a->t2≠ .free a
 ok:cA H=ah
 ext:Ext h H
def Ib{n0}{H}{t k}(hk:dj n0 H k)(bH:∀a,t=.free a->k≠ .free a):dj n0 (H.app t) k:=by
 rcases hk with q|q|⟨m,rfl,q1,q2⟩
 ·exact .inl q
 ·exact .inr (.inl q)
 ·refine .inr (.inr ⟨m,rfl,q1,?_⟩);have aA:=tX q2;unfold alive at *
  simp only[bC,yk,Ce,decide_eq_false_iff_not,decide_eq_true_eq] at *
  refine⟨by rw[Cv];omega,?_⟩;cases t with
  |free a=>
   intro hm;rcases gO.1 hm with e|e
   ·exact bH a rfl (by rw[e])
   ·exact q2.2 e
  |_=>exact q2.2
def Ai.app{h H}{t1 t2}(w:Ai h H t1 t2):dj h.tn (H.app t1) t2/\Ai h ((H.app t1).app t2) (.free H.tn) (.free (H.app t1).tn):=by
 have hn:=w.ext.tn;have g1:=Grown.one (n0:=h.tn) w.c1 w.ok hn;have c2:=Ib w.c2 w.ne;have g2:=Grown.one (n0:=h.tn) c2 g1.ok (fe hn g1.tn);refine⟨c2,?_,g2.can,?_,g2.ok,g2.ext (g1.ext w.ext (aJ _)) (aJ _)⟩
 ·refine Ib g1.can λa ha he=>?_;injection he with he;subst he;rcases c2 with q|q|⟨m,q,-,q2⟩
  ·rw[q] at ha;cases ha
  ·rw[q] at ha;cases ha
  ·rw[q] at ha;injection ha with ha;subst ha;rcases w.c2 with z|z|⟨m2,z,-,z2⟩
   ·rw[z] at q;cases q
   ·rw[z] at q;cases q
   ·rw[z] at q;injection q with q;have:=tX z2;omega
 ·intro a ha he;injection ha with ha;injection he with he;rw[Cv] at he;omega
def Ai.put{h H}{t1 t2}(w:Ai h H t1 t2){b}(hb:h.boxes.length<=b)(cs):Ai h (H.put b cs) t1 t2:=⟨w.c1,w.c2,w.ne,w.ok,w.ext.fO hb cs⟩
def wh:Tryz.f143.results.toList=[.cell 4 22,.cell 5 23,.tmp 6,.tmp 7]:=au
def asB:(iN al 22).bind AV.b8=aa [.list .nil 0 []]:=au
def asC:(iN al 23).bind AV.b8=aa [.list .nil 0 []]:=au
def arn:dm al 22=aa 1:=au
def RX{H}{k}{n0 sz}{es}{x}(hl:es.length<1000000)(hs:sz=1∨(es=[]/\k=.nil))(hk:dj n0 H k):
 gq al H #[22,22] (.list k sz (es.map λa=>[a])) (.list .tight 1 [[x]])=aa (.list (.free H.tn) 1 ((es++[x]).map λa=>[a]),H.app k):=by
 obtain⟨i,q1,q2,q3,q4⟩:=Jk;have hb:=pg (ag:es.length+1<=1000000) q3;have:=E6 (t0:=22) (t1:=22) (n0:=n0) (i:=i) (sz:=sz) (es:=es.map λa=>[a]) (new:=[[x]]) (x:=.list .tight 1 [[x]]) iq (.inl ⟨_,iq⟩) q1 ag (by rw[q2];exact q4) (by rw[q2];rfl) bh
  (by simp only[bu,iW,jI,oF];omega) (by simp only[bu,iW,jI];omega) (hs.imp (λq=>q.trans q2.symm) λq=>⟨by rw[q.1];rfl,q.2⟩) hk
 rw[q2] at this;rw[lU];exact this
def iA(xs:List AV)(owners aw:List Int)(k:Nat):List AV:=((bO k).filter λi=>aw.contains (ai owners i)).map λi=>xs.getD i default
def eO(owners aw:List Int)(k:Nat):List Nat:=(bO k).filter λi=>aw.contains (ai owners i)
def Xd{owners aw}{k}(h:aw.contains (ai owners k)=ah):eO owners aw (k+1)=eO owners aw k++[k]:=by unfold eO;rw[ob,Cg,K3,aF h];rfl
def Xc{owners aw}{k}(h:aw.contains (ai owners k)=av):eO owners aw (k+1)=eO owners aw k:=by unfold eO;rw[ob,Cg,K3,aG (by rw[h];simp)];simp
def Xb{xs}{owners aw}{k}{a}(h:aw.contains (ai owners k)=ah)(ha:xs[k]?=aa a):iA xs owners aw (k+1)=iA xs owners aw k++[a]:=by
 have e:xs.getD k default=a:=by rw[dP,ha];rfl
 unfold iA;rw[ob,Cg,K3,aF h,List.filter_nil,lU,eo,List.map_nil,e]
def Xa{xs}{owners aw}{k}(h:aw.contains (ai owners k)=av):iA xs owners aw (k+1)=iA xs owners aw k:=by unfold iA;rw[ob,Cg,K3,aG (by rw[h];simp)];simp
def WZ{xs}{owners aw}{k}:(iA xs owners aw k).length<=k:=by unfold iA;rw[bu];exact fe (EF _ _) bh
def WX:∀(aw:List Int) (cE:Int),fW cE aw=ah->(∀i,i<aw.length->cE<ai aw i)/\Hs aw:=by
 intro aw
 induction aw with
 |nil=>exactλ_ _=>⟨λi hi=>absurd hi (rU _),λi j _ hj=>absurd hj (rU _)⟩|cons n l ih=>
  intro cE h;unfold fW at h;simp only[bC,decide_eq_true_eq] at h;obtain⟨i1,i2⟩:=ih n h.2;refine⟨λi hi=>?_,λi j lJ hj=>?_⟩
  ·cases i with|zero=>exact h.1.1|succ i=>exact aab h.1.1 (i1 i (by simpa using hi))
  ·cases j with
   |zero=>omega|succ j=>
    cases i with|zero=>exact i1 j (by simpa using hj)|succ i=>exact i2 i j ag (by simpa using hj)
def Jo{H}{b}{x}(hb:H.boxes[b]?=aa [x]):aI al Gt H 22 (.ptr (.box b) 0)=aa x:=by rw[lP LB hb];rfl
def Ql{H}{b}{x}{k}{s}{es}(hb:H.boxes[b]?=aa [x]):ct al H 22 (.ptr (.box b) 0) (.list k s es)=aa (H.put b [.list k s es]):=gL (off:=0) (cs:=[x]) (xs:=[.list k s es]) rfl arn hb rfl (aJ 1)
def Ks{H}{b}{x}{k}{s}{es}(hb:H.boxes[b]?=aa [x]):ct al H 23 (.ptr (.box b) 0) (.list k s es)=aa (H.put b [.list k s es]):=gL (off:=0) (cs:=[x]) (xs:=[.list k s es]) rfl iM hb rfl (aJ 1)
def Hi:dm al 25=aa 2:=au
def uB{H}{b}{x y}(hb:H.boxes[b]?=aa [x,y]):aI al Gt H 25 (.ptr (.box b) 0)=aa (.agg [x,y]):=by rw[ja wT Hi hb (aJ 2)];rfl
def acg{aw}(h:Hs aw)(h0:∀i,i<aw.length-> -1<ai aw i):∀i:Nat,i<aw.length->(i:Int)<=ai aw i:=by
 intro i
 induction i with
 |zero=>intro hi;have:=h0 0 hi;omega|succ i ih=>intro hi;have h1:=ih ag;have h2:=h i (i+1) ag hi;omega
def akY:∀(aw:List Int) (cE:Int),fW cE aw=ah->∀i,i<aw.length->ai aw i<=63:=by
 intro aw
 induction aw with
 |nil=>exactλ_ _ i hi=>absurd hi (rU _)|cons n l ih=>
  intro cE h i hi;unfold fW at h;simp only[bC,decide_eq_true_eq] at h;cases i with|zero=>exact h.1.2|succ i=>exact ih n h.2 i (by simpa using hi)
def acf{aw}(h:fW (-1) aw=ah):aw.length<=64:=by
 obtain⟨h1,h2⟩:=WX aw (-1) h;rcases dI 64 aw.length with q|q
 ·have h3:=acg h2 h1 64 q;have h4:=akY aw (-1) h 64 q;omega
 ·exact q
def GZ(k)(s)(l):eT (.list k s (ints l)) (.list k s (ints l))=ah:=by
 have h:pV (ints l) (ints l)=ah:=by
  induction l with
  |nil=>simp[ints,pV]|cons n l ih=>have:ints (n::l)=[.v (.int .i64 n)]::ints l:=rfl;rw[this];simp[pV,nT,eT,mj,ih]
 rw[eT,h,Bool.and_true];cases k<;>simp[wm]
def Sq{H:ak}{l}{r}{t}:(H.busy l r).app t=(H.app t).busy l r:=by cases t<;>rfl
def afT{H:ak}{l}{r}{t1 t2}{b1 b2}{c1 c2}:({boxes:=(((((H.busy l r).app t1).app t2).put b1 c1).put b2 c2).boxes,loops:=H.loops,tn:=(((((H.busy l r).app t1).app t2).put b1 c1).put b2 c2).tn,dead:=(((((H.busy l r).app t1).app t2).put b1 c1).put b2 c2).dead}:ak)=(((H.app t1).app t2).put b1 c1).put b2 c2:=by cases t1<;>cases t2<;>rfl
def HP(h:ak)(L:List ij)(b1 b2 b3 b4 b5:Nat)(ta xy zz:List AV)(xs:List AV)(owners aw:List Int)(k:Nat)(H:ak):Prop:=
 ∃t1 s1 t2 s2,H.loops=L/\H.boxes[b1]?=aa [.list t1 s1 ((iA xs owners aw k).map λa=>[a])]/\H.boxes[b2]?=aa [.list t2 s2 (ints (b7 (eO owners aw k)))]/\(s1=1∨(iA xs owners aw k=[]/\t1=.nil))/\(s2=1∨(b7 (eO owners aw k)=[]/\t2=.nil))/\Ai h H t1 t2/\H.boxes[b3]?=aa ta/\H.boxes[b4]?=aa xy/\H.boxes[b5]?=aa zz
def alU(l)(k:Nat):b7 (l++[k])=b7 l++[(k:Int)]:=by unfold b7;simp
def ak0{owners aw}{k}:(b7 (eO owners aw k)).length<=k:=by unfold b7 eO;rw[bu];exact fe (EF _ _) bh
def Rq(xs:List AV)(ae:List (List Int))(owners aw:List Int)(h:ak)(r:eK)(h':ak):Prop:=
 Ext h h'/\if cR ae owners≠0 then r=.ret (.tuple [.list .nil 0 [],.list .nil 0 [],.list .nil 0 [],.v (.int .i64 (cR ae owners))])
  else if fW (-1) aw=av then r=.ret (.tuple [.list .nil 0 [],.list .nil 0 [],.list .nil 0 [],.v (.int .i64 1)])
  else ∃k1 s1 k2 s2 tb,r=.ret (.tuple [.list k1 s1 ((iA xs owners aw ae.length).map λa=>[a]),.list k2 s2 (ints (b7 (eO owners aw ae.length))),.arr tb 0 (bU ae) (bU ae),.v (.int .i64 0)])/\(s1=1∨(iA xs owners aw ae.length=[]/\k1=.nil))/\(s2=1∨(b7 (eO owners aw ae.length)=[]/\k2=.nil))/\h'.boxes[tb]?=aa ((ft (bU ae)).map im)
def alV(h:ak)(k0:Tok)(s0:Nat)(xs:List AV)(y z:AV)(ae:List (List Int))(owners aw:List Int)(hx:RL (.list k0 s0 (xs.map λa=>[a])) ae)(dx:xs.length=ae.length)(hy:IL y owners)(hz:IL z aw)(jQ:aw.length<=1099511627776)(ho:cA h=ah):
 ∃r h',W2.call 143 [.agg [.list k0 s0 (xs.map λa=>[a]),y],z] h=aa (r,h')/\Rq xs ae owners aw h r h':=by
 obtain⟨H1,c97,e1⟩:=SP (((h.push [.list k0 s0 (xs.map λa=>[a]),y]).push [.list .nil 0 []]).push [.list .nil 0 []]) _ y ae owners hx hy;have kyz:=aj.mk (ar hx (ar hy (ar hz ho)));have bx:(AV.agg [.list k0 s0 (xs.map λa=>[a]),y]).b8=aa [.list k0 s0 (xs.map λa=>[a]),y]:=by obtain⟨ky,sy,rfl,-⟩:=hy;rfl
 have X1:Ext h H1:=by rw[e1];exact(((Ext.push _ _).trans (.push _ _)).trans (.push _ _)).trans (.push _ _)
 have p0:H1.boxes[h.boxes.length]?=aa [.list k0 s0 (xs.map λa=>[a]),y]:=by rw[e1];exact bg (bg (bg (a9 _ _)))
 have p1:H1.boxes[h.boxes.length+1]?=aa [.list .nil 0 []]:=by rw[e1];exact bg (bg (mB (by rw[cK])))
 have p2:H1.boxes[h.boxes.length+1+1]?=aa [.list .nil 0 []]:=by rw[e1];exact bg (mB (by rw[cK,cK]))
 have jr:H1.boxes.length=h.boxes.length+4:=by rw[e1];simp only[cK]
 have uH:cA H1=ah:=X1.ok ho;have l0:aI al Gt (((h.push [.list k0 s0 (xs.map λa=>[a]),y]).push [.list .nil 0 []]).push [.list .nil 0 []]) 25 (.ptr (.box h.boxes.length) 0)=aa (.agg [.list k0 s0 (xs.map λa=>[a]),y]):=uB (bg (bg (a9 _ _)));have tn1:H1.tn=h.tn:=by rw[e1];rfl
 have kX:=aj.mk (ar X1 (ar uH (ar jr tn1)));have z22:=asB;have z23:=asC;have kp:=aj.mk (ar p0 (ar p1 p2));have s4:=λ(k:Tok) s es=>Ql (k:=k) (s:=s) (es:=es) p1;have IX:=(aP.1 p1).1;have qn:=(aP.1 p2).1;clear e1 X1 p0 jr uH tn1 hx hy ho;unfold Rq;refine df rfl Tryz.func143 rfl ?_;generalize Bg:cR ae owners=pe at *
 by_cases Ji:pe=0;rotate_left 1
 ·have s5:ct al (H1.put (h.boxes.length+1) [.list .nil 0 []]) 23 (.ptr (.box (h.boxes.length+1+1)) 0) (.list .nil 0 [])=aa ((H1.put (h.boxes.length+1) [.list .nil 0 []]).put (h.boxes.length+1+1) [.list .nil 0 []]):=Ks (by rw[cS ag];exact p2);have m1:aI al Gt ((H1.put (h.boxes.length+1) [.list .nil 0 []]).put (h.boxes.length+1+1) [.list .nil 0 []]) 22 (.ptr (.box (h.boxes.length+1)) 0)=aa (.list .nil 0 []):=Jo (by rw[cS ag];exact ev IX);have m2:aI al Gt ((H1.put (h.boxes.length+1) [.list .nil 0 []]).put (h.boxes.length+1+1) [.list .nil 0 []]) 23 (.ptr (.box (h.boxes.length+1+1)) 0)=aa (.list .nil 0 []):=uA (ev (by rw[mh];exact qn));have UH:decide (pe=0)=av:=by simp[Ji]
  clear p1 p2 hz IX qn;refine cY @wh @bL @cK ?_;exact⟨_,_,rfl,(kX.out.1.fO ag _).fO ag _,by rw[aF Ji]⟩
 ·subst Ji;obtain⟨kz,sz,rfl,dH⟩:=kyz.out.2.2.1;have ksz:=aj.mk dH;clear dH hz;have u23:=dJ;have z3':=fP;have atu:=dn aw;have kpe:=aj.mk Bg;clear Bg;refine cY @wh @bL @cK ?_;refine bG.gen λe0 aD bI cT cJ=>?_;have f1:e0.get 1=.list kz sz (ints aw):=by rw[aD];exact gS
  have f2:e0.get 2=.ptr (.box h.boxes.length) 0:=by rw[aD];exact gS
  have f4:e0.get 4=.ptr (.box (h.boxes.length+1)) 0:=by rw[aD];simp only[gW,reduceIte,aX,aR,cK]
  have f5:e0.get 5=.ptr (.box (h.boxes.length+1+1)) 0:=by rw[aD];simp only[gW,reduceIte,aX,aR,cK]
  have f8:e0.get 8=.v (.int .i64 (-1)):=by rw[aD];exact gS
  have f19:e0.get 19=.list kz sz (ints aw):=by rw[aD];exact gS
  have f20:e0.get 20=.v (.int .i64 (aw.length:Nat)):=by rw[aD];exact gS
  have f21:e0.get 21=.v (.int .i64 (0:Nat)):=by rw[aD];exact gR
  have fd:e0.defers=[]:=by rw[bI];exact gS
  clear aD bI cT cJ l0 c97;refine cq (λm e H=>∃(i:Nat) (cE:Int),i<=aw.length/\m=aw.length - i/\ -1<=cE/\aj (fW cE (aw.drop i)=fW (-1) aw)/\e.get 1=.list kz sz (ints aw)/\e.get 2=.ptr (.box h.boxes.length) 0/\e.get 4=.ptr (.box (h.boxes.length+1)) 0/\e.get 5=.ptr (.box (h.boxes.length+1+1)) 0/\e.get 8=.v (.int .i64 cE)/\e.get 19=.list kz sz (ints aw)/\e.get 20=.v (.int .i64 (aw.length:Nat))/\e.get 21=.v (.int .i64 (i:Nat))/\e.defers=[]/\H=H1) ?_ aw.length _ _ ?_;rotate_left 1
  ·exact⟨0,-1,cr _,rfl,KT _,⟨rfl⟩,f1,f2,f4,f5,f8,f19,f20,f21,fd,rfl⟩
  clear f1 f2 f4 f5 f8 f19 f20 f21 fd;rintro m e H1 ⟨i,cE,hi,rfl,kD,kP,g1,g2,g4,g5,g8,g19,g20,g21,hd,rfl⟩;by_cases aA:i<aw.length
  ·have bB:sz=1:=ksz.out (by intro q;rw[q,jI] at aA;omega);subst bB;have ld:=e7 (H:=H1) (l:=aw) (s:=1) aA;have cp:=WY (ai aw i) H1;have fL:(i:Int)<(aw.length:Int):=(by omega);have oq:aw.drop i=ai aw i::aw.drop (i+1):=(by rw[fI aA];exact zR aA);have qp:=kP.out;rw[oq,fW] at qp;have s5:ct al (H1.put (h.boxes.length+1) [.list .nil 0 []]) 23 (.ptr (.box (h.boxes.length+1+1)) 0) (.list .nil 0 [])=aa ((H1.put (h.boxes.length+1) [.list .nil 0 []]).put (h.boxes.length+1+1) [.list .nil 0 []]):=Ks (by rw[cS ag];exact p2);have m1:aI al Gt ((H1.put (h.boxes.length+1) [.list .nil 0 []]).put (h.boxes.length+1+1) [.list .nil 0 []]) 22 (.ptr (.box (h.boxes.length+1)) 0)=aa (.list .nil 0 []):=Jo (by rw[cS ag];exact ev IX);have m2:aI al Gt ((H1.put (h.boxes.length+1) [.list .nil 0 []]).put (h.boxes.length+1+1) [.list .nil 0 []]) 23 (.ptr (.box (h.boxes.length+1+1)) 0)=aa (.list .nil 0 []):=uA (ev (by rw[mh];exact qn));unfold im uK at *
   generalize ai aw i=n at *
   by_cases h1:0<=n/\n<=63
   ·have eL:(decide (0<=n)&&decide (n<=63))=ah:=(by simp[h1.1,h1.2]);rw[eL] at cp;by_cases h2:n<=cE
    ·have gu:decide (n<=cE)=ah:=(by simp[h2]);have hf:fW (-1) aw=av:=(by rw[<-qp];simp;omega);have kf:=aj.mk hf;clear qp hf oq p1 p2 h2 h1 kP;refine bM @wh @a8 ?_;exact⟨_,_,rfl,(kX.out.1.fO ag _).fO ag _,by rw[aG (by simp[kpe.out]),aF kf.out]⟩
    ·have gu:decide (n<=cE)=av:=(by simp;omega);have kP2:aj (fW n (aw.drop (i+1))=fW (-1) aw):=⟨by rw[<-qp,bX (ag:cE<n),bX h1.2];rfl⟩;have h3: -1<=n:=(by omega);clear qp oq p1 p2 h2 h1 kP s4 s5 m1 m2;refine bM @wh @a8 ?_;exact⟨aw.length - (i+1),by omega,i+1,n,by omega,rfl,h3,kP2,by simp⟩
   ·have eL:(decide (0<=n)&&decide (n<=63))=av:=(by simp only[ZT,decide_eq_false_iff_not];omega);rw[eL] at cp;have hf:fW (-1) aw=av:=(by rw[<-qp];simp only[ZT,decide_eq_false_iff_not];omega);have kf:=aj.mk hf;clear qp hf oq p1 p2 h1 kP;refine bM @wh @a8 ?_;exact⟨_,_,rfl,(kX.out.1.fO ag _).fO ag _,by rw[aG (by simp[kpe.out]),aF kf.out]⟩
  ·have fK:i=aw.length:=(by omega);subst fK;have hf:fW (-1) aw=ah:=(by rw[<-kP.out,pc (aJ _)];rfl);have kf:=aj.mk hf;clear hf kP;obtain⟨o1,o2,o3,o4⟩:=qy kpe.out;obtain⟨n1,n2⟩:=ud kpe.out;have Fu:=(WX aw (-1) kf.out).2;have atv:=acf kf.out;have ko:=aj.mk (ar o3 Fu);have xj:(ae≠[]->s0=1)/\∀(i:Nat) (a:AV) (r:List Int),xs[i]?=aa a->ae[i]?=aa r->IL a r:=(by obtain⟨k',s',xs',he,Jb,-,hh⟩:=kyz.out.1;injection he with _ hse he;have:=(K9 (λx y h=>by injection h)).1 he;subst this;subst hse;exact⟨Jb,hh⟩);have kRL:=aj.mk xj;have ko1:=aj.mk o1;have l22:aI al Gt H1 22 (.ptr (.box h.boxes.length) 0)=aa (.list k0 s0 (xs.map λa=>[a])):=rE kp.out.1;have u22:=iq;have cH:(xs.map λa=>[a]).length=ae.length:=(by rw[bu];exact dx);have mk:=zw H1 (bU ae) ag .i64 .i64;have nm:aY (bU ae) (im 0)=(aY (bU ae) (0:Int)).map im:=(by rw[wO]);rw[nm] at mk;have sk:=yd (H:=H1.push ((aY (bU ae) (0:Int)).map im)) (b:=H1.boxes.length) (r:=aY (bU ae) (0:Int)) (k:=0) (x:=1) (a9 _ _) (by rw[lT];exact n1);have uy:(aY (bU ae) (0:Int)).set 0 1=ft (bU ae):=(by obtain⟨c,hc⟩:∃c,bU ae=c+1:=⟨bU ae - 1,by omega⟩;rw[hc];unfold ft;rw[zW];rfl);rw[oA,uy] at sk;have ix:dy al 23 (.arr H1.boxes.length 0 (bU ae) (bU ae)) (.v (.int .i64 0))=aa (.ptr (.box H1.boxes.length) 0):=pQ (n:=0) (k:=.i64) n1;have l25:aI al Gt (H1.push ((ft (bU ae)).map im)) 25 (.ptr (.box h.boxes.length) 0)=aa (.agg [.list k0 s0 (xs.map λa=>[a]),y]):=uB (bg kp.out.1);have ow:=aky (H1.push ((ft (bU ae)).map im)) (.list k0 s0 (xs.map λa=>[a])) y (.list kz sz (ints aw)) bx rfl;have kmk:=aj.mk (ar p1 p2);have hcz:((0:Nat):Int)=0:=rfl;clear uy nm Fu o3 o4 o1 xj p1 p2 s4 IX qn;unfold im at *
   have UB:(ae.length=0->bU ae=1)/\∀r0,ae[0]?=aa r0->r0.length=bU ae:=(by refine⟨λq=>by unfold bU;rw[aF q],λr0 q=>?_⟩;exact(ko.out.1 r0 (de q)).1);have kcols:=aj.mk UB;clear UB;generalize bU ae=cw at *
   have two:ae.length=0∨0<ae.length:=(by omega);rcases two with cJ|cJ
   case' inl=>
    have IJ:=kcols.out.1 cJ;have gv:¬((0:Int)<(ae.length:Int)):=(by omega);have mk':xS al H1 23 (.v (.int .i64 1)) (.v (.int .i64 1))=aa (.arr H1.boxes.length 0 cw cw,H1.push ((aY cw (0:Int)).map λn=>.v (.int .i64 n))):=(by have:=mk;rw[show((cw:Nat):Int)=1 by omega] at this;exact this);clear cJ mk IJ
    repeat' (first|simp(maxSteps:=999999)(disch:=first|exact dZ|fail)only[gW,reduceIte,aX,aR,wh,dw,eG,a8, *]|refine dX ?_ ?_<;>(intro _;try omega))
   case' inr=>
    obtain⟨a0,fJ⟩:∃a,xs[0]?=aa a:=⟨_,aO ag⟩;obtain⟨r0,fM⟩:∃r,ae[0]?=aa r:=⟨_,aO ag⟩;have bB:s0=1:=kRL.out.1 (by intro q;rw[q,jI] at cJ;omega);have ixr:dy al 22 (.list k0 s0 (xs.map λa=>[a])) (.v (.int .i64 0))=aa (.elem 1 (xs.map λa=>[a]) 0 0):=(by rw[bB];exact a8 u22 iM (KT _) (by rw[cH];omega));clear bB;have ld0:=jY (H:=H1) (s:=1) fJ;obtain⟨ka0,sa0,rfl,-⟩:=kRL.out.2 0 a0 r0 fJ fM;have cO:(ints r0).length=cw:=(by rw[dn];exact kcols.out.2 r0 fM);have gv:(0:Int)<(ae.length:Int):=(by omega);have z0:(0:Int).toNat=0:=rfl;have z23':=iM;clear fJ fM
    repeat' (first|simp(maxSteps:=999999)(disch:=first|exact dZ|fail)only[gW,reduceIte,aX,aR,wh,dw,eG,a8, *]|refine dX ?_ ?_<;>(intro _;try omega))
   all_goals
    refine bG.gen λe4 iY rk vM tA=>?_;have f4:e4.get 4=.ptr (.box (h.boxes.length+1)) 0:=(by rw[iY];simp only[gW,reduceIte,aX,aR];exact g4);have f5:e4.get 5=.ptr (.box (h.boxes.length+1+1)) 0:=(by rw[iY];simp only[gW,reduceIte,aX,aR];exact g5);have f6:e4.get 6=.arr H1.boxes.length 0 cw cw:=(by rw[iY];exact gS);have f50:e4.get 50=.func (.func 197) [] [.ptr (.box (H1.push ((ft cw).map λn=>.v (.int .i64 n))).boxes.length) 0,.ptr (.box ((H1.push ((ft cw).map λn=>.v (.int .i64 n))).boxes.length+1)) 0]:=(by rw[iY];exact gS);have fd:e4.defers=[]:=(by rw[rk];simp only[gW,reduceIte,aX,aR];exact hd);clear iY rk vM tA g1 g2 g4 g5 g8 g19 g20 g21 hd;refine D7 (by rw[Ax];exact f50) λrec w1 w2 w3 w4 w5 w6=>?_;obtain⟨x1,uH,jr,tn1⟩:=kX.out;obtain⟨p0,p1,p2⟩:=kp.out;have X3:Ext h (((H1.push ((ft cw).map im)).push [.list k0 s0 (xs.map λa=>[a]),y]).push [.list kz sz (ints aw)]):=((x1.trans (.push _ _)).trans (.push _ _)).trans (.push _ _);have b0:(((H1.push ((ft cw).map im)).push [.list k0 s0 (xs.map λa=>[a]),y]).push [.list kz sz (ints aw)]).boxes[H1.boxes.length]?=aa ((ft cw).map im):=bg (bg (a9 _ _));have b1:(((H1.push ((ft cw).map im)).push [.list k0 s0 (xs.map λa=>[a]),y]).push [.list kz sz (ints aw)]).boxes[h.boxes.length+1]?=aa [.list .nil 0 []]:=bg (bg (bg p1));have b2:(((H1.push ((ft cw).map im)).push [.list k0 s0 (xs.map λa=>[a]),y]).push [.list kz sz (ints aw)]).boxes[h.boxes.length+1+1]?=aa [.list .nil 0 []]:=bg (bg (bg p2));have b3:(((H1.push ((ft cw).map im)).push [.list k0 s0 (xs.map λa=>[a]),y]).push [.list kz sz (ints aw)]).boxes[H1.boxes.length+1]?=aa [.list k0 s0 (xs.map λa=>[a]),y]:=bg (mB (by rw[cK]));have b4:(((H1.push ((ft cw).map im)).push [.list k0 s0 (xs.map λa=>[a]),y]).push [.list kz sz (ints aw)]).boxes[H1.boxes.length+1+1]?=aa [.list kz sz (ints aw)]:=mB (by rw[cK,cK]);have ok3:cA (((H1.push ((ft cw).map im)).push [.list k0 s0 (xs.map λa=>[a]),y]).push [.list kz sz (ints aw)])=ah:=uH;have eR:(((H1.push ((ft cw).map im)).push [.list k0 s0 (xs.map λa=>[a]),y]).push [.list kz sz (ints aw)]).loops.length=H1.loops.length:=rfl;have IF:h.loops.length<=H1.loops.length:=x1.Ge;rw[cK] at f50;unfold im at *
    rw[cK];generalize ((H1.push ((ft cw).map λn=>AV.v (.int .i64 n))).push [.list k0 s0 (xs.map λa=>[a]),y]).push [.list kz sz (ints aw)]=H3 at *
    have asZ:h.boxes.length+1<H3.boxes.length:=(aP.1 b1).1;have as0:h.boxes.length+1+1<H3.boxes.length:=(aP.1 b2).1;have iR:(H3.loop rec).loops[H1.loops.length]?=aa rec:=(by rw[<-eR];exact @DI H3 rec);have feed:=akz H1.loops.length (H1.boxes.length+1) (H1.boxes.length+1+1) k0 s0 xs y (.list kz sz (ints aw)) ae owners aw
     (HP h (H3.loop rec).loops (h.boxes.length+1) (h.boxes.length+1+1) H1.boxes.length (H1.boxes.length+1) (H1.boxes.length+1+1) ((ft cw).map λn=>.v (.int .i64 n)) [.list k0 s0 (xs.map λa=>[a]),y] [.list kz sz (ints aw)] xs owners aw)
     kyz.out.2.1 kyz.out.2.2.1 dx ko1.out.symm kRL.out.1 ko.out.2 ag ag
     (λk H q=>by obtain⟨_,_,_,_,_,_,_,_,_,_,_,q1,q2⟩:=q;exact⟨q1,q2⟩)
     ?_
     (λk H _ hc q=>by
      unfold HP at *
      rw[Xa hc,Xc hc];exact q)
     (H3.loop rec) ⟨.nil,0,.nil,0,rfl,b1,b2,.inr ⟨rfl,rfl⟩,.inr ⟨rfl,rfl⟩,⟨.inl rfl,.inl rfl,λa q=>(nomatch q),ok3,X3.trans ((Fr.Bs (bn:=H3.boxes.length) (l0:=H3.loops.length) (n0:=H3.tn) H3 rec).ext (aJ _) (aJ _) (aJ _))⟩,b0,b3,b4⟩
    rotate_left 1
    ·rintro k a H hk AO hc ⟨t1,s1,t2,s2,i1,i2,i3,i4,i5,i6,i7,i8,i9⟩;have vJ:H.loops[H1.loops.length]?=aa rec:=(by rw[i1];exact iR);have w:=i6;have q0:(H.busy H1.loops.length rec).boxes=H.boxes:=rfl;have e22:=λhc=>Xb (xs:=xs) (owners:=owners) (aw:=aw) (k:=k) (a:=a) hc AO;have e23:=Xd (owners:=owners) (aw:=aw) (k:=k) hc;have wA:=w.app;refine JR (Post:=HP h (H3.loop rec).loops (h.boxes.length+1) (h.boxes.length+1+1) H1.boxes.length (H1.boxes.length+1) (H1.boxes.length+1+1) ((ft cw).map λn=>.v (.int .i64 n)) [.list k0 s0 (xs.map λa=>[a]),y] [.list kz sz (ints aw)] xs owners aw (k+1)) vJ (by rw[w2];rfl) w5 w6 ?_;have r1:∀t,(nx H1.loops.length rec [im (k:Nat),a]).get t=if 52=t then a else if 51=t then im (k:Nat) else e4.get t:=λt=>JQ w2 w1
     have d1:(nx H1.loops.length rec [im (k:Nat),a]).defers=[]:=rfl;obtain⟨K,hK⟩:∃K,H.busy H1.loops.length rec=K:=⟨_,rfl⟩;have kc1:dj h.tn K t1:=(by rw[<-hK];exact w.c1);have kc2:dj h.tn (K.app t1) t2:=(by rw[<-hK,Sq];exact wA.1);have kb1:K.boxes[h.boxes.length+1]?=aa [.list t1 s1 ((iA xs owners aw k).map λa=>[a])]:=(by rw[<-hK];exact i2);have kb2:(K.app t1).boxes[h.boxes.length+1+1]?=aa [.list t2 s2 (ints (b7 (eO owners aw k)))]:=(by rw[eu,<-hK];exact i3);have kb22:K.boxes[h.boxes.length+1+1]?=aa [.list t2 s2 (ints (b7 (eO owners aw k)))]:=(by rw[<-hK];exact i3);have pl1:=WZ (xs:=xs) (owners:=owners) (aw:=aw) (k:=k);have pl2:=ak0 (owners:=owners) (aw:=aw) (k:=k);have ap1:=RX (x:=a) (ag:(iA xs owners aw k).length<1000000) i4 kc1;have ap2:=tY (x:=(k:Int)) (show(b7 (eO owners aw k)).length<1099511627776 by omega) i5 kc2;rw[<-e22 hc] at ap1;rw[<-alU,<-e23] at ap2;have lA:=Jo kb1;have lB:=uA kb2;have lB0:=uA kb22;have sA:=Ql (H:=(K.app t1).app t2) (b:=h.boxes.length+1) (k:=.free K.tn) (s:=1) (es:=(iA xs owners aw (k+1)).map λa=>[a]) (by rw[eu,eu];exact kb1);have sB:=Ks (H:=((K.app t1).app t2).put (h.boxes.length+1) [.list (.free K.tn) 1 ((iA xs owners aw (k+1)).map λa=>[a])]) (b:=h.boxes.length+1+1) (k:=.free (K.app t1).tn) (s:=1) (es:=ints (b7 (eO owners aw (k+1)))) (by rw[cS ag,eu];exact kb2);have blA:fC al 22 1 [(0,a)]=aa (.list .tight 1 [[a]]):=(by obtain⟨r',fG⟩:∃r',ae[k]?=aa r':=⟨_,aO hk⟩;exact H8 a (kRL.out.2 k a r' AO fG).cell);have blB:=po (k:Int);have svs:=GZ t2 s2 (b7 (eO owners aw k));have fV:aj (HP h (H3.loop rec).loops (h.boxes.length+1) (h.boxes.length+1+1) H1.boxes.length (H1.boxes.length+1) (H1.boxes.length+1+1) ((ft cw).map λn=>.v (.int .i64 n)) [.list k0 s0 (xs.map λa=>[a]),y] [.list kz sz (ints aw)] xs owners aw (k+1) ((((H.app t1).app t2).put (h.boxes.length+1) [.list (.free H.tn) 1 ((iA xs owners aw (k+1)).map λa=>[a])]).put (h.boxes.length+1+1) [.list (.free (H.app t1).tn) 1 (ints (b7 (eO owners aw (k+1))))])):=by
      have oO:=(aP.1 i2).1;have jN:=(aP.1 i3).1;refine⟨_,1,_,1,?_,?_,?_,.inl rfl,.inl rfl,(wA.2.put ag _).put ag _,?_,?_,?_⟩
      ·show((H.app t1).app t2).loops=_;rw[yB,yB];exact i1
      ·rw[cS ag];exact ev (by rw[eu,eu];exact oO)
      ·exact ev (by rw[mh,eu,eu];exact jN)
      ·rw[cS ag,cS ag,eu,eu];exact i7
      ·rw[cS ag,cS ag,eu,eu];exact i8
      ·rw[cS ag,cS ag,eu,eu];exact i9
     clear i1 i2 i3 i4 i5 i6 i7 i8 i9 w wA q0 e22 e23 b0 b1 b2 b3 b4 kb1 kb2 kb22 pl1 pl2 hc AO kc1 kc2 X3 ok3 eR p0 p1 p2 x1 uH f50;rw[hK];unfold im at *
     rw[w3,w4];refine xd ?_;refine⟨aQ,aQ,?_⟩;refine bG.gen λe2 eV gu mF Dj=>?_;have q4:e2.get 4=.ptr (.box (h.boxes.length+1)) 0:=(by rw[eV];simp only[gW,reduceIte,aX,aR,r1];exact f4);have q5:e2.get 5=.ptr (.box (h.boxes.length+1+1)) 0:=(by rw[eV];simp only[gW,reduceIte,aX,aR,r1];exact f5);have q12:e2.get 12=.v (.int .i64 k):=(by rw[eV];simp only[gW,reduceIte,aX,aR,r1]);have q13:e2.get 13=a:=(by rw[eV];simp only[gW,reduceIte,aX,aR,r1]);clear eV gu mF Dj r1 d1 w1 w2 w3 w4 w5 w6;refine xd ?_;refine mW [(3,4)] yE au (λp hp=>?_) ?_
     ·simp only[mo] at hp;subst hp;refine qH (x:=.ptr (.box (h.boxes.length+1+1)) 0) (v:=.list t2 s2 (ints (b7 (eO owners aw k)))) au rfl rfl rfl au (svs) ?_ ?_<;>(simp only[hJ,fB];exact jL @jH.{0} @and_self)
     refine xd ?_;have kf2:=fV.out;rw[jr] at kf2;refine⟨aQ,?_,?_⟩
     ·show((K.app t1).app t2).loops=_;rw[yB,yB]
     ·rw[<-hK,afT,Sq];exact kf2
    ·obtain⟨Hf,c1,t1,s1,t2,s2,i1,i2,i3,i4,i5,i6,i7,i8,i9⟩:=feed;rw[eR];refine⟨_,_,c1,rec,by rw[i1];exact iR,by rw[w5];decide,.inl ⟨w6,?_⟩⟩;have hf1:=(aP.1 i2).1;have y4:=(aP.1 i3).1;have q1:(Hf.eW H1.loops.length {rec with state:=.exhausted}).boxes[h.boxes.length+1]?=aa [.list t1 s1 ((iA xs owners aw ae.length).map λa=>[a])]:=i2;have q2:(Hf.eW H1.loops.length {rec with state:=.exhausted}).boxes[h.boxes.length+1+1]?=aa [.list t2 s2 (ints (b7 (eO owners aw ae.length)))]:=i3;have q7:(Hf.eW H1.loops.length {rec with state:=.exhausted}).boxes[H1.boxes.length]?=aa ((ft cw).map λn=>.v (.int .i64 n)):=i7;have XF:Ext h (Hf.eW H1.loops.length {rec with state:=.exhausted}):=((Fr.DM (bn:=h.boxes.length) (l0:=h.loops.length) (n0:=h.tn) i6.ext (aJ _)).trans (.eW IF _)).ext (aJ _) (aJ _) (aJ _);generalize Hf.eW H1.loops.length {rec with state:=.exhausted}=HF at *
     have hg1:=(aP.1 q1).1;have C4:=(aP.1 q2).1;have lA:=Jo q1;have lB:=uA q2;have sA:=Ql (k:=t1) (s:=s1) (es:=(iA xs owners aw ae.length).map λa=>[a]) q1;have lB2:aI al Gt (HF.put (h.boxes.length+1) [.list t1 s1 ((iA xs owners aw ae.length).map λa=>[a])]) 23 (.ptr (.box (h.boxes.length+1+1)) 0)=aa (.list t2 s2 (ints (b7 (eO owners aw ae.length)))):=uA (by rw[cS ag];exact q2);have sB:=Ks (H:=HF.put (h.boxes.length+1) [.list t1 s1 ((iA xs owners aw ae.length).map λa=>[a])]) (b:=h.boxes.length+1+1) (k:=t2) (s:=s2) (es:=ints (b7 (eO owners aw ae.length))) (by rw[cS ag];exact q2);have eA:=rL q1;have eB:=rL (h:=HF) q2;rw[eA] at sA sB lB2;rw[eB] at sB;have svs:=GZ t2 s2 (b7 (eO owners aw ae.length));have fV:=aj.mk (ar XF (ar i4 (ar i5 q7)));clear q1 q2 q7 XF i1 i2 i3 i4 i5 i6 i7 i8 i9 c1 b0 b1 b2 b3 b4 X3 ok3 eR p0 p1 p2 x1 uH f50 iR w1 w2 w3 w4 w5 w6 eA eB;refine br @wh ?_;refine mW [(1,3)] yE au (λp hp=>?_) ?_
     ·simp only[mo] at hp;subst hp;refine zH (x:=.ptr (.box (h.boxes.length+1+1)) 0) (v:=.list t2 s2 (ints (b7 (eO owners aw ae.length)))) au rfl rfl rfl au (svs) ?_ ?_<;>(simp only[hJ,fB];exact jL @wh @and_self)
     refine br @wh ?_;exact⟨_,_,rfl,fV.out.1,by rw[aG (by simp[kpe.out]),aG (by simp[kf.out])];exact⟨_,_,_,_,_,rfl,fV.out.2.1,fV.out.2.2.1,by rw[<-jr];exact fV.out.2.2.2⟩⟩
def IL.hold{x}{l}(h:IL x l):IL (aC x) l/\aL 0 0 0 (aC x)=ah:=by obtain⟨k,s,rfl,hs⟩:=h;rw[aC,I8];exact⟨⟨bR k,s,rfl,hs⟩,by rw[aL,eX,nh];rfl⟩
def Bd:∀xs:List AV,eH (xs.map λa=>[a])=(xs.map aC).map λa=>[a]
 | []=>rfl
 |x::xs=>by rw[eo,eH,Bd xs];rfl
def w9:∀xs:List AV,(∀a∈xs,aL 0 0 0 a=ah)->gj 0 0 0 (xs.map λa=>[a])=ah
 | [],_=>rfl
 |x::xs,h=>by rw[eo,gj,w9 xs λa ha=>h a (fi _ ha),aU,h x fR];rfl
def RL.hold{k}{s}{xs:List AV}{ae}(h:RL (.list k s (xs.map λa=>[a])) ae):
 RL (.list (bR k) s ((xs.map aC).map λa=>[a])) ae/\∀a∈xs.map aC,aL 0 0 0 a=ah:=by
 obtain⟨k',s',xs',he,hs,hl,hr⟩:=h;injection he with e1 e2 e3;have e4:=(K9 (λx y h=>by injection h)).1 e3;subst e1;subst e2;subst e4;refine⟨⟨bR k,s,xs.map aC,rfl,hs,by rw[bu];exact hl,λi a r ha fG=>?_⟩,λa ha=>?_⟩
 ·rw[dW] at ha;cases hx:xs[i]? with
  |none=>rw[hx] at ha;cases ha
  |some b=>rw[hx] at ha;injection ha with ha;rw[<-ha];exact(hr i b r hx fG).hold.1
 ·obtain⟨b,hb,rfl⟩:=jo.1 ha;obtain⟨i,hi⟩:=s8 hb;have cH:=(aP.1 hi).1;exact(hr i b _ hi (aO (by rw[<-hl];exact cH))).hold.2
def L3:List FuncId:=[28,29,30,46,65,66,69,78,82,94,97,118,119,120,121,123,132,138,140,143,144,146,194,201]
noncomputable def Pg:FuncId->Option (List AV->ak->Option (AV × ak)):=pq W2 L3
noncomputable abbrev W3:=whole al Gt Pg
def Sy:o8 Pg L3:=wX
section
variable (a b n x:Int)
def abG:∀h,W3.call 28 [im a,im b] h=aa (.ret (im (cP a b)),h):=bm (L:=L3) rfl rfl rfl (RK a b _) rfl rfl
def ajY:∀h,W3.call 29 [im a,im b] h=aa (.ret (im (b9 a b)),h):=bm (L:=L3) rfl rfl rfl (OJ a b _) rfl rfl
def ar5:∀h,W3.call 46 [im x] h=aa (.ret (.v (.bool (bE x))),h):=bm (L:=L3) rfl rfl rfl (ar4 x _) rfl rfl
def agv:∀h,W3.call 69 [im a,im b] h=aa (.ret (.tuple [im (jB a b),im (mO a b)]),h):=bm (L:=L3) rfl rfl rfl (agu a b _) rfl rfl
def agA:∀h,W3.call 30 [im a,im n] h=aa (.ret (.tuple [im (fU a n),im (ma a)]),h):=bm (L:=L3) rfl rfl rfl (agz a n _) rfl rfl
def al3:∀h,W3.call 65 [im a,im b] h=aa (.ret (im (cP a b)),h):=bm (L:=L3) rfl rfl rfl (al0 a b _) rfl rfl
def anK:∀h,W3.call 66 [im a,im b] h=aa (.ret (im (b9 a b)),h):=bm (L:=L3) rfl rfl rfl (anJ a b _) rfl rfl
def am1:∀h,W3.call 194 [im n] h=aa (.ret (.tuple [im (if fmod n=0 then 0 else dV n),im (if fmod n=0 then 90 else 0)]),h):=bm (L:=L3) rfl rfl rfl (am0 n _) rfl rfl
def aps:∀h,W3.call 94 [im x] h=aa (.ret (.v (.bool (bE x))),h):=bm (L:=L3) rfl rfl rfl (apr x _) rfl rfl
def amA:∀h,W3.call 140 [im a,im b] h=aa (.ret (.tuple [im (jB a b),im (mO a b)]),h):=bm (L:=L3) rfl rfl rfl (amz a b _) rfl rfl
def amH:∀h,W3.call 132 [im a,im n] h=aa (.ret (.tuple [im (fU a n),im (ma a)]),h):=bm (L:=L3) rfl rfl rfl (amG a n _) rfl rfl
def amV:∀h,W3.call 120 [im n] h=aa (.ret (.agg (aH 1 n [] .nil 0 [])),h):=bm (L:=L3) rfl rfl rfl (amU n _) rfl rfl
end
def RL.form{x}{ae}(h:RL x ae):∃(k:Tok) (s:Nat) (xs:List AV),x=.list k s (xs.map λa=>[a])/\xs.length=ae.length:=by obtain⟨k,s,xs,he,-,hl,-⟩:=h;exact⟨k,s,xs,he,hl⟩
def RL.fF{x}{ae}(h:RL x ae):RL (aC x) ae/\aL 0 0 0 (aC x)=ah:=by obtain⟨k,s,xs,rfl,-⟩:=h.form;obtain⟨h1,h2⟩:=h.hold;rw[aC,Bd];exact⟨h1,by rw[aL,eX,w9 _ h2];rfl⟩
def ad7(x y)(ae)(owners)(hx:RL x ae)(hy:IL y owners):∀h,W3.call 97 [.agg [x,y]] h=aa (.ret (.v (.int .i64 (cR ae owners))),h):=by obtain⟨h1,h2⟩:=hx.fF;obtain⟨h3,h4⟩:=hy.hold;obtain⟨h',hc,-⟩:=SP ⟨[],[],0,[]⟩ (aC x) (aC y) ae owners h1 h3;exact bm (L:=L3) (cd:=[.agg [aC x,aC y]]) rfl rfl (by simp[aU,aL,h2,h4]) hc rfl rfl
def Tz(l):(l.map im).map (λc=>[c])=ints l:=by unfold ints;rw[List.map_map];rfl
def Bm{h}{b n}{l}(hb:h.boxes[b]?=aa (l.map im))(hn:l.length=n):ju h (.arr b 0 n n)=.list .held 1 (ints l):=by subst hn;rw[ju,hb];simp only;rw[aF (by rw[bu];omega),List.drop_zero,gm (by rw[bu];exact aJ _),Tz]
def aey(x y)(ae)(target)(hx:RL x ae)(hy:IL y target)(hr:ae.length<=64)(hw:∀r∈ae,r.length=target.length)(nt:target.length<=64)(bA:∀r∈ae,∀x∈r,okF x)(nP:∀x∈target,okF x):
 (oN ae target=aq/\∀h,W3.call 144 [x,y] h=aa (.ret (.tuple [.list .nil 0 [],.v (.bool av),im 0]),h))∨∃l,oN ae target=aa l/\l.length=ae.length/\∀h,W3.call 144 [x,y] h=aa (.ret (.tuple [.list .held 1 (ints l),.v (.bool ah),im 0]),h):=by
 obtain⟨h1,h2⟩:=hx.fF;obtain⟨h3,h4⟩:=hy.hold;obtain⟨r,h',hc,-,⟨e1,rfl⟩|⟨l,b,e1,e2,rfl,e3⟩⟩:=aez ⟨[],[],0,[]⟩ (aC x) (aC y) ae target h1 h3 hr hw nt bA nP rfl
 ·exact .inl ⟨e1,bm (L:=L3) (cd:=[aC x,aC y]) rfl rfl (by simp[aU,h2,h4]) hc rfl rfl⟩
 ·refine .inr ⟨l,e1,e2,bm (L:=L3) (cd:=[aC x,aC y]) rfl rfl (by simp[aU,h2,h4]) hc ?_ (by simp[aL,aU,nh,qJ,im])⟩;rw[ju,sL,Bm e3 e2];rfl
def O9{xs}{owners aw}{n i:Nat}{a}(h:(iA xs owners aw n)[i]?=aa a):∃j,(eO owners aw n)[i]?=aa j/\j<n/\a=xs.getD j default:=by
 unfold iA at h;rw[dW] at h;cases hj:((bO n).filter λi=>aw.contains (ai owners i))[i]? with
 |none=>rw[hj] at h;cases h
 |some j=>rw[hj] at h;injection h with h;exact⟨j,hj,fY.1 (tS.1 (de hj)).1,h.symm⟩
def alW(k0)(s0)(xs:List AV)(y z)(ae)(owners aw)(hx:RL (.list k0 s0 (xs.map λa=>[a])) ae)(hy:IL y owners)(hz:IL z aw)(jQ:aw.length<=1099511627776):
 (cR ae owners≠0/\∀h,W3.call 143 [.agg [.list k0 s0 (xs.map λa=>[a]),y],z] h=aa (.ret (.tuple [.list .nil 0 [],.list .nil 0 [],.list .nil 0 [],.v (.int .i64 (cR ae owners))]),h))∨
 (cR ae owners=0/\fW (-1) aw=av/\∀h,W3.call 143 [.agg [.list k0 s0 (xs.map λa=>[a]),y],z] h=aa (.ret (.tuple [.list .nil 0 [],.list .nil 0 [],.list .nil 0 [],.v (.int .i64 1)]),h))∨
 (cR ae owners=0/\fW (-1) aw=ah/\∃X A,RL X ((dS owners aw).map λi=>ae.getD i [])/\IL A (b7 (dS owners aw))/\∀h,W3.call 143 [.agg [.list k0 s0 (xs.map λa=>[a]),y],z] h=aa (.ret (.tuple [X,A,.list .held 1 (ints (ft (bU ae))),.v (.int .i64 0)]),h)):=by
 obtain⟨h1,h2⟩:=hx.hold;obtain⟨h3,h4⟩:=hy.hold;obtain⟨h5,h6⟩:=hz.hold;have dx:(xs.map aC).length=ae.length:=by obtain⟨_,_,xs',he,-,hl,-⟩:=h1;injection he with _ _ e3;have e4:=(K9 (λx y h=>by injection h)).1 e3;rw[e4];exact hl
 have ea:bV [.agg [.list k0 s0 (xs.map λa=>[a]),y],z]=[.agg [.list (bR k0) s0 ((xs.map aC).map λa=>[a]),aC y],aC z]:=by rw[bV,aC,bV,bV,bV,aC,Bd];rfl
 have ef:aU 0 0 0 [.agg [.list (bR k0) s0 ((xs.map aC).map λa=>[a]),aC y],aC z]=ah:=by have hf:=w9 _ h2;rw[aU,aL,aU,aU,aU,aU,aL,eX,hf,h4,h6];rfl
 obtain⟨r,h',hc,-,hp⟩:=alV ⟨[],[],0,[]⟩ (bR k0) s0 (xs.map aC) (aC y) (aC z) ae owners aw h1 dx h3 h5 jQ rfl;by_cases q1:cR ae owners≠0
 ·rw[aF q1] at hp;subst hp;exact .inl ⟨q1,bm (L:=L3) rfl ea ef hc rfl rfl⟩
 ·rw[aG q1] at hp;have q1':cR ae owners=0:=Hz.1 q1;cases q2:fW (-1) aw with
  |false=>rw[aF q2] at hp;subst hp;exact .inr (.inl ⟨q1',rfl,bm (L:=L3) rfl ea ef hc rfl rfl⟩)|true=>
   rw[aG (by rw[q2];simp)] at hp;obtain⟨k1,s1,k2,s2,tb,rfl,e1,e2,e3⟩:=hp;obtain⟨o1,-,-,-⟩:=qy q1';have hN:eO owners aw ae.length=dS owners aw:=(by unfold eO dS;rw[o1]);obtain⟨n1,-⟩:=ud q1';have xF:(ft (bU ae)).length=bU ae:=(by unfold ft;simp;omega);refine .inr (.inr ⟨q1',rfl,.list (bR k1) s1 ((iA (xs.map aC) owners aw ae.length).map λa=>[a]),.list (bR k2) s2 (ints (b7 (dS owners aw))),⟨_,_,_,rfl,λbH=>?_,?_,λi a r ha hr=>?_⟩,⟨_,_,rfl,λbH=>?_⟩,bm (L:=L3) rfl ea ef hc ?_ ?_⟩)
   ·rcases e1 with q|⟨q,-⟩
    ·exact q
    ·exfalso;apply bH;rw[<-hN];unfold iA at q;unfold eO;rw[EG] at q;rw[q];rfl
   ·rw[bu,<-hN];unfold iA eO;rw[bu]
   ·obtain⟨j,j1,j2,rfl⟩:=O9 ha;rw[hN] at j1;rw[dW,j1] at hr;injection hr with hr;subst hr;obtain⟨_,_,xs',he,-,hl,hh⟩:=h1;injection he with _ _ e5;have e4:=(K9 (λx y h=>by injection h)).1 e5;subst e4;refine hh j _ _ ?_ ?_
    ·rw[dP,aO ag];rfl
    ·show ae[j]?=aa (ae.getD j []);rw[dP,aO j2];rfl
   ·rcases e2 with q|⟨q,-⟩
    ·exact q
    ·rw[hN] at q;exact absurd q bH
   ·rw[ju,sL,sL,sL,Bm e3 xF,hN];rfl
   ·have pH:gj 0 0 0 ((iA (xs.map aC) owners aw ae.length).map λa=>[a])=ah:=w9 _ λa ha=>(by obtain⟨i,hi⟩:=s8 ha;obtain⟨j,-,j2,rfl⟩:=O9 hi;refine h2 _ ?_;rw[dP,aO ag];exact iD _);cases k1<;>cases k2<;>simp[aL,aU,bR,nh,pH,qJ]
def D6:Tryz.f76.results.toList=[.tmp 4,.tmp 5,.tmp 6]:=au
def ml(n:Nat)(at_:List Nat)(l:List Int)(j:Nat):List Int:=(at_.zipIdx.take j).foldl (λy p=>y.set p.1 (ai l p.2)) (aY n 0)
def Ko{n j}{at_}{l}:(ml n at_ l j).length=n:=by unfold ml;rw[Fi (λp=>ai l p.2),lT]
def YO{n j p}{at_}{l}(h:at_[j]?=aa p):(ml n at_ l j).set p (ai l j)=ml n at_ l (j+1):=by
 have hz:at_.zipIdx[j]?=aa (p,j):=by rw[aaw,h];simp
 unfold ml;rw[fH hz,nY];rfl
def Kn{n}{at_}{l}:ml n at_ l at_.length=qG n at_ l:=by unfold ml qG;rw[gm bh]
def Xv{l}{j p:Nat}(h:l[j]?=aa p):ai (b7 l) j=(p:Int):=by
 have:(b7 l)[j]?=aa (p:Int):=by unfold b7;rw[dW,h];rfl
 unfold ai;rw[dP,this];rfl
def QH(ae:List (List Int))(owners aw:List Int)(h:ak)(r:eK)(h':ak):Prop:=
 Ext h h'/\((∃e,fZ ae owners aw=([],av,e)/\r=.ret (.tuple [.list .nil 0 [],.v (.bool av),.v (.int .i64 e)]))∨∃l b,fZ ae owners aw=(l,ah,0)/\l.length=ae.length/\r=.ret (.tuple [.arr b 0 ae.length ae.length,.v (.bool ah),.v (.int .i64 0)])/\h'.boxes[b]?=aa (l.map im))
def abE(h:ak)(k0:Tok)(s0:Nat)(xs:List AV)(y z:AV)(ae:List (List Int))(owners aw:List Int)(hx:RL (.list k0 s0 (xs.map λa=>[a])) ae)(hy:IL y owners)(hz:IL z aw)(jQ:aw.length<=1099511627776):
 ∃r h',W3.call 76 [.agg [.list k0 s0 (xs.map λa=>[a]),y],z] h=aa (r,h')/\QH ae owners aw h r h':=by
 have hq:=alW k0 s0 xs y z ae owners aw hx hy hz jQ;obtain⟨_,_,xs',he,dx⟩:=hx.form;have Jg:(xs.map λa=>[a]).length=ae.length:=by injection he with _ _ e5;rw[e5,bu];exact dx
 have bx:(AV.agg [.list k0 s0 (xs.map λa=>[a]),y]).b8=aa [.list k0 s0 (xs.map λa=>[a]),y]:=by obtain⟨ky,sy,rfl,-⟩:=hy;rfl
 have b0:(h.push [.list k0 s0 (xs.map λa=>[a]),y]).boxes[h.boxes.length]?=aa [.list k0 s0 (xs.map λa=>[a]),y]:=a9 _ _;have l25:=uB b0;have l22:=rE b0;have u23:=dJ;have u22:=iq;have z3:=fP;clear he dx hx hy hz b0;unfold QH;have eA:fZ ae owners aw=if cR ae owners≠0 then ([],av,cR ae owners) else if !fW (-1) aw then ([],av,1) else match oN ((dS owners aw).map λi=>ae.getD i []) (ft (bU ae)) with|none=>([],av,0)|some l=>(qG ae.length (dS owners aw) l,ah,0):=rfl
 refine df rfl Tryz.func76 rfl ?_;rcases hq with⟨q1,c⟩|⟨q1,q2,c⟩|⟨q1,q2,X,A,hX,hA,c⟩
 ·rw[aF q1] at eA;generalize cR ae owners=pe at *
  have UH:decide (pe=0)=av:=by simp[q1]
  have ke:=aj.mk eA;clear eA q1;refine bM @D6 @bL ?_;exact⟨_,_,rfl,.push _ _,.inl ⟨pe,ke.out,rfl⟩⟩
 ·rw[aG (by simp[q1]),aF (by rw[q2];rfl)] at eA;have ke:=aj.mk eA;clear eA q1 q2;refine bM @D6 @bL ?_;exact⟨_,_,rfl,.push _ _,.inl ⟨1,ke.out,rfl⟩⟩
 ·rw[aG (by simp[q1]),aG (by rw[q2];simp)] at eA;obtain⟨o1,o2,o3,-⟩:=qy q1;obtain⟨n1,n2⟩:=ud q1;have xF:(ft (bU ae)).length=bU ae:=by unfold ft;simp;omega
  have zj:∀i∈dS owners aw,i<ae.length:=λi hi=>by unfold dS at hi;rw[o1];exact fY.1 (tS.1 hi).1
  have hlen:(dS owners aw).length<=64:=by unfold dS;exact fe (EF _ _) (by rw[List.length_range];omega)
  have dF:∀r∈(dS owners aw).map λi=>ae.getD i [],r∈ae:=λr hr=>by obtain⟨i,hi,rfl⟩:=jo.1 hr;have:=zj i hi;rw[dP,aO this];exact iD _
  have ur:=aey X (.list .held 1 (ints (ft (bU ae)))) _ (ft (bU ae)) hX ⟨_,_,rfl,λ_=>rfl⟩ (by rw[bu];exact hlen) (λr hr=>by rw[xF];exact(o3 r (dF r hr)).1) (by rw[xF];exact n2) (λr hr=>(o3 r (dF r hr)).2.2.2) (λx hx=>by
   unfold ft at hx;rcases gO.1 hx with rfl|hx
   ·exact⟨aK,by decide⟩
   ·rw[List.eq_of_mem_replicate hx];exact⟨aK,by decide⟩)
  rcases ur with⟨e1,c2⟩|⟨l,e1,e2,c2⟩
  ·rw[e1] at eA;have ke:=aj.mk eA;unfold im at c2;clear eA q1 q2 e1 dF zj o3;refine bM @D6 @bL ?_;exact⟨_,_,rfl,.push _ _,.inl ⟨0,ke.out,rfl⟩⟩
  ·rw[e1] at eA;have ke:=aj.mk eA;have mk:=zw (h.push [.list k0 s0 (xs.map λa=>[a]),y]) ae.length ag .i64 .i64;have nm:aY ae.length (im 0)=(ml ae.length (dS owners aw) l 0).map im:=(by unfold ml;rw[fB,EB,wO]);rw[nm] at mk;rw[bu] at e2;have ko:=aj.mk zj;obtain⟨ka,sa,rfl,iZ⟩:=hA;have ksa:=aj.mk iZ;have dY:=Oh (dS owners aw);have eR:=dn l;clear eA q1 q2 e1 dF zj o3 nm hX iZ;unfold im at c2 mk;generalize dS owners aw=ow at *
   clear o1;refine cY @D6 @bL @dw ?_;refine bG.gen λe0 aD bI cT cJ=>?_;have f4:e0.get 4=.arr (h.boxes.length+1) 0 ae.length ae.length:=(by rw[aD];simp only[gW,reduceIte,aX,aR,cK]);have f10:e0.get 10=.list .held 1 (ints l):=(by rw[aD];exact gS);have f42:e0.get 42=.list ka sa (ints (b7 ow)):=(by rw[aD];exact gS);have f43:e0.get 43=.v (.int .i64 (ow.length:Nat)):=(by rw[aD];exact gS);have f44:e0.get 44=.v (.int .i64 (0:Nat)):=(by rw[aD];exact gR);have fd:e0.defers=[]:=(by rw[bI];exact gS);clear aD bI cT cJ mk c c2 l25 l22;have jr:(h.push [.list k0 s0 (xs.map λa=>[a]),y]).boxes.length=h.boxes.length+1:=cK _ _;have X1:Ext h (h.push [.list k0 s0 (xs.map λa=>[a]),y]):=.push _ _;generalize h.push [.list k0 s0 (xs.map λa=>[a]),y]=H1 at *
   have kX:=aj.mk (ar X1 jr);clear X1;refine cq (λm e H=>∃j:Nat,j<=ow.length/\m=ow.length - j/\e.get 4=.arr (h.boxes.length+1) 0 ae.length ae.length/\e.get 10=.list .held 1 (ints l)/\e.get 42=.list ka sa (ints (b7 ow))/\e.get 43=.v (.int .i64 (ow.length:Nat))/\e.get 44=.v (.int .i64 (j:Nat))/\e.defers=[]/\H=H1.push ((ml ae.length ow l j).map im)) ?_ ow.length _ _ ?_;rotate_left 1
   ·exact⟨0,cr _,rfl,f4,f10,f42,f43,f44,fd,rfl⟩
   clear f4 f10 f42 f43 f44 fd;rintro m e H ⟨j,hj,rfl,g4,g10,g42,g43,g44,hd,rfl⟩;by_cases aA:j<ow.length
   ·obtain⟨p,fc⟩:∃p,ow[j]?=aa p:=⟨_,aO aA⟩;have xx:=ko.out p (de fc);have bB:sa=1:=ksa.out (by intro q;unfold b7 at q;rw[EG] at q;rw[q] at aA;exact rU _ aA);subst bB;have l0:=e7 (H:=H1.push ((ml ae.length ow l j).map im)) (l:=b7 ow) (i:=j) (s:=1) (by unfold b7;rw[bu];exact aA);rw[Xv fc] at l0;have l1:=e7 (H:=H1.push ((ml ae.length ow l j).map im)) (l:=l) (i:=j) (s:=1) ag;have ix3:=pQ (b:=h.boxes.length+1) (len:=ae.length) (aB:=ae.length) (k:=.i64) xx;have sk:=yd (H:=H1.push ((ml ae.length ow l j).map im)) (b:=H1.boxes.length) (r:=ml ae.length ow l j) (k:=p) (x:=ai l j) (a9 _ _) (by rw[Ko];exact xx);rw[oA,YO fc,jr] at sk;have fL:(j:Int)<(ow.length:Int):=(by omega);unfold im at *
    clear fc jr;refine bM @D6 @a8 ?_;exact⟨ow.length - (j+1),by omega,j+1,by omega,rfl,by simp⟩
   ·have nO:j=ow.length:=(by omega);subst nO;refine br @D6 ?_;refine⟨_,_,rfl,kX.out.1.trans (.push _ _),.inr ⟨_,h.boxes.length+1,ke.out,?_,rfl,?_⟩⟩
    ·rw[<-Kn,Ko]
    ·rw[<-Kn];exact mB kX.out.2.symm
def IS(H:ak)(x:AV)(l:List Int):Prop:=IL x l∨∃b,x=.arr b 0 l.length l.length/\H.boxes[b]?=aa (l.map im)
def IS.mono{H H'}{x}{l}(s:IS H x l)(m:∀(c:Nat) cs,H.boxes[c]?=aa cs->H'.boxes[c]?=aa cs):IS H' x l:=by
 rcases s with q|⟨b,q1,q2⟩
 ·exact .inl q
 ·exact .inr ⟨b,q1,m _ _ q2⟩
def IS.len{H}{x}{l}(s:IS H x l):ej al 23 x=aa (.v (.int .i64 (l.length:Nat))):=by
 rcases s with⟨k,z,rfl,-⟩|⟨b,rfl,-⟩
 ·rw[OC dJ,dn]
 ·rw[OB dJ]
def IS.at{H:ak}{x:AV}{l:List Int}(s:IS H x l){i:Nat}(hi:i<l.length):∃a,dy al 23 x (.v (.int .i64 (i:Nat)))=aa a/\∀H':ak,IS H' x l->aI al Gt H' 3 a=aa (.v (.int .i64 (ai l i))):=by
 rcases s with⟨k,z,rfl,hz⟩|⟨b,rfl,hb⟩
 ·have:z=1:=hz (by intro q;rw[q] at hi;exact rU _ hi);subst this;have q:=a8 (t:=23) (k:=k) (kk:=.i64) (sz:=1) (es:=ints l) (a:=((i:Nat):Int)) dJ fP ag (by rw[dn];omega);rw[dL] at q;exact⟨_,q,λH' _=>e7 hi⟩
 ·refine⟨.ptr (.box b) i,pQ (b:=b) (len:=l.length) (aB:=l.length) (n:=i) (k:=.i64) hi,λH' s'=>?_⟩;rcases s' with⟨k,z,e,-⟩|⟨b',e,gU⟩
  ·cases e
  ·injection e with e1;subst e1;exact xQ gU (vW hi)
def J9:Tryz.f196.results.toList=[.tmp 6]:=au
def aoE:Tryz.f195.results.toList=[.tmp 4]:=au
def We(h:ak)(x y:AV)(a own:List Int)(n:Int)(hx:IS h x a)(hy:IS h y own)(hl:own.length=a.length)(hw:a.length<=1000000):
 ∃r h',W3.call 196 [x,y,im n] h=aa (r,h')/\Ext h h'/\r=.ret (.arr h.boxes.length 0 a.length a.length)/\h'.boxes[h.boxes.length]?=aa ((iI n a own).map im):=by
 have mk:=zw h a.length hw .i64 .i64;have kk:=aj.mk (ar hx hy);have lx:=hx.len;have nm:aY a.length (im 0)=(jU (λj=>jA n (ai a j) (ai own j)) (aY a.length 0) 0 0).map im:=by rw[S4,wO]
 rw[nm] at mk;unfold im at mk;clear hx hy nm;refine df rfl Tryz.func196 rfl ?_;unfold im;refine br @J9 ?_;refine bG.gen λe0 aD bI cT cJ=>?_;have f0:e0.get 0=x:=by rw[aD];exact gS
 have f1:e0.get 1=y:=by rw[aD];exact gS
 have f2:e0.get 2=.v (.int .i64 n):=by rw[aD];exact gS
 have f7:e0.get 7=.arr h.boxes.length 0 a.length a.length:=by rw[aD];exact gS
 have f8:e0.get 8=.v (.int .i64 (0:Nat)):=by rw[aD];exact gR
 have fd:e0.defers=[]:=by rw[bI];exact gS
 clear aD bI cT cJ mk;refine cq (λm e H=>∃k:Nat,k<=a.length/\m=a.length - k/\e.get 0=x/\e.get 1=y/\e.get 2=.v (.int .i64 n)/\e.get 7=.arr h.boxes.length 0 a.length a.length/\e.get 8=.v (.int .i64 (k:Nat))/\e.defers=[]/\H=h.push ((jU (λj=>jA n (ai a j) (ai own j)) (aY a.length 0) 0 k).map im)) ?_ a.length _ _ ?_;rotate_left 1
 ·exact⟨0,cr _,rfl,f0,f1,f2,f7,f8,fd,rfl⟩
 clear f0 f1 f2 f7 f8 fd;rintro m e H ⟨k,hk,rfl,g0,g1,g2,g7,g8,hd,rfl⟩;by_cases aA:k<a.length
 ·obtain⟨ax,i1,i2⟩:=kk.out.1.at aA;obtain⟨ay,j1,j2⟩:=kk.out.2.at (ag:k<own.length);have l1:=i2 (h.push ((jU (λj=>jA n (ai a j) (ai own j)) (aY a.length 0) 0 k).map im)) (kk.out.1.mono λ_ _ q=>bg q);have l2:=j2 (h.push ((jU (λj=>jA n (ai a j) (ai own j)) (aY a.length 0) 0 k).map im)) (kk.out.2.mono λ_ _ q=>bg q);have c1:=λh=>anK n (ai own k) h;have c2:=λh=>al3 (ai a k) (0 - b9 n (ai own k)) h;have fl:jA n (ai a k) (ai own k)=cP (ai a k) (0 - b9 n (ai own k)):=by rw[Q2];rfl
  have fz:=xT (Fh n (ai own k));have cO:(aY a.length (0:Int)).length=a.length:=lT;have sk:=yd (H:=h.push ((jU (λj=>jA n (ai a j) (ai own j)) (aY a.length 0) 0 k).map im)) (b:=h.boxes.length) (r:=jU (λj=>jA n (ai a j) (ai own j)) (aY a.length 0) 0 k) (k:=k) (x:=jA n (ai a k) (ai own k)) (a9 _ _) (by rw[qY,cO];exact aA);have cs:=S3 (f:=λj=>jA n (ai a j) (ai own j)) (a:=aY a.length 0) (cr k) (by rw[cO];exact aA);rw[oA,cs,fl] at sk;have ix:=pQ (b:=h.boxes.length) (len:=a.length) (aB:=a.length) (k:=.i64) aA;have fL:(k:Int)<(a.length:Int):=by omega
  clear i2 j2 cs fl;generalize b9 n (ai own k)=z at *
  unfold im at *
  refine br @J9 ?_;refine ey Sy au ?_;refine br @J9 ?_;exact⟨a.length - (k+1),by omega,k+1,by omega,rfl,by simp⟩
 ·have:k=a.length:=by omega
  subst this;refine br @J9 ?_;refine⟨_,_,rfl,.push _ _,rfl,?_⟩;rw[a9];congr 2;refine wc (by rw[qY,uD hl.symm,lT]) λj hj=>?_;rw[qY,lT] at hj;rw[CE (by rw[lT];exact hj),aF ⟨cr _,hj⟩,vi hl.symm hj]
def arG(h:ak)(x:AV)(a:List Int)(n:Int)(hx:IS h x a)(hw:a.length<=1000000)(hn:0<=n/\n<=9223372036854775807):
 ∃r h',W3.call 195 [x,im n] h=aa (r,h')/\Ext h h'/\∃b,r=.ret (.arr b 0 a.length a.length)/\h'.boxes[b]?=aa ((scaleB a n).map im):=by
 have mk:=zw h a.length hw .i64 .i64;have lx:=hx.len;have hz:(h.push (aY a.length (im 0))).boxes[h.boxes.length]?=aa ((aY a.length (0:Int)).map im):=by rw[a9,wO]
 have sK:(aY a.length (0:Int)).length=a.length:=lT;obtain⟨r,h',c,X,rfl,hb⟩:=We (h.push (aY a.length (im 0))) (.arr h.boxes.length 0 a.length a.length) x (aY a.length 0) a (0 - n) (.inr ⟨h.boxes.length,by rw[sK],hz⟩) (hx.mono λ_ _ q=>bg q) sK.symm (by rw[sK];exact hw);rw[sK] at c;rw[Q2] at hb;have kk:=aj.mk (ar X hb);clear hx hz sK X hb;unfold im at c mk ⊢;refine df rfl Tryz.func195 rfl ?_;refine br @aoE ?_;exact⟨_,_,rfl,(Ext.push _ _).trans kk.out.1,_,rfl,kk.out.2⟩
def GP:Tryz.f193.results.toList=[.tmp 2]:=au
def WG(h:ak)(x:AV)(l:List Int)(hx:IL x l)(hl:l.length<=1000000):∃r h',W3.call 193 [x] h=aa (r,h')/\h'=h/\r=.ret (.v (.bool (l.all da))):=by
 obtain⟨k,s,rfl,hs⟩:=hx;have ks:=aj.mk hs;clear hs;have u23:=dJ;have z3:=fP;have cH:=dn l;refine df rfl Tryz.func193 rfl ?_;refine br @GP ?_;refine cq (λm e H=>∃i:Nat,i<=l.length/\m=l.length - i/\aj ((l.take i).all da=ah)/\e.get 0=.list k s (ints l)/\e.get 3=.v (.int .i64 (i:Nat))/\e.defers=[]/\H=h) ?_ l.length _ _ ?_;rotate_left 1
 ·refine⟨0,cr _,rfl,⟨bh⟩,?_,?_,?_,rfl⟩<;>exact gR
 rintro m e H ⟨i,hi,rfl,ka,g0,g3,hd,rfl⟩;by_cases aA:i<l.length
 ·have bB:s=1:=ks.out (by intro q;rw[q] at aA;simp at aA);subst bB;have ld:=e7 (H:=H) (s:=1) aA;have hv:l[i]?=aa (ai l i):=by rw[aO aA,fI aA]
  have fL:(i:Int)<(l.length:Int):=by omega
  have oS:(l.take (i+1)).all da=da (ai l i):=by rw[fH hv,List.all_append,ka.out];simp
  have oP:=de hv;have kt:=aj.mk (ar oS oP);have hq:da (ai l i)=(decide (0<=ai l i)&&decide (ai l i<1073741789)):=rfl;clear hv oS oP;generalize ai l i=n at *
  by_cases c1:n<0
  ·have eL:decide (n<0)=ah:=(by simp[c1]);have hf:l.all da=av:=(by rw[KY];exact⟨n,kt.out.2,by rw[hq];simp;omega⟩);have kf:=aj.mk hf;clear hf hq c1;refine bM @GP @a8 ?_;exact⟨_,_,rfl,rfl,by rw[kf.out]⟩
  ·have eL:decide (n<0)=av:=(by simp[c1]);by_cases c2:1073741789<=n
   ·have gu:decide (1073741789<=n)=ah:=(by simp[c2]);have hf:l.all da=av:=(by rw[KY];exact⟨n,kt.out.2,by rw[hq];simp;omega⟩);have kf:=aj.mk hf;clear hf hq c1 c2;refine bM @GP @a8 ?_;exact⟨_,_,rfl,rfl,by rw[kf.out]⟩
   ·have gu:decide (1073741789<=n)=av:=(by simp;omega);have kt2:aj ((l.take (i+1)).all da=ah):=⟨by rw[kt.out.1,hq];simp;omega⟩;clear hq c1 c2;refine bM @GP @a8 ?_;exact⟨l.length - (i+1),by omega,i+1,by omega,rfl,kt2,by simp⟩
 ·have:i=l.length:=by omega
  subst this;have:=ka.out;rw[fA] at this;have kan:=aj.mk this;clear this;refine br @GP ?_;exact⟨_,_,rfl,rfl,by rw[kan.out]⟩
def D0:Tryz.f192.results.toList=[.tmp 2]:=au
def VR{l:List Int}(h:∀x∈l,okF x):l.all da=ah:=by rw[dU];intro x hx;obtain⟨h1,h2⟩:=h x hx;unfold da;simp[h1,h2]
def al8(h:ak)(x:AV)(ae:List (List Int))(w:Nat)(hx:RL x ae)(hr:ae.length<=64)(hw:∀r∈ae,r.length=w)(nt:w<=64)(bA:∀r∈ae,∀x∈r,okF x):∃h',W3.call 192 [x] h=aa (.ret (.v (.int .i64 0)),h')/\h'=h:=by
 obtain⟨k,s,xs,rfl,hs,dx,dR⟩:=hx;have kk:=aj.mk (ar hs (ar dR (ar hw bA)));clear hs dR hw bA;have u23:=dJ;have u22:=iq;have z23:=iM;have cH:(xs.map λa=>[a]).length=ae.length:=by rw[bu];exact dx
 have IE:¬((64:Int)<(ae.length:Int)):=by omega
 refine gP rfl Tryz.func192 rfl ?_;refine br @D0 ?_;refine cq (λm e H=>∃i:Nat,i<=ae.length/\m=ae.length - i/\e.get 0=.list k s (xs.map λa=>[a])/\e.get 3=.v (.int .i64 (i:Nat))/\e.defers=[]/\H=h) ?_ ae.length _ _ ?_;rotate_left 1
 ·refine⟨0,cr _,rfl,?_,?_,?_,rfl⟩<;>exact gR
 rintro m e H ⟨i,hi,rfl,g0,g3,hd,rfl⟩;by_cases aA:i<ae.length
 ·have bB:s=1:=kk.out.1 (by intro q;rw[q] at aA;simp at aA);subst bB;obtain⟨a,fD⟩:∃a,xs[i]?=aa a:=⟨_,aO ag⟩;obtain⟨r,hv⟩:∃r,ae[i]?=aa r:=⟨_,aO aA⟩;have ld:=jY (H:=H) (s:=1) fD;obtain⟨ka,sa,rfl,iZ⟩:=kk.out.2.1 i a r fD hv;have cO:=kk.out.2.2.1 r (de hv);have vN:(ints r).length=w:=by rw[dn];exact cO
  have fL:(i:Int)<(ae.length:Int):=by omega
  have hwd:¬((64:Int)<(w:Int)):=by omega
  clear fD hv iZ cO;refine bM @D0 @a8 ?_;exact⟨ae.length - (i+1),by omega,i+1,by omega,rfl,by simp⟩
 ·refine br @D0 ?_;refine bG.gen λe0 aD bI cT cJ=>?_;have f0:e0.get 0=.list k s (xs.map λa=>[a]):=by rw[aD];simp only[gW,reduceIte,aX,aR];exact g0
  have f4:e0.get 4=.v (.int .i64 (0:Nat)):=by rw[aD];exact gR
  have fd:e0.defers=[]:=by rw[bI];simp only[gW,reduceIte,aX,aR];exact hd
  clear aD bI cT cJ g0 g3 hd hi aA;refine cq (λm e H2=>∃i:Nat,i<=ae.length/\m=ae.length - i/\e.get 0=.list k s (xs.map λa=>[a])/\e.get 4=.v (.int .i64 (i:Nat))/\e.defers=[]/\H2=H) ?_ ae.length _ _ ?_;rotate_left 1
  ·exact⟨0,cr _,rfl,f0,f4,fd,rfl⟩
  clear f0 f4 fd;rintro m e H ⟨i,hi,rfl,g0,g4,hd,rfl⟩;by_cases aA:i<ae.length
  ·have bB:s=1:=kk.out.1 (by intro q;rw[q] at aA;simp at aA);subst bB;obtain⟨a,fD⟩:∃a,xs[i]?=aa a:=⟨_,aO ag⟩;obtain⟨r,hv⟩:∃r,ae[i]?=aa r:=⟨_,aO aA⟩;obtain⟨a0,fJ⟩:∃a,xs[0]?=aa a:=⟨_,aO ag⟩;obtain⟨r0,fM⟩:∃r,ae[0]?=aa r:=⟨_,aO ag⟩;have ld:=jY (H:=H) (s:=1) fD;have ld0:=jY (H:=H) (s:=1) fJ;obtain⟨ka,sa,rfl,iZ⟩:=kk.out.2.1 i a r fD hv;obtain⟨ka0,sa0,rfl,oR⟩:=kk.out.2.1 0 a0 r0 fJ fM;have cO:=kk.out.2.2.1 r (de hv);have sI:=kk.out.2.2.1 r0 (de fM);obtain⟨_,H5,cc,e5,rfl⟩:=WG H (.list ka sa (ints r)) r ⟨_,_,rfl,iZ⟩ ag;rw[e5,VR (kk.out.2.2.2 r (de hv))] at cc;have vN:(ints r).length=w:=(by rw[dn];exact cO);have NW:(ints r0).length=w:=(by rw[dn];exact sI);have fL:(i:Int)<(ae.length:Int):=(by omega);have yR:(0:Int)<(ae.length:Int):=(by omega);have z0:(0:Int).toNat=0:=rfl;have FC:decide ((w:Int)=(w:Int))=ah:=(by simp);clear fD hv iZ cO fJ fM oR sI e5;refine bM @D0 @a8 ?_;refine ey Sy au ?_;refine bM @D0 @a8 ?_;exact⟨ae.length - (i+1),by omega,i+1,by omega,rfl,by simp⟩
  ·refine br @D0 ?_;exact⟨_,rfl,rfl⟩
def Yb:Tryz.f172.results.toList=[.tmp 4]:=au
def amp(h:ak)(x y:AV)(ae:List (List Int))(target:List Int)(hx:RL x ae)(hy:IL y target)(hr:ae.length<=64)(hw:∀r∈ae,r.length=target.length)(nt:target.length<=64)(bA:∀r∈ae,∀x∈r,okF x)(nP:∀x∈target,okF x):
 W3.call 172 [x,y] h=aa (.ret (.v (.int .i64 0)),h):=by
 obtain⟨h1,c1,e1⟩:=al8 h x ae target.length hx hr hw nt bA;rw[e1] at c1;obtain⟨_,h2,c2,e2,rfl⟩:=WG h y target hy ag;rw[e2,VR nP] at c2;clear e1 e2 h1 h2;obtain⟨k,s,xs,rfl,hs,dx,dR⟩:=hx;obtain⟨ky,sy,rfl,jX⟩:=hy;have u23:=dJ;have u22:=iq;have z23:=iM;have cH:(xs.map λa=>[a]).length=ae.length:=by rw[bu];exact dx
 have xu:=dn target;have IE:¬((64:Int)<(target.length:Int)):=by omega
 clear bA nP;refine cC rfl Tryz.func172 rfl ?_;by_cases h0:ae.length=0
 ·have hq:decide ((0:Int)<(ae.length:Int))=av:=cI ag;clear hw dR h0;exact lG @Yb
 ·have hq:decide ((0:Int)<(ae.length:Int))=ah:=bX ag;obtain⟨a0,fJ⟩:∃a,xs[0]?=aa a:=⟨_,aO ag⟩;obtain⟨r0,fM⟩:∃r,ae[0]?=aa r:=⟨_,aO ag⟩;have bB:s=1:=hs (by intro q;rw[q] at h0;simp at h0);subst bB;have ld0:=jY (H:=h) (s:=1) fJ;obtain⟨ka0,sa0,rfl,oR⟩:=dR 0 a0 r0 fJ fM;have sI:=hw r0 (de fM);have NW:(ints r0).length=target.length:=by rw[dn];exact sI
  have yR:(0:Int)<(ae.length:Int):=by omega
  have z0:(0:Int).toNat=0:=rfl;have FC:decide ((target.length:Int)=(target.length:Int))=ah:=by simp
  clear hw dR fJ fM sI hs h0;exact jL @Yb @a8
def L4:List FuncId:=[28,29,30,46,65,66,69,76,78,82,94,97,118,119,120,121,123,132,138,140,146,172,194,195,196,201]
noncomputable def DT:FuncId->Option (List AV->ak->Option (AV × ak)):=pq W3 L4
noncomputable abbrev W4:=whole al Gt DT
def vm:o8 DT L4:=wX
section
variable (a b n x:Int)
def RM:∀h,W4.call 28 [im a,im b] h=aa (.ret (im (cP a b)),h):=bm (L:=L4) rfl rfl rfl (abG a b _) rfl rfl
def Ws:∀h,W4.call 29 [im a,im b] h=aa (.ret (im (b9 a b)),h):=bm (L:=L4) rfl rfl rfl (ajY a b _) rfl rfl
def Zu:∀h,W4.call 46 [im x] h=aa (.ret (.v (.bool (bE x))),h):=bm (L:=L4) rfl rfl rfl (ar5 x _) rfl rfl
def agw:∀h,W4.call 69 [im a,im b] h=aa (.ret (.tuple [im (jB a b),im (mO a b)]),h):=bm (L:=L4) rfl rfl rfl (agv a b _) rfl rfl
def ME:∀h,W4.call 30 [im a,im n] h=aa (.ret (.tuple [im (fU a n),im (ma a)]),h):=bm (L:=L4) rfl rfl rfl (agA a n _) rfl rfl
def am2:∀h,W4.call 194 [im n] h=aa (.ret (.tuple [im (if fmod n=0 then 0 else dV n),im (if fmod n=0 then 90 else 0)]),h):=bm (L:=L4) rfl rfl rfl (am1 n _) rfl rfl
def apt:∀h,W4.call 94 [im x] h=aa (.ret (.v (.bool (bE x))),h):=bm (L:=L4) rfl rfl rfl (aps x _) rfl rfl
def amB:∀h,W4.call 140 [im a,im b] h=aa (.ret (.tuple [im (jB a b),im (mO a b)]),h):=bm (L:=L4) rfl rfl rfl (amA a b _) rfl rfl
def amI:∀h,W4.call 132 [im a,im n] h=aa (.ret (.tuple [im (fU a n),im (ma a)]),h):=bm (L:=L4) rfl rfl rfl (amH a n _) rfl rfl
def amW:∀h,W4.call 120 [im n] h=aa (.ret (.agg (aH 1 n [] .nil 0 [])),h):=bm (L:=L4) rfl rfl rfl (amV n _) rfl rfl
end
def ajf(x y)(a own)(n)(hx:IL x a)(hy:IL y own)(hl:own.length=a.length)(hw:a.length<=1000000):∀h,W4.call 196 [x,y,im n] h=aa (.ret (.list .held 1 (ints (iI n a own))),h):=by obtain⟨h1,h2⟩:=hx.hold;obtain⟨h3,h4⟩:=hy.hold;obtain⟨r,h',hc,-,rfl,hb⟩:=We ⟨[],[],0,[]⟩ (aC x) (aC y) a own n (.inl h1) (.inl h3) hl hw;exact bm (L:=L4) (cd:=[aC x,aC y,im n]) rfl rfl (by simp[aU,h2,h4,aL,im]) hc (Bm hb (uD hl.symm)) (by simp[aL,nh,qJ])
def Yv(a)(n):(scaleB a n).length=a.length:=by unfold scaleB;rw[uD (by rw[lT]),lT]
def arH(x)(a)(n)(hx:IL x a)(hw:a.length<=1000000)(hn:0<=n/\n<=9223372036854775807):∀h,W4.call 195 [x,im n] h=aa (.ret (.list .held 1 (ints (scaleB a n))),h):=by obtain⟨h1,h2⟩:=hx.hold;obtain⟨r,h',hc,-,b,rfl,hb⟩:=arG ⟨[],[],0,[]⟩ (aC x) a n (.inl h1) hw hn;exact bm (L:=L4) (cd:=[aC x,im n]) rfl rfl (by simp[aU,h2,aL,im]) hc (Bm hb (Yv a n)) (by simp[aL,nh,qJ])
def abB(k0)(s0)(xs:List AV)(y z)(ae)(owners aw)(hx:RL (.list k0 s0 (xs.map λa=>[a])) ae)(hy:IL y owners)(hz:IL z aw)(jQ:aw.length<=1099511627776):
 (∃e,fZ ae owners aw=([],av,e)/\∀h,W4.call 76 [.agg [.list k0 s0 (xs.map λa=>[a]),y],z] h=aa (.ret (.tuple [.list .nil 0 [],.v (.bool av),.v (.int .i64 e)]),h))∨
 ∃l,fZ ae owners aw=(l,ah,0)/\l.length=ae.length/\∀h,W4.call 76 [.agg [.list k0 s0 (xs.map λa=>[a]),y],z] h=aa (.ret (.tuple [.list .held 1 (ints l),.v (.bool ah),.v (.int .i64 0)]),h):=by
 obtain⟨h1,h2⟩:=hx.hold;obtain⟨h3,h4⟩:=hy.hold;obtain⟨h5,h6⟩:=hz.hold;have ea:bV [.agg [.list k0 s0 (xs.map λa=>[a]),y],z]=[.agg [.list (bR k0) s0 ((xs.map aC).map λa=>[a]),aC y],aC z]:=by rw[bV,aC,bV,bV,bV,aC,Bd];rfl
 have ef:aU 0 0 0 [.agg [.list (bR k0) s0 ((xs.map aC).map λa=>[a]),aC y],aC z]=ah:=by have hf:=w9 _ h2;rw[aU,aL,aU,aU,aU,aU,aL,eX,hf,h4,h6];rfl
 obtain⟨r,h',hc,-,⟨e,e1,rfl⟩|⟨l,b,e1,e2,rfl,e3⟩⟩:=abE ⟨[],[],0,[]⟩ (bR k0) s0 (xs.map aC) (aC y) (aC z) ae owners aw h1 h3 h5 jQ
 ·exact .inl ⟨e,e1,bm (L:=L4) rfl ea ef hc rfl rfl⟩
 ·refine .inr ⟨l,e1,e2,bm (L:=L4) rfl ea ef hc ?_ (by simp[aL,aU,nh,qJ])⟩;rw[ju,sL,Bm e3 e2];rfl
def amq(x y)(ae)(target)(hx:RL x ae)(hy:IL y target)(hr:ae.length<=64)(hw:∀r∈ae,r.length=target.length)(nt:target.length<=64)(bA:∀r∈ae,∀x∈r,okF x)(nP:∀x∈target,okF x):
 ∀h,W4.call 172 [x,y] h=aa (.ret (.v (.int .i64 0)),h):=by
 obtain⟨h1,h2⟩:=hx.fF;obtain⟨h3,h4⟩:=hy.hold;exact bm (L:=L4) (cd:=[aC x,aC y]) rfl rfl (by simp[aU,h2,h4]) (amp ⟨[],[],0,[]⟩ (aC x) (aC y) ae target h1 h3 hr hw nt bA nP) rfl rfl
def JZ:Tryz.f137.results.toList=[.tmp 4]:=au
def agZ(h:ak)(x:AV)(l:List Int)(n:Int)(hx:IL x l)(hl:l.length<=1099511627776):∃r h',W4.call 137 [x,im n] h=aa (r,h')/\h'=h/\r=.ret (.v (.bool (l.contains n))):=by
 obtain⟨k,s,rfl,hs⟩:=hx;have ks:=aj.mk hs;clear hs;have u23:=dJ;have z3:=fP;have cH:=dn l;unfold im;refine df rfl Tryz.func137 rfl ?_;refine br @JZ ?_;refine cq (λm e H=>∃i:Nat,i<=l.length/\m=l.length - i/\aj ((l.take i).contains n=av)/\e.get 0=.list k s (ints l)/\e.get 1=.v (.int .i64 n)/\e.get 5=.v (.int .i64 (i:Nat))/\e.defers=[]/\H=h) ?_ l.length _ _ ?_;rotate_left 1
 ·refine⟨0,cr _,rfl,⟨bh⟩,?_,?_,?_,?_,rfl⟩<;>exact gR
 rintro m e H ⟨i,hi,rfl,ka,g0,g1,g5,hd,rfl⟩;by_cases aA:i<l.length
 ·have bB:s=1:=ks.out (by intro q;rw[q] at aA;simp at aA);subst bB;have ld:=e7 (H:=H) (s:=1) aA;have hv:l[i]?=aa (ai l i):=by rw[aO aA,fI aA]
  have fL:(i:Int)<(l.length:Int):=by omega
  have kv:=aj.mk hv;clear hv;by_cases hc:ai l i=n
  ·have eL:decide (ai l i=n)=ah:=(by simp[hc]);have hf:l.contains n=ah:=(by rw[Ce,bX];rw[<-hc];exact de kv.out);have kf:=aj.mk hf;clear hf;have khc:=aj.mk hc;generalize ai l i=v at *
   clear hc
   repeat' (first|simp(maxSteps:=999999)(disch:=first|exact dZ|fail)only[gW,reduceIte,aX,aR,JZ,a8, *]|refine dX ?_ ?_<;>(intro _;try omega))
   all_goals first|exact⟨_,_,rfl,rfl,by rw[kf.out]⟩|exact absurd khc.out (by assumption)
  ·have eL:decide (ai l i=n)=av:=(by simp[hc]);have kt2:aj ((l.take (i+1)).contains n=av):=⟨by
    have:=ka.out;rw[fH kv.out];rw[Ce,decide_eq_false_iff_not] at *
    rw[uZ,not_or];exact⟨this,by rw[mo];exactλq=>hc q.symm⟩⟩
   repeat' (first|simp(maxSteps:=999999)(disch:=first|exact dZ|fail)only[gW,reduceIte,aX,aR,JZ,a8, *]|refine dX ?_ ?_<;>(intro _;try omega))
   all_goals exact⟨l.length - (i+1),by omega,i+1,by omega,rfl,kt2,by simp⟩
 ·have:i=l.length:=by omega
  subst this;have:=ka.out;rw[fA] at this;have kan:=aj.mk this;clear this;refine br @JZ ?_;exact⟨_,_,rfl,rfl,by rw[kan.out]⟩
def aoo:Tryz.f135.results.toList=[.tmp 2]:=au
def arv(h:ak)(n:Nat)(h1:0<n)(h2:n<=1000000):W4.call 135 [im (n:Nat)] h=aa (.ret (.arr h.boxes.length 0 n n),h.push ((ft n).map im)):=by
 have mk:=zw h n h2 .i64 .i64;have nm:aY n (im 0)=(aY n (0:Int)).map im:=by rw[wO]
 rw[nm] at mk;have sk:=yd (H:=h.push ((aY n (0:Int)).map im)) (b:=h.boxes.length) (r:=aY n (0:Int)) (k:=0) (x:=1) (a9 _ _) (by rw[lT];exact h1);have uy:(aY n (0:Int)).set 0 1=ft n:=by obtain⟨c,rfl⟩:∃c,n=c+1:=⟨n - 1,by omega⟩;unfold ft;rw[zW];rfl
 rw[oA,uy] at sk;have ix:dy al 23 (.arr h.boxes.length 0 n n) (.v (.int .i64 0))=aa (.ptr (.box h.boxes.length) 0):=pQ (n:=0) (k:=.i64) h1;clear nm uy;unfold im at *
 refine cC rfl Tryz.func135 rfl ?_;exact lG @aoo
def XW:Tryz.f136.results.toList=[.tmp 2]:=au
def aes(h:ak)(x y:AV)(ae:List (List Int))(owners:List Int)(hx:RL x ae)(hy:IL y owners):∃h',W4.call 136 [.agg [x,y]] h=aa (.ret (.v (.int .i64 (bU ae:Nat))),h')/\h'=h.push [x,y]:=by
 obtain⟨k,s,xs,rfl,hs,dx,dR⟩:=hx;have bx:(AV.agg [.list k s (xs.map λa=>[a]),y]).b8=aa [.list k s (xs.map λa=>[a]),y]:=by obtain⟨ky,sy,rfl,-⟩:=hy;rfl
 have l0:=rE (a9 h [.list k s (xs.map λa=>[a]),y]);have u23:=dJ;have u22:=iq;have z23:=iM;have cH:(xs.map λa=>[a]).length=ae.length:=by rw[bu];exact dx
 refine gP rfl Tryz.func136 rfl ?_;by_cases h0:ae.length=0
 ·have hq:(ae.length:Int)=0:=by omega
  have hc:bU ae=1:=by unfold bU;rw[aF h0]
  rw[hc];clear h0 dR hs dx hc;refine cY @XW @bL @dw ?_;exact⟨_,rfl,rfl⟩
 ·have hq:¬((ae.length:Int)=0):=by omega
  obtain⟨a0,fJ⟩:∃a,xs[0]?=aa a:=⟨_,aO ag⟩;obtain⟨r0,fM⟩:∃r,ae[0]?=aa r:=⟨_,aO ag⟩;have bB:s=1:=hs (by intro q;rw[q] at h0;simp at h0);subst bB;have ld0:=jY (H:=h.push [.list k 1 (xs.map λa=>[a]),y]) (s:=1) fJ;obtain⟨ka0,sa0,rfl,oR⟩:=dR 0 a0 r0 fJ fM;have hc:bU ae=r0.length:=by unfold bU;rw[aG h0,dP,fM];rfl
  rw[hc];have cO:=dn r0;have yR:(0:Int)<(ae.length:Int):=by omega
  have z0:(0:Int).toNat=0:=rfl;clear h0 dR hs dx hc fJ fM oR;refine bJ @XW @bL @dw @a8 ?_;exact⟨_,rfl,rfl⟩
def tJ:Tryz.f93.results.toList=[.tmp 2]:=au
def akW(h:ak)(x:AV)(l:List Int)(hx:IL x l)(hl:l.length<=9223372036854775807):∃r h',W4.call 93 [x] h=aa (r,h')/\h'=h/\r=.ret (.v (.bool (fW (-1) l))):=by
 obtain⟨k,s,rfl,hs⟩:=hx;have ks:=aj.mk hs;clear hs;have u23:=dJ;have z3:=fP;have cH:=dn l;refine df rfl Tryz.func93 rfl ?_;refine br @tJ ?_;refine cq (λm e H=>∃(i:Nat) (cE:Int),i<=l.length/\m=l.length - i/\aj (fW cE (l.drop i)=fW (-1) l)/\ -1<=cE/\aj (i=0->cE= -1)/\aj (0<i->ai l (i - 1)=cE)/\e.get 0=.list k s (ints l)/\e.get 3=.v (.int .i64 (i:Nat))/\e.defers=[]/\H=h) ?_ l.length _ _ ?_;rotate_left 1
 ·refine⟨0,-1,cr _,rfl,⟨rfl⟩,KT _,⟨λ_=>rfl⟩,⟨λq=>absurd q (ER _)⟩,?_,?_,?_,rfl⟩<;>exact gR
 rintro m e H ⟨i,cE,hi,rfl,kP,kD,k0,k1,g0,g3,hd,rfl⟩;by_cases aA:i<l.length;rotate_left 1
 ·have:i=l.length:=by omega
  subst this;have hf:fW (-1) l=ah:=by rw[<-kP.out,pc (aJ _)];rfl
  have kf:=aj.mk hf;clear hf;refine br @tJ ?_;exact⟨_,_,rfl,rfl,by rw[kf.out]⟩
 have bB:s=1:=ks.out (by intro q;rw[q] at aA;simp at aA);subst bB;have ld:=e7 (H:=H) (s:=1) aA;have fL:(i:Int)<(l.length:Int):=by omega
 have oq:l.drop i=ai l i::l.drop (i+1):=by rw[fI aA];exact zR aA
 have qp:=kP.out;rw[oq,fW] at qp;have kpf:=aj.mk qp;clear qp oq;by_cases c1:ai l i<0
 ·have eL:decide (ai l i<0)=ah:=by simp[c1]
  have hf:fW (-1) l=av:=by rw[<-kpf.out];simp;omega
  have kf:=aj.mk hf;clear hf c1;refine bM @tJ @a8 ?_;refine ey vm au ?_;refine bM @tJ @a8 ?_;exact⟨_,_,rfl,rfl,by rw[kf.out]⟩
 have eL:decide (ai l i<0)=av:=by simp[c1]
 by_cases c2:64<=ai l i
 ·have gu:decide (64<=ai l i)=ah:=by simp[c2]
  have hf:fW (-1) l=av:=by rw[<-kpf.out];simp;omega
  have kf:=aj.mk hf;clear hf c1 c2;refine bM @tJ @a8 ?_;refine ey vm au ?_;refine bM @tJ @a8 ?_;exact⟨_,_,rfl,rfl,by rw[kf.out]⟩
 have gu:decide (64<=ai l i)=av:=by simp;omega
 by_cases Nd:i=0
 ·subst Nd;have zf:=k0.out rfl;have kP2:aj (fW (ai l 0) (l.drop (0+1))=fW (-1) l):=⟨by rw[<-kpf.out,bX (ag:cE<ai l 0),bX (ag:ai l 0<=63)];rfl⟩;have Ba: -1<=ai l 0:=by omega
  have kk1:aj (0<0+1->ai l (0+1 - 1)=ai l 0):=⟨λ_=>rfl⟩;clear c1 c2 zf kpf;refine bM @tJ @a8 ?_;refine ey vm au ?_;refine bM @tJ @a8 ?_;exact⟨l.length - 1,by omega,0+1,ai l 0,by omega,rfl,kP2,Ba,⟨λq=>absurd q ag⟩,kk1,by simp⟩
 ·have C8:=k1.out ag;have ld1:=e7 (H:=H) (l:=l) (i:=i - 1) (s:=1) ag;rw[C8] at ld1;have I9:decide ((0:Int)<(i:Int))=ah:=bX ag;have jl:(i:Int) - 1=((i - 1:Nat):Int):=by omega
  have ahS:((i - 1:Nat):Int)<(l.length:Int):=by omega
  by_cases c3:ai l i<=cE
  ·have su:decide (ai l i<=cE)=ah:=(by simp[c3]);have hf:fW (-1) l=av:=(by rw[<-kpf.out];simp;omega);have kf:=aj.mk hf;clear hf c1 c2 c3 C8;refine bM @tJ @a8 ?_;refine ey vm au ?_;refine bM @tJ @a8 ?_;exact⟨_,_,rfl,rfl,by rw[kf.out]⟩
  ·have su:decide (ai l i<=cE)=av:=(by simp;omega);have kP2:aj (fW (ai l i) (l.drop (i+1))=fW (-1) l):=⟨by rw[<-kpf.out,bX (ag:cE<ai l i),bX (ag:ai l i<=63)];rfl⟩;have Ba: -1<=ai l i:=(by omega);have kk1:aj (0<i+1->ai l (i+1 - 1)=ai l i):=⟨λ_=>rfl⟩;clear c1 c2 c3 C8 kpf;refine bM @tJ @a8 ?_;refine ey vm au ?_;refine bM @tJ @a8 ?_;exact⟨l.length - (i+1),by omega,i+1,ai l i,by omega,rfl,kP2,Ba,⟨λq=>absurd q ag⟩,kk1,by simp⟩
end Go.Proofs.YtnfciiiohoafaaaGreatDoor
end
