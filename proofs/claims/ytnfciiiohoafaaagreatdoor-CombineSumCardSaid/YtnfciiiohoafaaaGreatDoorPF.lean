/-
  Part of the proof: PF.
-/
import Derived.Test.YtnfciiiohoafaaaGreatDoorPE
open List renaming getElem?_eq_some_iff→abm,mem_of_getElem?→abz,length_set→aca,getElem?_set_self→ad4,getElem?_eq_getElem→abo,mem_or_eq_of_mem_set→ach,range→aby,getElem_map→acA,getElem_range→adf,length_append→abx,length_take→abI,length_drop→abS,getElem?_map→abF,length_map→abu,map_set→ago,set_eq_take_append_cons_drop→acy,getElem?_set→aci,set_set→aeD,contains_eq_mem→ac5,set_set_perm→agq,length_cons→ab0,length_nil→ab7,map_append→acv,getElem_of_mem→agf,mem_append→acX,mem_of_mem_take→acq,mem_map→aco,getElem?_of_mem→acC,range_succ→acx,foldl_append→acs,getD_eq_getElem?_getD→abw,mem_cons_self→abM,mem_singleton→acg,take_succ_cons→abO,take_zero→abY,mem_cons_of_mem→abH,replicate→abt,replicate_succ→adl,append_nil→ab2,getElem?_append_left→ab5,getElem?_concat_length→adg,take_of_length_le→abD,take_length→abU,any_append→aeP,any_eq_true→adJ,nil_append→ab9,any_eq_false→afH,length_replicate→ack,getElem?_zipIdx→agb,mem_cons→acd,all_eq_true→abE,getElem?_drop→acw,foldl_nil→afr,map_replicate→aev,map_eq_nil_iff→adG,mem_range→abQ,getElem_mem→ab1,filter_append→ady,filter_cons→aej,map_cons→abK,length_filter_le→adN,map_inj_right→aeW,mem_filter→ac7
open And renaming intro→abp
open Nat renaming reduceEqDiff→abn,le_refl→abq,le_trans→abT,mul_le_mul→acP,zero_add→acB,zero_le→abG,not_lt_zero→acH,lt_or_ge→abL,lt_irrefl→afD,sub_self→adx
open Bool renaming and_eq_true→abr,not_eq_true'→ac0,false_or→aem,false_and→ade,and_eq_false_iff→af5
open Int renaming le_refl→afy,lt_trans→agV
open Decidable renaming not_not→ae2
set_option maxHeartbeats 64000000
set_option maxRecDepth 100000
set_option linter.unusedSimpArgs false
set_option linter.unusedVariables false
set_option linter.constructorNameAsVariable false
section
namespace Go.Proofs.YtnfciiiohoafaaaGreatDoor
open Go.AE Go.NT
theorem JZ:Tryz.f203.results.toList=[]:=kZq
structure Tab(H:ae)(tb:Nat)(B:List Nat)(t:List (List Int))(w:Nat):Prop where
 hdr:H.boxes[tb]?=some (B.map fun b=>AV.arr b 0 w w)
 len:B.length=t.length
 nd:B.Nodup
 row:∀(i b:Nat) (r:List Int),B[i]?=some b->t[i]?=some r->H.boxes[b]?=some (r.map im)
 wid:∀r∈t,r.length=w
 out:tb∉B
theorem J0{l:List Nat}(h:l.Nodup){i j x:Nat}(hi:l[i]?=some x)(hj:l[j]?=some x):i=j:=by
 obtain⟨h1,e1⟩:=abm.1 hi
 obtain⟨h2,e2⟩:=abm.1 hj
 exact(List.getElem_inj h).1 (e1.trans e2.symm)
theorem Tab.set{H:ae}{tb w i b:Nat}{B:List Nat}{t:List (List Int)}(T:Tab H tb B t w)(hi:B[i]?=some b){r:List Int}(hr:r.length=w):Tab (H.put b (r.map im)) tb B (t.set i r) w:=by
 have hil:=(abm.1 hi).1
 have hbm:=abz hi
 refine⟨?_,by rw[aca];exact T.len,T.nd,fun j b' r' hj hr'=>?_,fun r' hr'=>?_,T.out⟩
 ·rw[av (fun e=>T.out (by rw[e];exact hbm))];exact T.hdr
 ·by_cases hji:j=i
  ·subst hji
   rw[hi] at hj
   injection hj with hj
   subst hj
   rw[ad4 (by rw[<-T.len];exact hil)] at hr'
   injection hr' with hr'
   subst hr'
   have hl2:j<t.length:=by rw[<-T.len];exact hil
   exact aS (abm.1 (T.row j b _ hi (abo hl2))).1
  ·have hne:b'≠b:=fun e=>hji (J0 T.nd (by rw[<-e];exact hj) hi)
   rw[av hne]
   rw[List.getElem?_set_ne (fun e=>hji e.symm)] at hr'
   exact T.row j b' r' hj hr'
 ·rcases ach hr' with q|q
  ·exact T.wid r' q
  ·rw[q];exact hr
theorem Tab.mono{H H':ae}{tb w:Nat}{B:List Nat}{t:List (List Int)}(T:Tab H tb B t w)(m:∀(c:Nat) cs,H.boxes[c]?=some cs->H'.boxes[c]?=some cs):Tab H' tb B t w:=
 ⟨m _ _ T.hdr,T.len,T.nd,fun i b r hi hr=>m _ _ (T.row i b r hi hr),T.wid,T.out⟩
def lV(n:Int)(a own:List Int)(c k:Nat):List Int:=(aby a.length).map fun j=>if c<=j/\j<k then nw n (at0 a j) (at0 own j) else at0 a j
theorem fK{n:Int}{a own:List Int}{c k:Nat}:(lV n a own c k).length=a.length:=by unfold lV;simp
theorem rP{n:Int}{a own:List Int}{c k j:Nat}(hj:j<a.length):at0 (lV n a own c k) j=if c<=j/\j<k then nw n (at0 a j) (at0 own j) else at0 a j:=by
 rw[bN (by rw[fK];exact hj)]
 unfold lV
 rw[acA,adf]
theorem GW{n:Int}{a own:List Int}{c:Nat}:lV n a own c c=a:=by
 refine jV fK fun j hj=>?_
 rw[fK] at hj
 rw[rP hj,if_neg (by omega)]
theorem GX{n:Int}{a own:List Int}{c k:Nat}(hc:c<=k)(hk:k<a.length):(lV n a own c k).set k (nw n (at0 a k) (at0 own k))=lV n a own c (k+1):=by
 refine jV (by rw[aca,fK,fK]) fun j hj=>?_
 rw[aca,fK] at hj
 rw[ui (by rw[fK];exact hk),rP hj,rP hj]
 by_cases hjk:j=k
 ·subst hjk;rw[if_pos rfl,if_pos (by omega)]
 ·rw[if_neg hjk]
  by_cases q:c<=j/\j<k
  ·rw[if_pos q,if_pos (by omega)]
  ·rw[if_neg q,if_neg (by omega)]
theorem J2{n:Int}{a own:List Int}{c:Nat}(hl:a.length=own.length)(hc:c<=a.length):lV n a own c a.length=a.take c++fH n (a.drop c) (own.drop c):=by
 have hd:(a.drop c).length=(own.drop c).length:=by simp[hl]
 refine jV (by rw[fK,abx,jz hd,abI,abS];omega) fun j hj=>?_
 rw[fK] at hj
 rw[rP hj,kJ hc]
 by_cases q:j<c
 ·rw[if_neg (by omega),if_pos q]
 ·rw[if_pos (by omega),if_neg q,iK hd (by rw[abS];omega),ry,ry,show c+(j - c)=j by omega]
theorem gv{r:List Int}{k:Nat}(hk:k<r.length):(r.map im)[k]?=some (im (at0 r k)):=by
 rw[abF,abo hk,bN hk];rfl
theorem J3{H:ae}{b k:Nat}{r:List Int}{x:Int}(hb:H.boxes[b]?=some (r.map im))(hk:k<r.length):aA Tryz.prog H 3 (.ptr (.box b) k) (.v (.int .i64 x))=some (H.put b ((r.set k x).map im)):=by
 rw[aW (xs:=[im x]) rfl sz3 hb rfl (by rw[abu];exact hk)]
 congr 2
 unfold bI
 rw[ago,acy,if_pos (by rw[abu];exact hk)]
 simp
theorem nI{x:Int}(h:okF x):0<=x/\x<=9223372036854775807:=by
 obtain⟨h1,h2⟩:=h
 have:Qi=1073741789:=rfl
 omega
theorem J4(h:ae)(tb:Nat)(B:List Nat)(t:List (List Int))(w i y c:Nat)(a own:List Int)(T:Tab h tb B t w)(hi:t[i]?=some a)(hy:t[y]?=some own)(hne:i≠y)(hc:c<w)(hw:w<=1000000)(hok:∀r∈t,∀x∈r,okF x):
 ∃h',W2.call 203 [.arr tb 0 B.length B.length,im (i:Nat),im (y:Nat),im (c:Nat)] h=some (.ret (.tuple []),h')/\Tab h' tb B (t.set i (lE c a own)) w/\∀n0,fi B n0 h h':=by
 have hil:=(abm.1 hi).1
 have hyl:=(abm.1 hy).1
 obtain⟨bi,hbi⟩:∃b,B[i]?=some b:=⟨_,abo (by rw[T.len];exact hil)⟩
 obtain⟨bY,hby⟩:∃b,B[y]?=some b:=⟨_,abo (by rw[T.len];exact hyl)⟩
 have ra:=T.row i bi a hbi hi
 have ro:=T.row y bY own hby hy
 have wa:=T.wid a (abz hi)
 have wo:=T.wid own (abz hy)
 have hbb:bi≠bY:=fun e=>hne (J0 T.nd (by rw[e] at hbi;exact hbi) hby)
 have hdl:=(abm.1 T.hdr).1
 have hbil:=(abm.1 ra).1
 have hbyl:=(abm.1 ro).1
 have htbi:tb≠bi:=fun e=>T.out (by rw[e];exact abz hbi)
 have hdi:(B.map fun b=>AV.arr b 0 w w)[i]?=some (.arr bi 0 w w):=by rw[abF,hbi];rfl
 have hdy:(B.map fun b=>AV.arr b 0 w w)[y]?=some (.arr bY 0 w w):=by rw[abF,hby];rfl
 have oka:=hok a (abz hi)
 have oko:=hok own (abz hy)
 have hiB:i<B.length:=by rw[T.len];exact hil
 have hyB:y<B.length:=by rw[T.len];exact hyl
 have z3:=zc3
 have bx1:∀b n m:Nat,(AV.arr b 0 n m).aC=some [.arr b 0 n m]:=fun _ _ _=>rfl
 have bx2:∀n:Int,(AV.v (.int .i64 n)).aC=some [.v (.int .i64 n)]:=fun _=>rfl
 have ixi:=xH (b:=tb) (len:=B.length) (cap:=B.length) (k:=.i64) hiB
 have ixy:=xH (b:=tb) (len:=B.length) (cap:=B.length) (k:=.i64) hyB
 have ixc:=vE (b:=bi) (len:=w) (cap:=w) (k:=.i64) hc
 have n0:=nI (gU oka c)
 have unf:lE c a own=if at0 a c=0 then a else lV (at0 a c) a own c w:=by
  unfold lE
  rw[<-wa,J2 (by omega) (by omega)]
 rw[unf]
 clear unf
 generalize hn:at0 a c=n at *
 have hbase:∀(z:AV) (cs ds:List AV),((h.push cs).push ds).boxes[tb]?=some (B.map fun b=>AV.arr b 0 w w)/\((h.push cs).push ds).boxes[bi]?=some (a.map im):=fun z cs ds=>⟨aj (aj T.hdr),aj (aj ra)⟩
 generalize hH2:(h.push [.arr tb 0 B.length B.length]).push [im (i:Nat)]=H2
 have l1:∀cs,ai Tryz.prog Gt (H2.push cs) 203 (.ptr (.box h.boxes.length) 0)=some (.arr tb 0 B.length B.length):=fun cs=>qa (by rw[<-hH2];exact aj (aj (ak _ _)))
 have l1':ai Tryz.prog Gt H2 203 (.ptr (.box h.boxes.length) 0)=some (.arr tb 0 B.length B.length):=qa (by rw[<-hH2];exact aj (ak _ _))
 have l2:ai Tryz.prog Gt H2 3 (.ptr (.box (h.boxes.length+1)) 0)=some (.v (.int .i64 (i:Nat))):=ld3 (by rw[<-hH2];exact cD (by rw[az]))
 have l3:ai Tryz.prog Gt H2 23 (.ptr (.box tb) i)=some (.arr bi 0 w w):=oQ (by rw[<-hH2];exact aj (aj T.hdr)) hdi
 have l4:ai Tryz.prog Gt H2 3 (.ptr (.box bi) c)=some (.v (.int .i64 n)):=by
  have:=ldc (k:=c) (x:=im (at0 a c)) (show H2.boxes[bi]?=some (a.map im) by rw[<-hH2];exact aj (aj ra)) (gv (by omega))
  rw[hn] at this;exact this
 have l5:ai Tryz.prog Gt (H2.push [.v (.int .i64 n)]) 3 (.ptr (.box H2.boxes.length) 0)=some (.v (.int .i64 n)):=ld3 (ak _ _)
 have s5:aA Tryz.prog (H2.push [im 0]) 3 (.ptr (.box H2.boxes.length) 0) (.v (.int .i64 n))=some (H2.push [.v (.int .i64 n)]):=cQ rfl sz3 rfl rfl
 have l6:∀cs,ai Tryz.prog Gt (H2.push cs) 23 (.ptr (.box tb) y)=some (.arr bY 0 w w):=fun cs=>oQ (by rw[<-hH2];exact aj (aj (aj T.hdr))) hdy
 have kH2l:ah (H2.boxes.length=h.boxes.length+2):=⟨by rw[<-hH2,az,az]⟩
 have kM2:ah (∀n0,fi B n0 h H2):=⟨fun n0=>by rw[<-hH2];exact(fi.refl.push _).push _⟩
 have kT2:ah (Tab H2 tb B t w):=⟨T.mono fun cc cs q=>by rw[<-hH2];exact aj (aj q)⟩
 have e0:(h.push [AV.arr tb 0 B.length B.length]).push [.v (.int .i64 (i:Nat))]=H2:=hH2
 have kL2:ah (H2.loops=h.loops):=⟨by rw[<-hH2];rfl⟩
 have kb0:ah (H2.boxes[h.boxes.length]?=some [.arr tb 0 B.length B.length]):=⟨by rw[<-hH2];exact aj (ak _ _)⟩
 have kb1:ah (H2.boxes[h.boxes.length+1]?=some [im (i:Nat)]):=⟨by rw[<-hH2];exact cD (by rw[az])⟩
 have e1:(h.push [AV.arr tb 0 B.length B.length]).boxes.length=h.boxes.length+1:=az _ _
 have kT:=ah.mk T
 have ko:=ah.mk (abp oka oko)
 clear hbase hdl T ra ro hok oka oko hH2
 unfold im at *
 refine dL rfl Tryz.func203 rfl ?_
 by_cases hz:n=0
 ·subst hz
  rw[if_pos rfl]
  refine gx2 @JZ @aw ?_
  exact⟨_,rfl,by
   have e:t.set i a=t:=by
    apply List.ext_getElem?
    intro j
    rw[aci]
    split
    ·rename_i q;subst q;exact hi.symm
    ·rfl
   rw[e]
   exact kT2.out.mono fun cc cs q=>aj q,fun n0=>(kM2.out n0).push _⟩
 ·rw[if_neg hz]
  have af:=Bq bY w c (H2.push [.v (.int .i64 n)])
  unfold im at af
  refine gx2 @JZ @aw ?_
  refine Run.gen fun e he hd hp hro=>?_
  have g4:e.get 4=.ptr (.box h.boxes.length) 0:=by rw[he];exact gS
  have g5:e.get 5=.ptr (.box (h.boxes.length+1)) 0:=by rw[he];exact gS
  have g8:e.get 8=.ptr (.box H2.boxes.length) 0:=by rw[he];exact gS
  have g25:e.get 25=.func (.func 219) [] [.ptr (.box (H2.boxes.length+1+1)) 0,.ptr (.box (H2.boxes.length+1)) 0]:=by rw[he];simp only[gW,reduceIte,abn,gBQ];simp only[az]
  have hdf:e.defers=[]:=by rw[hd];exact gS
  clear he hd hp hro
  refine kD (by rw[lv];exact g25) fun rec w1 w2 w3 w4 w5 w6=>?_
  have hkk:=kH2l.out
  have hT2:=kT2.out
  have hok:=ko.out
  have hM3:∀n0,fi B n0 h (((H2.push [.v (.int .i64 n)]).push [.arr bY 0 w w]).push [.v (.int .i64 c)]):=fun n0=>(((kM2.out n0).push _).push _).push _
  have hT3:Tab (((H2.push [.v (.int .i64 n)]).push [.arr bY 0 w w]).push [.v (.int .i64 c)]) tb B t w:=hT2.mono fun cc cs q=>aj (aj (aj q))
  have p0:(((H2.push [.v (.int .i64 n)]).push [.arr bY 0 w w]).push [.v (.int .i64 c)]).boxes[H2.boxes.length]?=some [.v (.int .i64 n)]:=aj (aj (ak _ _))
  have p1:(((H2.push [.v (.int .i64 n)]).push [.arr bY 0 w w]).push [.v (.int .i64 c)]).boxes[H2.boxes.length+1]?=some [.arr bY 0 w w]:=aj (cD (by rw[az]))
  have p2:(((H2.push [.v (.int .i64 n)]).push [.arr bY 0 w w]).push [.v (.int .i64 c)]).boxes[H2.boxes.length+1+1]?=some [.v (.int .i64 c)]:=cD (by rw[az,az])
  have p3:(((H2.push [.v (.int .i64 n)]).push [.arr bY 0 w w]).push [.v (.int .i64 c)]).boxes[h.boxes.length]?=some [.arr tb 0 B.length B.length]:=aj (aj (aj kb0.out))
  have p4:(((H2.push [.v (.int .i64 n)]).push [.arr bY 0 w w]).push [.v (.int .i64 c)]).boxes[h.boxes.length+1]?=some [.v (.int .i64 i)]:=aj (aj (aj kb1.out))
  have pL:(((H2.push [.v (.int .i64 n)]).push [.arr bY 0 w w]).push [.v (.int .i64 c)]).loops=h.loops:=kL2.out
  generalize ((H2.push [.v (.int .i64 n)]).push [.arr bY 0 w w]).push [.v (.int .i64 c)]=H3 at *
  have hLL:H3.loops.length=h.loops.length:=congrArg List.length pL
  rw[hLL]
  clear pL
  clear l1 l1' l2 l3 l4 l5 s5 l6 e0 e1 af hT2 kb0 kb1
  have hrow:=hT3.row i bi a hbi hi
  have hrow2:=hT3.row y bY own hby hy
  have hbl:=(abm.1 hrow).1
  have htl:=(abm.1 (kT.out.hdr)).1
  have hblh:=(abm.1 (kT.out.row i bi a hbi hi)).1
  have hlr:(H3.loop rec).loops[h.loops.length]?=some rec:=by rw[<-hLL];exact @kC H3 rec
  have I1:∀(k:Nat) (H:ae),H=(H3.loop rec).put bi ((lV n a own c k).map im)->H.boxes[H2.boxes.length+1+1]?=some [im (c:Nat)]/\H.boxes[H2.boxes.length+1]?=some [.arr bY 0 w w]/\(k<w->∃cs,H.boxes[bY]?=some cs/\cs[k]?=some (im (at0 own k))):=by
   rintro k H rfl
   refine⟨?_,?_,fun hk=>⟨_,?_,gv (by omega)⟩⟩
   ·rw[av (by omega)];exact p2
   ·rw[av (by omega)];exact p1
   ·rw[av (Ne.symm hbb)];exact hrow2
  have I2:∀(k:Nat) (H:ae),c<=k->k<w->H=(H3.loop rec).put bi ((lV n a own c k).map im)->∃H',W2.round h.loops.length [im (k:Nat),im (at0 own k)] H=some (.ret (.v (.bool true)),H')/\H'=(H3.loop rec).put bi ((lV n a own c (k+1)).map im):=by
   rintro k H hk1 hk2 rfl
   refine pC (Post:=fun H=>H=(H3.loop rec).put bi ((lV n a own c (k+1)).map im)) hlr (by rw[w2];rfl) w5 w6 ?_
   have kq:=GX (n:=n) (own:=own) hk1 (show k<a.length by omega)
   have cat:at0 (lV n a own c k) k=at0 a k:=by rw[rP (by omega),if_neg (by omega)]
   have r1:∀t,(dD h.loops.length rec [im (k:Nat),im (at0 own k)]).get t=if 27=t then im (at0 own k) else if 26=t then im (k:Nat) else e.get t:=fun t=>jn w2 w1
   have d1:(dD h.loops.length rec [im (k:Nat),im (at0 own k)]).defers=[]:=rfl
   obtain⟨K,hK⟩:∃K,((H3.loop rec).put bi ((lV n a own c k).map im)).busy h.loops.length rec=K:=⟨_,rfl⟩
   rw[hK]
   have b1:K.boxes[bi]?=some ((lV n a own c k).map im):=by rw[<-hK];exact aS hbl
   have b2:K.boxes[h.boxes.length]?=some [.arr tb 0 B.length B.length]:=by rw[<-hK];exact(av (by omega)).trans p3
   have b3:K.boxes[h.boxes.length+1]?=some [im (i:Nat)]:=by rw[<-hK];exact(av (by omega)).trans p4
   have b4:K.boxes[H2.boxes.length]?=some [im n]:=by rw[<-hK];exact(av (by omega)).trans p0
   have b5:K.boxes[tb]?=some (B.map fun b=>AV.arr b 0 w w):=by rw[<-hK];exact(av htbi).trans hT3.hdr
   have m1:=ldc b1 (gv (r:=lV n a own c k) (k:=k) (by rw[fK];omega))
   rw[cat] at m1
   have m2:=qa b2
   have m3:=ld3 b3
   have m4:=ld3 b4
   have m5:=oQ b5 hdi
   have ixk:=vE (b:=bi) (len:=w) (cap:=w) (k:=.i64) hk2
   have sk:=J3 (r:=lV n a own c k) (k:=k) (x:=nw n (at0 a k) (at0 own k)) b1 (by rw[fK];omega)
   rw[kq] at sk
   have ok1:=nI (gU hok.1 k)
   have ok2:=nI (gU hok.2 k)
   have f1:=fun h=>Pa n (at0 own k) h
   have f2:=fun h=>Rg (at0 a k) (0 - cq n (at0 own k)) h
   have f3:=nI (ru n (at0 own k))
   have fl:nw n (at0 a k) (at0 own k)=cN (at0 a k) (0 - cq n (at0 own k)):=by rw[Int.zero_sub];rfl
   rw[fl] at sk
   generalize cq n (at0 own k)=z at *
   generalize at0 a k=z1 at *
   generalize at0 own k=z2 at *
   clear hkk g25 hrow hrow2 p0 p1 p2 p3 p4 kH2l kM2 kT2 kT ko cat hM3 hT3 b1 b2 b3 b4 b5 kq fl hok
   unfold im at *
   rw[w3,w4]
   refine gx0 ?_
   refine⟨trivial,trivial,?_⟩
   refine Run.gen fun e2 he2 hd2 hp2 hro2=>?_
   have q4:e2.get 4=.ptr (.box h.boxes.length) 0:=by rw[he2];simp only[gW,reduceIte,abn,gBQ,r1];exact g4
   have q5:e2.get 5=.ptr (.box (h.boxes.length+1)) 0:=by rw[he2];simp only[gW,reduceIte,abn,gBQ,r1];exact g5
   have q8:e2.get 8=.ptr (.box H2.boxes.length) 0:=by rw[he2];simp only[gW,reduceIte,abn,gBQ,r1];exact g8
   have q9:e2.get 9=.v (.int .i64 k):=by rw[he2];simp only[gW,reduceIte,abn,gBQ,r1]
   have q10:e2.get 10=.v (.int .i64 z2):=by rw[he2];simp only[gW,reduceIte,abn,gBQ,r1]
   clear he2 hd2 hp2 hro2 r1 d1
   repeat' (first|simp(maxSteps:=999999)(disch:=first|exact dZ|fail)only[gW,reduceIte,abn,gBQ, *]|(refine dX ?_ ?_<;>(intro _;try omega))|refine bf tH kZq ?_)
   rw[<-hK]
   simp only[ae.put,ae.busy,ae.loop,aeD]
   exact⟨trivial,trivial,trivial⟩
  obtain⟨h',c1,c2⟩:=vG h.loops.length (H2.boxes.length+1+1) (H2.boxes.length+1) bY w c own (fun k H=>H=(H3.loop rec).put bi ((lV n a own c k).map im)) I1 I2 (by omega) hw ((H3.loop rec).put bi ((lV n a own c c).map im)) rfl
  have e3:H3.loop rec=(H3.loop rec).put bi ((lV n a own c c).map im):=by
   rw[GW];exact(ec (h:=H3.loop rec) hrow).symm
  rw[<-e3] at c1
  subst c2
  clear e3
  refine⟨_,_,c1,rec,hlr,by rw[w5];decide,.inl ⟨w6,?_⟩⟩
  clear c1 w1 w2 w3 w4 w5 w6 hlr hrow hrow2 p0 p1 p2 p3 p4 kH2l kM2 kT2 kT ko
  refine gx1 @JZ ?_
  refine⟨_,rfl,?_,fun n0=>(((hM3 n0).lD _).trans (.put (abz hbi) _)).bh (abq _) _⟩
  have T5:=Tab.set (H:=H3.loop rec) (hT3.mono fun _ _ q=>q) hbi (r:=lV n a own c w) (by rw[fK];exact wa)
  exact T5.mono fun _ _ q=>q
structure GM(S:List Nat)(n0:Nat)(h h':ae)(t:Tok):Prop where
 mu:fi S n0 h h'
 can:bG n0 h' t
 ok:aZ h'=true
section
variable {S S':List Nat} {n0:Nat} {h h' h2:ae} {t k:Tok}
theorem ME(m:∀n,fi S n h h')(c:bG n0 h t):bG n0 h' t:=by
 rcases c with q|q|⟨i,q,q1,q2⟩
 ·exact .inl q
 ·exact .inr (.inl q)
 ·refine .inr (.inr ⟨i,q,q1,?_⟩)
  have hlt:=gG q2
  unfold alive at *
  simp only[abr,ac0,ac5,decide_eq_false_iff_not,decide_eq_true_eq] at *
  exact⟨Nat.lt_of_lt_of_le hlt (m 0).tn,fun hd=>q2.2 ((m (i+1)).dead i (Nat.lt_succ_self _) hd)⟩
theorem GM.then(g:GM S n0 h h' t)(m:∀n,fi S n h' h2):GM S n0 h h2 t:=⟨g.mu.trans (m n0),ME m g.can,(m 0).ok g.ok⟩
theorem GM.app(g:GM S n0 h h' t)(hn:n0<=h.tn):GM S n0 h (h'.app t) (.free h'.tn):=by
 have G:=Grown.one (n0:=n0) g.can g.ok (abT hn g.mu.tn)
 exact⟨g.mu.trans G.O0,G.can,G.ok⟩
theorem GM.refl(hk:bG n0 h t)(ho:aZ h=true):GM S n0 h h t:=⟨.refl,hk,ho⟩
end
theorem nT:Tryz.f180.results.toList=[.tmp 4]:=kZq
theorem Tab.swap{H:ae}{tb w i j bi bj:Nat}{B:List Nat}{t:List (List Int)}{a b:List Int}(T:Tab H tb B t w)(hi:B[i]?=some bi)(hj:B[j]?=some bj)(ha:t[i]?=some a)(hb:t[j]?=some b):
 Tab (H.put tb (((B.set i bj).set j bi).map fun b=>AV.arr b 0 w w)) tb ((B.set i bj).set j bi) ((t.set i b).set j a) w:=by
 have hil:=(abm.1 hi).1
 have hjl:=(abm.1 hj).1
 have hlt:=(abm.1 T.hdr).1
 have hperm:((B.set i bj).set j bi).Perm B:=by
  have q:=agq hil hjl
  rwa [show B[j]=bj from(abm.1 hj).2,show B[i]=bi from(abm.1 hi).2] at q
 have hmem:∀x,x∈(B.set i bj).set j bi->x∈B:=fun x hx=>hperm.mem_iff.1 hx
 refine⟨aS hlt,by simp[T.len],(hperm.nodup_iff).2 T.nd,fun k b' r hk hr=>?_,fun r hr=>?_,fun hx=>T.out (hmem _ hx)⟩
 ·have hne:b'≠tb:=fun e=>T.out (hmem _ (by rw[<-e];exact abz hk))
  rw[av hne]
  rw[aci] at hk hr
  rw[aca] at hk hr
  by_cases e1:j=k
  ·subst e1
   rw[if_pos rfl,if_pos hjl] at hk
   rw[if_pos rfl,if_pos (by rw[<-T.len];exact hjl)] at hr
   injection hk with hk;injection hr with hr
   subst hk;subst hr
   exact T.row i _ _ hi ha
  ·rw[if_neg e1] at hk hr
   rw[aci] at hk hr
   by_cases e2:i=k
   ·subst e2
    rw[if_pos rfl,if_pos hil] at hk
    rw[if_pos rfl,if_pos (by rw[<-T.len];exact hil)] at hr
    injection hk with hk;injection hr with hr
    subst hk;subst hr
    exact T.row j _ _ hj hb
   ·rw[if_neg e2] at hk hr
    exact T.row k _ _ hk hr
 ·rcases ach hr with q|q
  ·rcases ach q with q|q
   ·exact T.wid r q
   ·rw[q];exact T.wid _ (abz hb)
  ·rw[q];exact T.wid _ (abz ha)
theorem pQ(x:Int):aN Tryz.prog 23 1 [(0,.v (.int .i64 x))]=some (.list .tight 1 [[.v (.int .i64 x)]]):=kZq
theorem wI{H:ae}{k:Tok}{n0 sz:Nat}{es:List Int}{x:Int}(hl:es.length<1099511627776)(hs:sz=1∨(es=[]/\k=.nil))(hk:bG n0 H k):
 bP Tryz.prog H #[23,23] (.list k sz (ints es)) (.list .tight 1 [[.v (.int .i64 x)]])=some (.list (.free H.tn) 1 (ints (es++[x])),H.app k):=by
 obtain⟨i,q1,q2,q3,q4⟩:=in3
 have hb:=acP (show es.length+1<=1099511627776 by omega) q3
 have:=lI (t0:=23) (t1:=23) (n0:=n0) (i:=i) (sz:=sz) (es:=ints es) (new:=ints [x]) (x:=.list .tight 1 (ints [x])) Tryz.underlying23 (.inl ⟨_,Tryz.underlying23⟩) q1 (by omega) (by rw[q2];exact q4) (by rw[q2];rfl) (by simp[ints])
  (by simp only[ints,abu,ab0,ab7,acB];omega) (by simp only[ints,abu,ab0,ab7];omega) (hs.imp (fun q=>q.trans q2.symm) fun q=>⟨by rw[q.1];rfl,q.2⟩) hk
 rw[q2] at this
 unfold ints at *
 rw[acv]
 exact this
theorem NH{H:ae}{b k x w:Nat}{B:List Nat}(hb:H.boxes[b]?=some (B.map fun b=>AV.arr b 0 w w))(hk:k<B.length):aA Tryz.prog H 23 (.ptr (.box b) k) (.arr x 0 w w)=some (H.put b ((B.set k x).map fun b=>AV.arr b 0 w w)):=by
 rw[aW (xs:=[AV.arr x 0 w w]) rfl jC hb rfl (by rw[abu];exact hk)]
 congr 2
 unfold bI
 rw[ago,acy,if_pos (by rw[abu];exact hk)]
 simp
theorem GY{n:Int}{a b:List Int}:∀x∈fH n a b,okF x:=by
 intro x hx
 unfold fH at hx
 obtain⟨i,hi,rfl⟩:=agf hx
 rw[List.getElem_zipWith]
 exact mJ _
theorem DI{c:Nat}{a own:List Int}(h:∀x∈a,okF x):∀x∈lE c a own,okF x:=by
 intro x hx
 unfold lE at hx
 split at hx
 ·exact h x hx
 ·rcases acX.1 hx with q|q
  ·exact h x (acq q)
  ·exact GY x q
theorem DJ{c:Nat}{a:List Int}{n:Int}(h:∀x∈a,okF x):∀x∈da c a n,okF x:=by
 intro x hx
 unfold da at hx
 rcases acX.1 hx with q|q
 ·exact h x (acq q)
 ·obtain⟨y,-,rfl⟩:=aco.1 q
  exact ru _ _
theorem J6{c r j:Nat}{own:List Int}{t:List (List Int)}(h:∀a∈t,∀x∈a,okF x):∀a∈pP c own r j t,∀x∈a,okF x:=by
 intro a ha
 obtain⟨i,hi⟩:=acC ha
 rw[gJ] at hi
 cases q:t[i]? with
 |none=>rw[q] at hi;cases hi
 |some y=>
  rw[q,Option.map_some] at hi
  injection hi with hi
  have hy:=h y (abz q)
  rw[<-hi]
  split
  ·exact DI hy
  ·exact hy
theorem vH{c:Nat}{a:List Int}{n:Int}(hc:c<=a.length):(da c a n).length=a.length:=by
 unfold da;rw[abx,abu,abI,abS];omega
def pvI(pv:List Nat):List Int:=pv.map fun(p:Nat)=>(p:Int)
def qF(t:List (List Int))(c:Nat):List (List Int) × List Nat:=(aby c).foldl pZ (t,[])
theorem xI(t:List (List Int))(c:Nat):qF t (c+1)=pZ (qF t c) c:=by
 unfold qF
 rw[acx,acs]
 rfl
theorem ED{t:List (List Int)}{w:Nat}(hl:∀a∈t,a.length=w)(ho:∀a∈t,∀x∈a,okF x):∀c,c<=w->rv w c (qF t c)/\(qF t c).1.length=t.length/\(qF t c).2.length<=t.length:=by
 intro c
 induction c with
 |zero=>exact fun _=>⟨⟨hl,ho,fun _ _ _ _ j hj=>by omega⟩,rfl,abG _⟩
 |succ c ih=>
  intro hc
  obtain⟨i1,i2,i3⟩:=ih (by omega)
  rw[xI]
  refine⟨by rw[xn i1 (by omega)];exact qx i1 (by omega),?_⟩
  unfold pZ
  cases hf:lF (qF t c).1 (qF t c).2.length c with
  |none=>exact⟨i2,i3⟩
  |some k=>
   obtain⟨k1,k2,k3⟩:=jf hf
   refine⟨by simp[i2],?_⟩
   simp only[abx,ab0,ab7]
   omega
theorem zA(pv:List Nat):(ints (pvI pv)).length=pv.length:=by unfold ints pvI;simp
theorem Br(t:List (List Int))(many:Nat):pj t many=qF t many:=rfl
theorem GZ(h:ae)(tb:Nat)(B:List Nat)(t:List (List Int))(w many:Nat)(T:Tab h tb B t w)(hm:many<=w)(hw:w<=1000000)(hn:t.length<=1000000)(hok:∀r∈t,∀x∈r,okF x)(ho:aZ h=true):
 ∃r h',W2.call 180 [.arr tb 0 t.length t.length,im (many:Nat)] h=some (r,h')/\∃(k:Tok) (s:Nat) (B':List Nat),r=.ret (.list k s (ints (pvI (pj t many).2)))/\(s=1∨(pvI (pj t many).2=[]/\k=.nil))/\Tab h' tb B' (pj t many).1 w/\B'.Perm B/\GM (tb::B) h.tn h h' k:=by
 have kT:=ah.mk T
 have kok:=ah.mk hok
 have kBl:ah (∀b∈B,b<h.boxes.length):=⟨fun b hb=>by
  obtain⟨i,hi⟩:=acC hb
  have hil:=(abm.1 hi).1
  exact(abm.1 (T.row i b _ hi (abo (by rw[<-T.len];exact hil)))).1⟩
 have z3:=zc3
 have bx1:∀b n m:Nat,(AV.arr b 0 n m).aC=some [.arr b 0 n m]:=fun _ _ _=>rfl
 have bx2:∀n:Int,(AV.v (.int .i64 n)).aC=some [.v (.int .i64 n)]:=fun _=>rfl
 have g0:GM (tb::B) h.tn h (h.push [.arr tb 0 t.length t.length]) .nil:=⟨fi.refl.push _,.inl rfl,ho⟩
 have T0:Tab (h.push [.arr tb 0 t.length t.length]) tb B t w:=T.mono fun _ _ q=>aj q
 have p0:(h.push [.arr tb 0 t.length t.length]).boxes[h.boxes.length]?=some [.arr tb 0 t.length t.length]:=ak _ _
 have r0:rv w 0 (qF t 0):=⟨T.wid,hok,fun _ _ _ _ _ q=>absurd q (acH _)⟩
 have kk:=ah.mk (abp g0 (abp T0 (abp p0 r0)))
 clear g0 T0 p0 r0 T hok ho
 unfold im at *
 refine aL rfl Tryz.func180 rfl ?_
 refine gx2 @nT @aw ?_
 refine Run.gen fun e0 he0 hd0 hp0 hr0=>?_
 have q2:e0.get 2=.ptr (.box h.boxes.length) 0:=by rw[he0];exact gS
 have q4:e0.get 4=.list .nil 0 (ints (pvI [])):=by rw[he0];exact gR
 have q13:e0.get 13=.v (.int .i64 (many:Nat)):=by rw[he0];exact gS
 have q14:e0.get 14=.v (.int .i64 (0:Nat)):=by rw[he0];exact gR
 have qd:e0.defers=[]:=by rw[hd0];exact gS
 clear he0 hd0 hp0 hr0
 refine aD (fun m e H=>∃(c:Nat) (B':List Nat) (k:Tok) (s:Nat),c<=many/\m=many - c/\Tab H tb B' (qF t c).1 w/\B'.Perm B/\H.boxes[h.boxes.length]?=some [.arr tb 0 t.length t.length]/\e.get 2=.ptr (.box h.boxes.length) 0/\e.get 4=.list k s (ints (pvI (qF t c).2))/\(s=1∨(pvI (qF t c).2=[]/\k=.nil))/\e.get 13=.v (.int .i64 (many:Nat))/\e.get 14=.v (.int .i64 (c:Nat))/\e.defers=[]/\GM (tb::B) h.tn h H k) ?_ many _ _ ?_
 rotate_left 1
 ·exact⟨0,B,.nil,0,abG _,rfl,kk.out.2.1,.refl _,kk.out.2.2.1,q2,q4,.inr ⟨rfl,rfl⟩,q13,q14,qd,kk.out.1⟩
 clear kk q2 q4 q13 q14 qd
 rintro m e H ⟨c,B',tk,s,hc,rfl,T',hP,hb2,g2,g4,hs,g13,g14,hd,hG⟩
 have kT':=ah.mk T'
 have kP:=ah.mk hP
 have ks:=ah.mk hs
 have kG:=ah.mk hG
 obtain⟨R,i2,i3⟩:=ED kT.out.wid kok.out c (by omega)
 have kR:=ah.mk R
 clear T' hP hG R
 by_cases hlt:c<many
 rotate_left 1
 ·have:c=many:=by omega
  subst this
  clear hb2 i2 i3 hs
  repeat' (first|simp(maxSteps:=999999)(disch:=first|exact dZ|fail)only[gW,reduceIte,abn,gBQ,nT, *]|refine dX ?_ ?_<;>(intro _;try omega))
  refine⟨_,_,rfl,tk,s,B',?_⟩
  rw[Br]
  exact⟨rfl,ks.out,kT'.out,kP.out,kG.out⟩
 have rS:=xI t c
 generalize hst:qF t c=st at *
 obtain⟨t',pv⟩:=st
 dsimp only at *
 have hrl:=zA pv
 have u23:=Tryz.underlying23
 have u203:=Tryz.underlying203
 have s0:∀n,aA Tryz.prog (H.push [.v (.int .i64 0)]) 3 (.ptr (.box H.boxes.length) 0) (.v (.int .i64 n))=some (H.push [.v (.int .i64 n)]):=fun n=>cQ rfl sz3 rfl rfl
 have l0:∀n,ai Tryz.prog Gt (H.push [.v (.int .i64 n)]) 3 (.ptr (.box H.boxes.length) 0)=some (.v (.int .i64 n)):=fun n=>ld3 (ak _ _)
 repeat' (first|simp(maxSteps:=999999)(disch:=first|exact dZ|fail)only[gW,reduceIte,abn,gBQ,nT,aw, *]|refine dX ?_ ?_<;>(intro _;try omega))
 refine Run.gen fun e0 he0 hd0 hp0 hr0=>?_
 have f2:e0.get 2=.ptr (.box h.boxes.length) 0:=by rw[he0];simp only[gW,reduceIte,abn,gBQ,g2]
 have f4:e0.get 4=.list tk s (ints (pvI pv)):=by rw[he0];simp only[gW,reduceIte,abn,gBQ,g4]
 have f5:e0.get 5=.v (.int .i64 (c:Nat)):=by rw[he0];simp only[gW,reduceIte,abn,gBQ,g14]
 have f6:e0.get 6=.ptr (.box H.boxes.length) 0:=by rw[he0];exact gS
 have f7:e0.get 7=.v (.int .i64 (pv.length:Nat)):=by rw[he0];exact gS
 have f13:e0.get 13=.v (.int .i64 (many:Nat)):=by rw[he0];simp only[gW,reduceIte,abn,gBQ,g13]
 have f14:e0.get 14=.v (.int .i64 (c:Nat)):=by rw[he0];simp only[gW,reduceIte,abn,gBQ,g14]
 have fd:e0.defers=[]:=by rw[hd0];simp only[gW,reduceIte,abn,gBQ];exact hd
 clear he0 hd0 hp0 hr0 g2 g4 g13 g14 hd
 have T2:Tab (H.push [.v (.int .i64 (pv.length:Nat))]) tb B' t' w:=kT'.out.mono fun _ _ q=>aj q
 have G2:GM (tb::B) h.tn h (H.push [.v (.int .i64 (pv.length:Nat))]) tk:=kG.out.then fun _=>fi.refl.push _
 have b2:(H.push [.v (.int .i64 (pv.length:Nat))]).boxes[h.boxes.length]?=some [.arr tb 0 t.length t.length]:=aj hb2
 have b3:(H.push [.v (.int .i64 (pv.length:Nat))]).boxes[H.boxes.length]?=some [.v (.int .i64 (pv.length:Nat))]:=ak _ _
 have hHl:(H.push [.v (.int .i64 (pv.length:Nat))]).boxes.length=H.boxes.length+1:=az _ _
 have hhl:h.boxes.length<H.boxes.length:=(abm.1 hb2).1
 generalize H.push [.v (.int .i64 (pv.length:Nat))]=H2 at *
 clear kT' kG s0 l0 hb2
 have kT2:=ah.mk T2
 have kG2:=ah.mk G2
 have kl:=ah.mk hHl
 have l2:=qa b2
 have l3:=ld3 b3
 have kb2:=ah.mk b2
 have kb3:=ah.mk b3
 clear T2 G2 hHl b2 b3
 generalize hHn:H.boxes.length=hl at *
 clear hHn
 refine aD (fun m e H3=>∃j:Nat,pv.length<=j/\j<=t.length/\m=t.length - j/\ah (∀k,pv.length<=k->k<j->at0 (t'.getD k []) c=0)/\e.get 2=.ptr (.box h.boxes.length) 0/\e.get 4=.list tk s (ints (pvI pv))/\e.get 5=.v (.int .i64 (c:Nat))/\e.get 6=.ptr (.box hl) 0/\e.get 7=.v (.int .i64 (j:Nat))/\e.get 13=.v (.int .i64 (many:Nat))/\e.get 14=.v (.int .i64 (c:Nat))/\e.defers=[]/\H3=H2) ?_ (t.length - pv.length) _ _ ?_
 rotate_left 1
 ·exact⟨pv.length,abq _,i3,rfl,⟨fun k h1 h2=>absurd h1 (by omega)⟩,f2,f4,f5,f6,f7,f13,f14,fd,rfl⟩
 clear f2 f4 f5 f6 f7 f13 f14 fd
 rintro m e3 H2 ⟨j,hj1,hj2,rfl,kz,g2,g4,g5,g6,g7,g13,g14,hd,rfl⟩
 by_cases hjl:j<t.length
 rotate_left 1
 ·have hje:j=t.length:=by omega
  subst hje
  have hfs:=xD (t:=t') (c:=c) hj1 (by omega) kz.out (fun q=>absurd q (by omega))
  rw[if_pos (by omega)] at hfs
  have hst:qF t (c+1)=(t',pv):=by rw[rS];unfold pZ;simp only[hfs]
  have khst:=ah.mk hst
  clear hfs hst rS
  repeat' (first|simp(maxSteps:=999999)(disch:=first|exact dZ|fail)only[gW,reduceIte,abn,gBQ,nT, *]|refine dX ?_ ?_<;>(intro _;try omega))
  refine⟨many - (c+1),by omega,c+1,B',tk,s,by omega,rfl,?_⟩
  rw[khst.out]
  exact⟨kT2.out,kP.out,kb2.out,trivial,rfl,ks.out,trivial,by simp,trivial,kG2.out⟩
 obtain⟨b,hb⟩:∃b,t'[j]?=some b:=⟨_,abo (by omega)⟩
 obtain⟨bj,hbj⟩:∃b,B'[j]?=some b:=⟨_,abo (by rw[kT2.out.len];omega)⟩
 have wb:=kT2.out.wid b (abz hb)
 have hrow:=kT2.out.row j bj b hbj hb
 have ixj:=xH (b:=tb) (len:=t.length) (cap:=t.length) (k:=.i64) hjl
 have ixc:=vE (b:=bj) (len:=w) (cap:=w) (k:=.i64) (show c<w by omega)
 have hdj:(B'.map fun b=>AV.arr b 0 w w)[j]?=some (.arr bj 0 w w):=by rw[abF,hbj];rfl
 have m1:=oQ kT2.out.hdr hdj
 have m2:=ldc hrow (gv (k:=c) (by omega))
 have gDj:t'.getD j []=b:=by rw[abw,hb];rfl
 have khr:=ah.mk hrow
 clear hrow
 by_cases hzero:at0 b c=0
 ·have hz2:∀k,pv.length<=k->k<j+1->at0 (t'.getD k []) c=0:=by
   intro k h1 h2
   rcases abL k j with q|q
   ·exact kz.out k h1 q
   ·rw[show k=j by omega,gDj];exact hzero
  have kz2:=ah.mk hz2
  rw[hzero] at m2
  clear hz2 kz gDj hzero hdj rS
  unfold im at *
  repeat' (first|simp(maxSteps:=999999)(disch:=first|exact dZ|fail)only[gW,reduceIte,abn,gBQ,nT, *]|refine dX ?_ ?_<;>(intro _;try omega))
  exact⟨t.length - (j+1),by omega,j+1,by omega,by omega,rfl,kz2,trivial,trivial,trivial,trivial,by simp,trivial,trivial,trivial,trivial⟩
 have hfs:=xD (t:=t') (c:=c) hj1 (by omega) kz.out (fun _=>by rw[gDj];exact hzero)
 rw[if_neg (by omega)] at hfs
 obtain⟨o,ho⟩:∃b,t'[pv.length]?=some b:=⟨_,abo (by omega)⟩
 obtain⟨bo,hbo⟩:∃b,B'[pv.length]?=some b:=⟨_,abo (by rw[kT2.out.len];omega)⟩
 have hgo:=JA hfs hb ho
 rw[<-rS] at hgo
 have kgo:=ah.mk hgo
 have kne:=ah.mk hzero
 have okb:=kR.out.ok b (abz hb)
 have nz:=nI (gU okb c)
 have ixr:=xH (b:=tb) (len:=t.length) (cap:=t.length) (k:=.i64) (show pv.length<t.length by omega)
 have hdo:(B'.map fun b=>AV.arr b 0 w w)[pv.length]?=some (.arr bo 0 w w):=by rw[abF,hbo];rfl
 have m3:=oQ kT2.out.hdr hdo
 have T3:=Tab.swap kT2.out hbo hbj ho hb
 have nb1:bj<h.boxes.length:=kBl.out bj (kP.out.mem_iff.1 (abz hbj))
 have nb2:tb≠bj:=fun e=>kT2.out.out (by rw[e];exact abz hbj)
 have htbl:=(abm.1 kT.out.hdr).1
 have hne1:h.boxes.length≠tb:=by omega
 have hne2:hl≠tb:=by omega
 have s1:=NH (w:=w) (x:=bj) (k:=pv.length) kT2.out.hdr (by rw[kT2.out.len];omega)
 have hd2:(H2.put tb ((B'.set pv.length bj).map fun b=>AV.arr b 0 w w)).boxes[tb]?=some ((B'.set pv.length bj).map fun b=>AV.arr b 0 w w):=aS (abm.1 kT2.out.hdr).1
 have s2:=NH (w:=w) (x:=bo) (k:=j) hd2 (by rw[aca,kT2.out.len];omega)
 rw[uj] at s2
 have l2b:ai Tryz.prog Gt (H2.put tb ((B'.set pv.length bj).map fun b=>AV.arr b 0 w w)) 203 (.ptr (.box h.boxes.length) 0)=some (.arr tb 0 t.length t.length):=qa ((av hne1).trans kb2.out)
 have G3:GM (tb::B) h.tn h (H2.put tb (((B'.set pv.length bj).set j bo).map fun b=>AV.arr b 0 w w)) tk:=kG2.out.then fun _=>.put (abM) _
 have b2:(H2.put tb (((B'.set pv.length bj).set j bo).map fun b=>AV.arr b 0 w w)).boxes[h.boxes.length]?=some [.arr tb 0 t.length t.length]:=(av hne1).trans kb2.out
 have b3:(H2.put tb (((B'.set pv.length bj).set j bo).map fun b=>AV.arr b 0 w w)).boxes[hl]?=some [.v (.int .i64 (pv.length:Nat))]:=(av hne2).trans kb3.out
 have hH3l:(H2.put tb (((B'.set pv.length bj).set j bo).map fun b=>AV.arr b 0 w w)).boxes.length=H2.boxes.length:=dU _ _ _
 have hP3:((B'.set pv.length bj).set j bo).Perm B:=by
  have q:=agq (abm.1 hbo).1 (abm.1 hbj).1
  rw[show B'[j]'(abm.1 hbj).1=bj from(abm.1 hbj).2,show B'[pv.length]'(abm.1 hbo).1=bo from(abm.1 hbo).2] at q
  exact q.trans kP.out
 have hB3:((B'.set pv.length bj).set j bo)[pv.length]?=some bj:=by
  rw[aci]
  by_cases q:j=pv.length
  ·rw[if_pos q,if_pos (by rw[aca,kT2.out.len];omega)]
   rw[q,hbo] at hbj
   exact hbj
  ·rw[if_neg q,ad4 (abm.1 hbo).1]
 have ht3:((t'.set pv.length b).set j o)[pv.length]?=some b:=by
  rw[aci]
  by_cases q:j=pv.length
  ·rw[if_pos q,if_pos (by rw[aca];omega)]
   rw[q,ho] at hb
   exact hb
  ·rw[if_neg q,ad4 (by omega)]
 have ht3l:((t'.set pv.length b).set j o).length=t.length:=by rw[aca,aca];exact i2
 have hok3:∀a∈(t'.set pv.length b).set j o,∀x∈a,okF x:=by
  intro a ha
  rcases ach ha with q|q
  ·rcases ach q with q|q
   ·exact kR.out.ok a q
   ·rw[q];exact okb
  ·rw[q];exact kR.out.ok o (abz ho)
 have kok3:=ah.mk (abp hok3 (abp okb ht3l))
 clear hok3 ht3l
 generalize (t'.set pv.length b).set j o=t3 at *
 generalize (B'.set pv.length bj).set j bo=B3 at *
 obtain⟨H3,hH3⟩:∃H3,H2.put tb (B3.map fun b=>AV.arr b 0 w w)=H3:=⟨_,rfl⟩
 rw[hH3] at s2 T3 G3 b2 b3 hH3l
 have kP3:=ah.mk hP3
 clear hH3 hd2 hP3 hgo hfs kz gDj hb ho rS hst
 have l23:=qa b2
 have l33:=ld3 b3
 have hd3:(B3.map fun b=>AV.arr b 0 w w)[pv.length]?=some (.arr bj 0 w w):=by rw[abF,hB3];rfl
 have m13:=oQ T3.hdr hd3
 have hrow3:=T3.row pv.length bj b hB3 ht3
 have m23:=ldc hrow3 (gv (k:=c) (by omega))
 have hfz:fmod (at0 b c)=at0 b c:=ph (gU okb c)
 have ci:=fun h=>JX (at0 b c) h
 rw[hfz] at ci
 simp only[if_neg hzero] at ci
 have kokz:ah (0<=eZ (at0 b c)/\eZ (at0 b c)<=9223372036854775807):=⟨nI (AW _)⟩
 have hH3b:tb<H3.boxes.length:=(abm.1 T3.hdr).1
 have hbjl:bj<H3.boxes.length:=(abm.1 hrow3).1
 have hh3:h.boxes.length<H3.boxes.length:=(abm.1 b2).1
 have hhl3:hl<H3.boxes.length:=(abm.1 b3).1
 generalize hz:at0 b c=z at *
 have kfz:ah (okF (eZ z)):=⟨AW _⟩
 generalize hf:eZ z=fz at *
 have s5:aA Tryz.prog (H3.push [.v (.int .i64 0)]) 3 (.ptr (.box H3.boxes.length) 0) (.v (.int .i64 fz))=some (H3.push [.v (.int .i64 fz)]):=cQ rfl sz3 rfl rfl
 have T4:Tab (H3.push [.v (.int .i64 fz)]) tb B3 t3 w:=T3.mono fun _ _ q=>aj q
 have G4:GM (tb::B) h.tn h (H3.push [.v (.int .i64 fz)]) tk:=G3.then fun _=>fi.refl.push _
 have b24:(H3.push [.v (.int .i64 fz)]).boxes[h.boxes.length]?=some [.arr tb 0 t.length t.length]:=aj b2
 have b34:(H3.push [.v (.int .i64 fz)]).boxes[hl]?=some [.v (.int .i64 (pv.length:Nat))]:=aj b3
 have b44:(H3.push [.v (.int .i64 fz)]).boxes[H3.boxes.length]?=some [.v (.int .i64 fz)]:=ak _ _
 have hH4l:(H3.push [.v (.int .i64 fz)]).boxes.length=H3.boxes.length+1:=az _ _
 have kH3:=ah.mk hH3l
 obtain⟨H4,hH4⟩:∃H4,H3.push [.v (.int .i64 fz)]=H4:=⟨_,rfl⟩
 rw[hH4] at s5 T4 G4 b24 b34 b44 hH4l
 have l24:=qa b24
 have l34:=ld3 b34
 have m14:=oQ T4.hdr hd3
 have af:=Bq bj w c H4
 have kT4:=ah.mk T4
 have kG4:=ah.mk G4
 have kb4:=ah.mk (abp b24 (abp b34 (abp b44 (abp hH4l (abp hB3 ht3)))))
 unfold im at af m2 m23 ci
 clear hH4 T4 G4 b24 b34 b44 hH4l T3 G3 b2 b3 hH3l hrow3 hd3 hB3 ht3 hfz hdj hdo hbo hbj
 repeat' (first|simp(maxSteps:=999999)(disch:=first|exact dZ|fail)only[gW,reduceIte,abn,gBQ,nT, *]|refine dX ?_ ?_<;>(intro _;try omega))
 refine bU [(2,13)] tH kZq (fun p hp=>?_) ?_
 ·simp only[acg] at hp
  subst hp
  refine dH (x:=.ptr (.box h.boxes.length) 0) (v:=.arr tb 0 t.length t.length) kZq rfl rfl rfl kZq (by simp[cB,gB]) ?_ ?_<;>(simp only[abO,abY];exact gz2 @nT @and_self)
 refine gx1 @nT ?_
 refine Run.gen fun e4 he4 hd4 hp4 hr4=>?_
 have f2:e4.get 2=.ptr (.box h.boxes.length) 0:=by rw[he4];simp only[gW,reduceIte,abn,gBQ];exact g2
 have f4:e4.get 4=.list tk s (ints (pvI pv)):=by rw[he4];simp only[gW,reduceIte,abn,gBQ];exact g4
 have f5:e4.get 5=.v (.int .i64 (c:Nat)):=by rw[he4];simp only[gW,reduceIte,abn,gBQ];exact g5
 have f6:e4.get 6=.ptr (.box hl) 0:=by rw[he4];simp only[gW,reduceIte,abn,gBQ];exact g6
 have f8:e4.get 8=.ptr (.box H3.boxes.length) 0:=by rw[he4];exact gS
 have f13:e4.get 13=.v (.int .i64 (many:Nat)):=by rw[he4];simp only[gW,reduceIte,abn,gBQ];exact g13
 have f14:e4.get 14=.v (.int .i64 (c:Nat)):=by rw[he4];simp only[gW,reduceIte,abn,gBQ];exact g14
 have f70:e4.get 70=.func (.func 219) [] [.ptr (.box (H4.boxes.length+1)) 0,.ptr (.box H4.boxes.length) 0]:=by rw[he4];exact gS
 have fd:e4.defers=[]:=by rw[hd4];simp only[gW,reduceIte,abn,gBQ];exact hd
 clear he4 hd4 hp4 hr4 g2 g4 g5 g6 g7 g13 g14 hd
 refine kD (by rw[lv];exact f70) fun rec w1 w2 w3 w4 w5 w6=>?_
 obtain⟨b24,b34,b44,hH4l,hB3,ht3⟩:=kb4.out
 have T5:Tab ((H4.push [.arr bj 0 w w]).push [.v (.int .i64 (c:Nat))]) tb B3 t3 w:=kT4.out.mono fun _ _ q=>aj (aj q)
 have G5:GM (tb::B) h.tn h ((H4.push [.arr bj 0 w w]).push [.v (.int .i64 (c:Nat))]) tk:=kG4.out.then fun _=>(fi.refl.push _).push _
 have b25:((H4.push [.arr bj 0 w w]).push [.v (.int .i64 (c:Nat))]).boxes[h.boxes.length]?=some [.arr tb 0 t.length t.length]:=aj (aj b24)
 have b35:((H4.push [.arr bj 0 w w]).push [.v (.int .i64 (c:Nat))]).boxes[hl]?=some [.v (.int .i64 (pv.length:Nat))]:=aj (aj b34)
 have b45:((H4.push [.arr bj 0 w w]).push [.v (.int .i64 (c:Nat))]).boxes[H3.boxes.length]?=some [.v (.int .i64 fz)]:=aj (aj b44)
 have b55:((H4.push [.arr bj 0 w w]).push [.v (.int .i64 (c:Nat))]).boxes[H4.boxes.length]?=some [.arr bj 0 w w]:=aj (ak _ _)
 have b65:((H4.push [.arr bj 0 w w]).push [.v (.int .i64 (c:Nat))]).boxes[H4.boxes.length+1]?=some [.v (.int .i64 (c:Nat))]:=cD (by rw[az])
 have hH5l:((H4.push [.arr bj 0 w w]).push [.v (.int .i64 (c:Nat))]).boxes.length=H4.boxes.length+2:=by rw[az,az]
 generalize (H4.push [.arr bj 0 w w]).push [.v (.int .i64 (c:Nat))]=H5 at *
 clear l2 l3 l23 l33 m1 m2 m3 m13 m23 ci s1 s2 l2b s5 l24 l34 m14 af kb4 kT4 kG4 kb2 kb3 kT2 kG2 khr
 have hrow:=T5.row pv.length bj b hB3 ht3
 have hbl:=(abm.1 hrow).1
 have hlr:(H5.loop rec).loops[H5.loops.length]?=some rec:=@kC H5 rec
 have I1:∀(k:Nat) (H:ae),H=(H5.loop rec).put bj ((mS (fun i=>cq (at0 b i) fz) b c k).map im)->H.boxes[H4.boxes.length+1]?=some [im (c:Nat)]/\H.boxes[H4.boxes.length]?=some [.arr bj 0 w w]/\(k<w->∃cs,H.boxes[bj]?=some cs/\cs[k]?=some (im (at0 b k))):=by
  rintro k H rfl
  refine⟨?_,?_,fun hk=>⟨_,aS hbl,?_⟩⟩
  ·rw[av (by omega)];exact b65
  ·rw[av (by omega)];exact b55
  ·have:=gv (r:=mS (fun i=>cq (at0 b i) fz) b c k) (k:=k) (by rw[gm];omega)
   rw[rO (by omega),if_neg (by omega)] at this
   exact this
 have I2:∀(k:Nat) (H:ae),c<=k->k<w->H=(H5.loop rec).put bj ((mS (fun i=>cq (at0 b i) fz) b c k).map im)->∃H',W2.round H5.loops.length [im (k:Nat),im (at0 b k)] H=some (.ret (.v (.bool true)),H')/\H'=(H5.loop rec).put bj ((mS (fun i=>cq (at0 b i) fz) b c (k+1)).map im):=by
  rintro k H hk1 hk2 rfl
  refine pC (Post:=fun H=>H=(H5.loop rec).put bj ((mS (fun i=>cq (at0 b i) fz) b c (k+1)).map im)) hlr (by rw[w2];rfl) w5 w6 ?_
  have kq:=GA (f:=fun i=>cq (at0 b i) fz) hk1 (show k<b.length by omega)
  have r1:∀t,(dD H5.loops.length rec [im (k:Nat),im (at0 b k)]).get t=if 72=t then im (at0 b k) else if 71=t then im (k:Nat) else e4.get t:=fun t=>jn w2 w1
  have d1:(dD H5.loops.length rec [im (k:Nat),im (at0 b k)]).defers=[]:=rfl
  obtain⟨K,hK⟩:∃K,((H5.loop rec).put bj ((mS (fun i=>cq (at0 b i) fz) b c k).map im)).busy H5.loops.length rec=K:=⟨_,rfl⟩
  rw[hK]
  have c1:K.boxes[bj]?=some ((mS (fun i=>cq (at0 b i) fz) b c k).map im):=by rw[<-hK];exact aS hbl
  have c2:K.boxes[h.boxes.length]?=some [.arr tb 0 t.length t.length]:=by rw[<-hK];exact(av (by omega)).trans b25
  have c3:K.boxes[hl]?=some [.v (.int .i64 (pv.length:Nat))]:=by rw[<-hK];exact(av (by omega)).trans b35
  have c4:K.boxes[H3.boxes.length]?=some [im fz]:=by rw[<-hK];exact(av (by omega)).trans b45
  have c5:K.boxes[tb]?=some (B3.map fun b=>AV.arr b 0 w w):=by rw[<-hK];exact(av nb2).trans T5.hdr
  have hd3:(B3.map fun b=>AV.arr b 0 w w)[pv.length]?=some (.arr bj 0 w w):=by rw[abF,hB3];rfl
  have m2:=qa c2
  have m3:=ld3 c3
  have m4:=ld3 c4
  have m5:=oQ c5 hd3
  have ixk:=vE (b:=bj) (len:=w) (cap:=w) (k:=.i64) hk2
  have sk:=J3 (r:=mS (fun i=>cq (at0 b i) fz) b c k) (k:=k) (x:=cq (at0 b k) fz) c1 (by rw[gm];omega)
  rw[kq] at sk
  have ok1:=nI (gU okb k)
  have f1:=fun h=>Pa (at0 b k) fz h
  clear hrow b25 b35 b45 b55 b65 T5 G5 c1 c2 c3 c4 c5 kq hd3 I1 okb f70 ixj ixc
  generalize cq (at0 b k) fz=z1 at *
  generalize at0 b k=z2 at *
  unfold im at *
  rw[w3,w4]
  refine gx0 ?_
  refine⟨trivial,trivial,?_⟩
  refine Run.gen fun e2 he2 hd2 hp2 hro2=>?_
  have q2:e2.get 2=.ptr (.box h.boxes.length) 0:=by rw[he2];simp only[gW,reduceIte,abn,gBQ,r1];exact f2
  have q6:e2.get 6=.ptr (.box hl) 0:=by rw[he2];simp only[gW,reduceIte,abn,gBQ,r1];exact f6
  have q8:e2.get 8=.ptr (.box H3.boxes.length) 0:=by rw[he2];simp only[gW,reduceIte,abn,gBQ,r1];exact f8
  have q10:e2.get 10=.v (.int .i64 k):=by rw[he2];simp only[gW,reduceIte,abn,gBQ,r1]
  have q11:e2.get 11=.v (.int .i64 z2):=by rw[he2];simp only[gW,reduceIte,abn,gBQ,r1]
  clear he2 hd2 hp2 hro2 r1 d1
  repeat' (first|simp(maxSteps:=999999)(disch:=first|exact dZ|fail)only[gW,reduceIte,abn,gBQ, *]|(refine dX ?_ ?_<;>(intro _;try omega))|refine bf tH kZq ?_)
  rw[<-hK]
  simp only[ae.put,ae.busy,ae.loop,aeD]
  exact⟨trivial,trivial,trivial⟩
 obtain⟨h',c1,c2⟩:=vG H5.loops.length (H4.boxes.length+1) H4.boxes.length bj w c b (fun k H=>H=(H5.loop rec).put bj ((mS (fun i=>cq (at0 b i) fz) b c k).map im)) I1 I2 (by omega) hw ((H5.loop rec).put bj ((mS (fun i=>cq (at0 b i) fz) b c c).map im)) rfl
 have e3:H5.loop rec=(H5.loop rec).put bj ((mS (fun i=>cq (at0 b i) fz) b c c).map im):=by
  rw[Gz];exact(ec (h:=H5.loop rec) hrow).symm
 rw[<-e3] at c1
 have e4':mS (fun i=>cq (at0 b i) fz) b c w=da c b fz:=by rw[<-wb];exact DC (by omega)
 rw[e4'] at c2
 subst c2
 clear e3 I1 I2 e4'
 refine⟨_,_,c1,rec,hlr,by rw[w5];decide,.inl ⟨w6,?_⟩⟩
 clear c1
 have hLh:h.loops.length<=H5.loops.length:=by
  have:=G5.mu.loop
  rcases abL H5.loops.length h.loops.length with q|q
  ·have:=(abm.1 (this _ _ (abo q))).1
   omega
  ·exact q
 have okt:=kok3.out
 have hbB:bj∈B:=kP3.out.mem_iff.1 (abz hB3)
 have T6:Tab (((H5.loop rec).put bj ((da c b fz).map im)).bh H5.loops.length {rec with state:=.exhausted}) tb B3 (t3.set pv.length (da c b fz)) w:=by
  have q:=Tab.set (H:=H5.loop rec) (T5.mono fun _ _ q=>q) hB3 (r:=da c b fz) (by rw[vH (by omega)];exact wb)
  exact q.mono fun _ _ q=>q
 have G6:GM (tb::B) h.tn h (((H5.loop rec).put bj ((da c b fz).map im)).bh H5.loops.length {rec with state:=.exhausted}) tk:=⟨((G5.mu.lD rec).trans (.put (abH _ hbB) _)).bh hLh _,G5.can,G5.ok⟩
 have b26:(((H5.loop rec).put bj ((da c b fz).map im)).bh H5.loops.length {rec with state:=.exhausted}).boxes[h.boxes.length]?=some [.arr tb 0 t.length t.length]:=(av (by omega)).trans b25
 have b36:(((H5.loop rec).put bj ((da c b fz).map im)).bh H5.loops.length {rec with state:=.exhausted}).boxes[hl]?=some [.v (.int .i64 (pv.length:Nat))]:=(av (by omega)).trans b35
 have hq0:(t3.set pv.length (da c b fz))[pv.length]?=some (da c b fz):=ad4 (abm.1 ht3).1
 have ok4:∀a∈t3.set pv.length (da c b fz),∀x∈a,okF x:=by
  intro a ha
  rcases ach ha with q|q
  ·exact okt.1 a q
  ·rw[q];exact DJ okb
 have hl4:(t3.set pv.length (da c b fz)).length=t.length:=by rw[aca];exact okt.2.2
 have hgo:=kgo.out
 rw[i2] at hgo
 have T7:Tab (((H5.loop rec).put bj ((da c b fz).map im)).bh H5.loops.length {rec with state:=.exhausted}) tb B3 (pP c (da c b fz) pv.length 0 (t3.set pv.length (da c b fz))) w:=by rw[GB];exact T6
 have hso:(da c b fz).length=w:=by rw[vH (by omega)];exact wb
 generalize (((H5.loop rec).put bj ((da c b fz).map im)).bh H5.loops.length {rec with state:=.exhausted})=H6 at *
 clear T6 hlr hrow b25 b35 b45 b55 b65 T5 G5 hH5l hbl w1 w2 w3 w4 w5 w6 hLh hB3 ht3 okt f70 f8 hH4l ixj ixr ixc
 have l26:=qa b26
 have l36:=ld3 b36
 generalize da c b fz=own at *
 generalize t3.set pv.length own=t4 at *
 have k7:=ah.mk (abp T7 (abp G6 (abp b26 b36)))
 have kok4:=ah.mk (abp ok4 (abp hq0 (abp hl4 hgo)))
 clear T7 G6 b26 b36 ok4 hq0 hgo okb kok3 hl4
 refine gx1 @nT ?_
 refine Run.gen fun e5 he5 hd5 hp5 hr5=>?_
 have r2:e5.get 2=.ptr (.box h.boxes.length) 0:=by rw[he5];simp only[gW,reduceIte,abn,gBQ];exact f2
 have r4:e5.get 4=.list tk s (ints (pvI pv)):=by rw[he5];simp only[gW,reduceIte,abn,gBQ];exact f4
 have r5:e5.get 5=.v (.int .i64 (c:Nat)):=by rw[he5];simp only[gW,reduceIte,abn,gBQ];exact f5
 have r6:e5.get 6=.ptr (.box hl) 0:=by rw[he5];simp only[gW,reduceIte,abn,gBQ];exact f6
 have r13:e5.get 13=.v (.int .i64 (many:Nat)):=by rw[he5];simp only[gW,reduceIte,abn,gBQ];exact f13
 have r14:e5.get 14=.v (.int .i64 (c:Nat)):=by rw[he5];simp only[gW,reduceIte,abn,gBQ];exact f14
 have r83:e5.get 83=.v (.int .i64 (t.length:Nat)):=by rw[he5];exact gS
 have r84:e5.get 84=.v (.int .i64 (0:Nat)):=by rw[he5];exact gR
 have rd:e5.defers=[]:=by rw[hd5];simp only[gW,reduceIte,abn,gBQ];exact fd
 clear he5 hd5 hp5 hr5 f2 f4 f5 f6 f13 f14 fd l26 l36
 refine aD (fun m e H=>∃i:Nat,i<=t.length/\m=t.length - i/\ah (Tab H tb B3 (pP c own pv.length i t4) w)/\ah (GM (tb::B) h.tn h H tk)/\ah (H.boxes[h.boxes.length]?=some [.arr tb 0 t.length t.length])/\ah (H.boxes[hl]?=some [.v (.int .i64 (pv.length:Nat))])/\e.get 2=.ptr (.box h.boxes.length) 0/\e.get 4=.list tk s (ints (pvI pv))/\e.get 5=.v (.int .i64 (c:Nat))/\e.get 6=.ptr (.box hl) 0/\e.get 13=.v (.int .i64 (many:Nat))/\e.get 14=.v (.int .i64 (c:Nat))/\e.get 83=.v (.int .i64 (t.length:Nat))/\e.get 84=.v (.int .i64 (i:Nat))/\e.defers=[]) ?_ t.length _ _ ?_
 rotate_left 1
 ·exact⟨0,abG _,rfl,⟨k7.out.1⟩,⟨k7.out.2.1⟩,⟨k7.out.2.2.1⟩,⟨k7.out.2.2.2⟩,r2,r4,r5,r6,r13,r14,r83,r84,rd⟩
 clear r2 r4 r5 r6 r13 r14 r83 r84 rd k7
 rintro m e6 K ⟨i,hi,rfl,kT7,kG7,kb7,kc7,g2,g4,g5,g6,g13,g14,g83,g84,hd⟩
 have l27:=qa kb7.out
 have l37:=ld3 kc7.out
 by_cases hit:i<t.length
 rotate_left 1
 ·have hie:i=t.length:=by omega
  subst hie
  have bl:=pQ (c:Int)
  have ap:=wI (x:=(c:Int)) (show(pvI pv).length<1099511627776 by unfold pvI;rw[abu];omega) hs kG7.out.can
  repeat' (first|simp(maxSteps:=999999)(disch:=first|exact dZ|fail)only[gW,reduceIte,abn,gBQ,nT, *]|refine dX ?_ ?_<;>(intro _;try omega))
  refine⟨many - (c+1),by omega,c+1,B3,.free K.tn,1,by omega,rfl,?_⟩
  rw[kok4.out.2.2.2]
  have hl4:=kok4.out.2.2.1
  rw[<-hl4] at kT7
  have ee:pvI (pv++[c])=pvI pv++[(c:Int)]:=by unfold pvI;simp
  dsimp only
  rw[ee]
  exact⟨by rw[<-hl4];exact kT7.out.mono fun _ _ q=>by rw[aT];exact q,kP3.out,by rw[aT];exact kb7.out,trivial,rfl,.inl rfl,trivial,by simp,trivial,kG7.out.app (abq _)⟩
 have hB3l:B3.length=t.length:=by rw[kT7.out.len,Bk];exact kok4.out.2.2.1
 by_cases hip:i=pv.length
 ·subst hip
  have T8:=kT7.out
  rw[<-GC] at T8
  have kT8:=ah.mk T8
  clear T8
  repeat' (first|simp(maxSteps:=999999)(disch:=first|exact dZ|fail)only[gW,reduceIte,abn,gBQ,nT, *]|refine dX ?_ ?_<;>(intro _;try omega))
  exact⟨t.length - (pv.length+1),by omega,pv.length+1,by omega,rfl,kT8,trivial,trivial,trivial,trivial,trivial,trivial,trivial,trivial,trivial,trivial,by simp,trivial⟩
 ·obtain⟨a,ha⟩:∃a,t4[i]?=some a:=⟨_,abo (by rw[kok4.out.2.2.1];exact hit)⟩
  obtain⟨K2,c1,c2,c3⟩:=J4 K tb B3 (pP c own pv.length i t4) w i pv.length c a own kT7.out (GD.trans ha) (Jz.trans kok4.out.2.1) hip (by omega) hw (J6 kok4.out.1)
  rw[GF ha hip] at c2
  rw[hB3l] at c1
  have cM:∀n0,fi (tb::B) n0 K K2:=fun n0=>(c3 n0).mono fun b hb=>abH _ (kP3.out.mem_iff.1 hb)
  have hbB:∀b∈B3,b<h.boxes.length:=fun b hb=>kBl.out b (kP3.out.mem_iff.1 hb)
  have kb8:=ah.mk ((c3 0).box _ _ (fun q=>absurd (hbB _ q) (by omega)) kb7.out)
  have kc8:=ah.mk ((c3 0).box _ _ (fun q=>absurd (hbB _ q) (by omega)) kc7.out)
  have kG8:=ah.mk (kG7.out.then cM)
  have kT8:=ah.mk c2
  have hipI:¬((i:Int)=(pv.length:Int)):=by omega
  clear c2 c3 cM hbB ha hB3l kT7 kG7 kb7 kc7
  unfold im at c1
  repeat' (first|simp(maxSteps:=999999)(disch:=first|exact dZ|fail)only[gW,reduceIte,abn,gBQ,nT, *]|refine dX ?_ ?_<;>(intro _;try omega))
  exact⟨t.length - (i+1),by omega,i+1,by omega,rfl,kT8,trivial,trivial,trivial,trivial,trivial,trivial,trivial,trivial,trivial,trivial,by simp,trivial⟩
def IL(x:AV)(l:List Int):Prop:=∃k s,x=.list k s (ints l)/\(l≠[]->s=1)
def RL(x:AV)(rows:List (List Int)):Prop:=∃(k:Tok) (s:Nat) (xs:List AV),x=.list k s (xs.map fun a=>[a])/\(rows≠[]->s=1)/\xs.length=rows.length/\∀(i:Nat) (a:AV) (r:List Int),xs[i]?=some a->rows[i]?=some r->IL a r
theorem Pd{l:List Int}{i:Nat}(h:i<l.length):(ints l)[i]?=some [.v (.int .i64 (at0 l i))]:=by
 unfold ints nC
 rw[abF,abo h,bN h];rfl
theorem ldi{H:ae}{l:List Int}{i s:Nat}(h:i<l.length):ai Tryz.prog Gt H 3 (.elem s (ints l) i 0)=some (.v (.int .i64 (at0 l i))):=by
 rw[ez ag3 (Pd h)];rfl
theorem ldr{H:ae}{xs:List AV}{i s:Nat}{x:AV}(h:xs[i]?=some x):ai Tryz.prog Gt H 23 (.elem s (xs.map fun a=>[a]) i 0)=some x:=by
 rw[ez mo (row:=[x]) (by rw[abF,h];rfl)];rfl
theorem xJ:Tryz.f179.results.toList=[.tmp 4]:=kZq
theorem Rl:Tryz.f199.results.toList=[]:=kZq
def wJ(w:Nat)(B:List Nat):List AV:=B.map fun b=>AV.arr b 0 w w
def J7(H:ae)(B:List Nat)(tb base:Nat)(cur:AV)(l:List Int):Prop:=(l=[]/\cur=.list .nil 0 [])∨(l≠[]/\∃b,cur=.arr b 0 l.length l.length/\H.boxes[b]?=some (l.map im)/\b∉B/\b≠tb/\base<=b)
theorem Pe{h0 H:ae}{B:List Nat}{tb:Nat}{cur:AV}{l:List Int}(hc:J7 H B tb h0.boxes.length cur l)(hx:Ext h0 H)(hb:h0.boxes.length<=tb)(x:Int)(hl:l.length<1000000)(hB:∀b∈B,b<H.boxes.length)(htb:tb<H.boxes.length):
 ∃H2,iX Tryz.prog H #[23,23] cur (.list .tight 1 [[.v (.int .i64 x)]])=some (.arr H.boxes.length 0 (l.length+1) (l.length+1),H2)/\J7 H2 B tb h0.boxes.length (.arr H.boxes.length 0 (l.length+1) (l.length+1)) (l++[x])/\Ext h0 H2/\H2.loops=H.loops/\H2.boxes.length=H.boxes.length+1/\∀c cs,(c∈B∨c=tb)->H.boxes[c]?=some cs->H2.boxes[c]?=some cs:=by
 obtain⟨i,q1,q2,q3,q4⟩:=in3
 have hbb:=acP (show l.length+1<=1000000 by omega) q3
 have hlen:=hx.len
 rcases hc with⟨rfl,rfl⟩|⟨hne,b,rfl,h1,h2,h3,h4⟩
 ·have:=xe (h:=H) (k:=.nil) (sz:=0) (es:=[]) (new:=[[.v (.int .i64 x)]]) (x:=.list .tight 1 [[.v (.int .i64 x)]]) Tryz.underlying23 Tryz.underlying23 q1 (by omega) (by rw[q2];exact q4) (by simp) (by simp;omega) (by simp) (.inr rfl) (.inl rfl) (by rw[q2];rfl)
  refine⟨_,this,.inr ⟨by simp,H.boxes.length,rfl,ak _ _,fun q=>absurd (hB _ q) (afD _),by omega,hlen⟩,hx.trans (.push _ _),rfl,az _ _,fun c cs _ q=>aj q⟩
 ·have hlt:=(abm.1 h1).1
  have hpos:0<l.length:=List.length_pos_iff.2 hne
  have:=xg (h:=H) (b:=b) (len:=l.length) (cs:=l.map im) (new:=[[.v (.int .i64 x)]]) (x:=.list .tight 1 [[.v (.int .i64 x)]]) Tryz.underlying23 Tryz.underlying23 q1 (by omega) (by rw[q2];exact q4) (by simp) (by simp;omega) (by simp;omega) h1 hpos (by rw[q2,abu];omega) (by rw[q2];rfl)
  refine⟨_,this,.inr ⟨by simp,H.boxes.length,by simp,?_,fun q=>absurd (hB _ q) (afD _),by omega,hlen⟩,(hx.bZ h4 _).trans (.push _ _),rfl,by rw[az,dU],fun c cs hc q=>aj ((av ?_).trans q)⟩
  ·rw[acv]
   exact cD (by rw[dU])
  ·rcases hc with hc|hc
   ·rintro rfl;exact h2 hc
   ·rintro rfl;exact h3 hc
structure zB(H:ae)(tb base w m:Nat)(B:List Nat)(t:List (List Int))(cur:AV)(l:List Int):Prop where
 hdr:H.boxes[tb]?=some (wJ w B++cur::abt (m - B.length - 1) (.list .nil 0 []))
 lt:B.length<m
 len:B.length=t.length
 nd:B.Nodup
 row:∀(i b:Nat) (r:List Int),B[i]?=some b->t[i]?=some r->H.boxes[b]?=some (r.map im)
 wid:∀r∈t,r.length=w
 out:tb∉B
 low:∀b∈B,base<=b
 cur:J7 H B tb base cur l
theorem EE{P:Program}{h:ae}{t elem:TypeId}{i:TypeInfo}{zero:List AV}{n:Nat}{k k':IntKind}(hu:P.underlying t=some (.slice elem))(hi:P.info? elem=some i)(hz:(ej P elem).bind AV.aC=some zero)(h1:zero.length=i.size)(h2:0<i.size)(h3:i.bytes * n<=281474976710656)(h4:n<9223372036854775808):
 eU P h t (.v (.int k (n:Nat))) (.v (.int k' (n:Nat)))=some (.arr h.boxes.length 0 n n,h.push (abt n zero).flatten):=by
 unfold eU
 have h5:(i.bytes:Int) * (n:Nat)<=281474976710656:=by
  rw[<-Int.natCast_mul];omega
 simp only[hu,hi,hz]
 rw[if_pos ⟨by omega,afy _,by omega,h5,h2,h1⟩]
 simp[ae.push]
theorem Rm:∃i,Tryz.prog.info? 23=some i/\i.size=1/\i.bytes<=24/\(i.zero.map fun z=>z.cells.size)=some 1:=by
 have h:(match Tryz.prog.info? 23 with|some i=>Nat.beq i.size 1&&Nat.ble i.bytes 24&&decide ((i.zero.map fun z=>z.cells.size)=some 1)|none=>false)=true:=kZq
 cases hi:Tryz.prog.info? 23 with
 |none=>rw[hi] at h;cases h
 |some i=>
  rw[hi] at h
  simp only[abr,decide_eq_true_eq] at h
  exact⟨i,rfl,Nat.eq_of_beq_eq_true h.1.1,Nat.le_of_ble_eq_true h.1.2,h.2⟩
theorem Rn(h:ae)(n:Nat)(hn:n<=1000000)(k k':IntKind):eU Tryz.prog h 203 (.v (.int k (n:Nat))) (.v (.int k' (n:Nat)))=some (.arr h.boxes.length 0 n n,h.push (abt n (.list .nil 0 []))):=by
 obtain⟨i,q1,q2,q3,q4⟩:=Rm
 have hb:=acP q3 hn
 have:=EE (h:=h) (n:=n) (k:=k) (k':=k') (zero:=[.list .nil 0 []]) Tryz.underlying203 q1 kZq (by rw[q2];rfl) (by omega) (by omega) (by omega)
 rw[this]
 simp
theorem Pf(h:ae)(n:Nat)(hn:n<=1000000)(k k':IntKind):eU Tryz.prog h 23 (.v (.int k (n:Nat))) (.v (.int k' (n:Nat)))=some (.arr h.boxes.length 0 n n,h.push (abt n (im 0))):=by
 obtain⟨i,q1,q2,q3,q4⟩:=in3
 have hb:=acP q3 hn
 have:=EE (h:=h) (n:=n) (k:=k) (k':=k') (zero:=[im 0]) Tryz.underlying23 q1 zc3 (by rw[q2];rfl) (by omega) (by omega) (by omega)
 rw[this]
 simp
structure Mid(H:ae)(tb base w m:Nat)(B:List Nat)(t:List (List Int)):Prop where
 hdr:H.boxes[tb]?=some (wJ w B++abt (m - B.length) (.list .nil 0 []))
 len:B.length=t.length
 nd:B.Nodup
 row:∀(i b:Nat) (r:List Int),B[i]?=some b->t[i]?=some r->H.boxes[b]?=some (r.map im)
 wid:∀r∈t,r.length=w
 out:tb∉B
 low:∀b∈B,base<=b
theorem Mid.half{H:ae}{tb base w m:Nat}{B:List Nat}{t:List (List Int)}(M:Mid H tb base w m B t)(hm:B.length<m):zB H tb base w m B t (.list .nil 0 []) []:=by
 refine⟨?_,hm,M.len,M.nd,M.row,M.wid,M.out,M.low,.inl ⟨rfl,rfl⟩⟩
 rw[M.hdr,show m - B.length=m - B.length - 1+1 by omega,adl]
 rfl
theorem Mid.tab{H:ae}{tb base w m:Nat}{B:List Nat}{t:List (List Int)}(M:Mid H tb base w m B t)(hm:B.length=m):Tab H tb B t w:=by
 refine⟨?_,M.len,M.nd,M.row,M.wid,M.out⟩
 rw[M.hdr,hm,adx,List.replicate_zero,ab2]
 rfl
theorem oR(w:Nat)(B:List Nat):(wJ w B).length=B.length:=by unfold wJ;simp
theorem J8(w:Nat)(B:List Nat)(c:AV)(r:List AV):(wJ w B++c::r)[B.length]?=some c:=by
 rw[List.getElem?_append_right (by rw[oR];exact abq _),oR,adx];rfl
theorem J9(w:Nat)(B:List Nat)(c d:AV)(r:List AV):(wJ w B++c::r).set B.length d=wJ w B++d::r:=by
 rw[List.set_append_right _ _ (by rw[oR];exact abq _),oR,adx];rfl
theorem Ro{H:ae}{b k x n:Nat}{cs:List AV}(hb:H.boxes[b]?=some cs)(hk:k<cs.length):aA Tryz.prog H 23 (.ptr (.box b) k) (.arr x 0 n n)=some (H.put b (cs.set k (.arr x 0 n n))):=by
 rw[aW (xs:=[AV.arr x 0 n n]) rfl jC hb rfl hk]
 congr 2
 unfold bI
 rw[acy,if_pos hk]
 simp
theorem zB.lts{H:ae}{tb base w m:Nat}{B:List Nat}{t:List (List Int)}{cur:AV}{l:List Int}(F:zB H tb base w m B t cur l):∀b∈B,b<H.boxes.length:=by
 intro b hb
 obtain⟨i,hi⟩:=acC hb
 have hil:=(abm.1 hi).1
 exact(abm.1 (F.row i b _ hi (abo (by rw[<-F.len];exact hil)))).1
theorem zB.more{h0 H:ae}{tb w m:Nat}{B:List Nat}{t:List (List Int)}{cur:AV}{l:List Int}(F:zB H tb h0.boxes.length w m B t cur l)(hx:Ext h0 H)(hb:h0.boxes.length<=tb)(x:Int)(hl:l.length<1000000):
 ∃H2 H3 cur',iX Tryz.prog H #[23,23] cur (.list .tight 1 [[.v (.int .i64 x)]])=some (cur',H2)/\aA Tryz.prog H2 23 (.ptr (.box tb) B.length) cur'=some H3/\zB H3 tb h0.boxes.length w m B t cur' (l++[x])/\Ext h0 H3/\H3.loops=H.loops:=by
 have htb:=(abm.1 F.hdr).1
 obtain⟨H2,c1,c2,c3,c4,c5,c6⟩:=Pe F.cur hx hb x hl F.lts htb
 have hd:=c6 tb _ (.inr rfl) F.hdr
 have s1:=Ro (x:=H.boxes.length) (n:=l.length+1) (k:=B.length) hd (by simp[oR])
 rw[J9] at s1
 refine⟨H2,_,_,c1,s1,⟨aS (abm.1 hd).1,F.lt,F.len,F.nd,fun i b r hi hr=>?_,F.wid,F.out,F.low,?_⟩,c3.bZ hb _,c4⟩
 ·have hbm:=abz hi
  rw[av (fun e=>F.out (by rw[<-e];exact hbm))]
  exact c6 b _ (.inl hbm) (F.row i b r hi hr)
 ·rcases c2 with⟨q,-⟩|⟨q,b,q1,q2,q3,q4,q5⟩
  ·simp at q
  ·exact .inr ⟨q,b,q1,by rw[av q4];exact q2,q3,q4,q5⟩
theorem zB.mid{H:ae}{tb base w m:Nat}{B:List Nat}{t:List (List Int)}{cur:AV}{l:List Int}(F:zB H tb base w m B t cur l)(hl:l.length=w)(hw:0<w):∃b,Mid H tb base w m (B++[b]) (t++[l]):=by
 rcases F.cur with⟨rfl,-⟩|⟨q,b,q1,q2,q3,q4,q5⟩
 ·simp at hl;omega
 ·refine⟨b,?_,by simp[F.len],?_,fun i c r hi hr=>?_,fun r hr=>?_,?_,fun c hc=>?_⟩
  ·rw[F.hdr,q1,hl]
   unfold wJ
   rw[acv,abx,List.append_assoc]
   rfl
  ·rw[List.nodup_append]
   refine⟨F.nd,by simp,fun x hx y hy=>?_⟩
   rw[acg] at hy
   subst hy
   rintro rfl
   exact q3 hx
  ·rcases abL i B.length with hlt|hge
   ·rw[ab5 hlt] at hi
    rw[ab5 (by rw[<-F.len];exact hlt)] at hr
    exact F.row i c r hi hr
   ·have:=(abm.1 hi).1
    rw[abx] at this
    have hiB:i=B.length:=by simp at this;omega
    subst hiB
    rw[adg] at hi
    rw[F.len,adg] at hr
    injection hi with hi;injection hr with hr
    subst hi;subst hr
    exact q2
  ·rcases acX.1 hr with z|z
   ·exact F.wid r z
   ·rw[acg] at z;rw[z];exact hl
  ·intro z
   rcases acX.1 z with z|z
   ·exact F.out z
   ·rw[acg] at z;exact q4 z.symm
  ·rcases acX.1 hc with z|z
   ·exact F.low c z
   ·rw[acg] at z;rw[z];exact q5
theorem G7(h:ae)(x y:AV)(rows:List (List Int))(target:List Int)(hx:RL x rows)(hy:IL y target)(hr:rows.length<=1000)(ht:target.length<=1000)(hw:∀r∈rows,r.length=target.length):
 ∃r h',W2.call 179 [x,y] h=some (r,h')/\∃tb B,r=.ret (.arr tb 0 target.length target.length)/\Tab h' tb B (cO rows target) (rows.length+1)/\Ext h h'/\h.boxes.length<=tb/\∀b∈B,h.boxes.length<=b:=by
 obtain⟨kx0,sx,xs,rfl,hsx,hxl,hxr⟩:=hx
 obtain⟨ky,sy,rfl,hsy⟩:=hy
 have kx:=ah.mk (abp hsx (abp hxr (abp hsy hw)))
 clear hsx hxr hsy hw
 have mk:=Rn h target.length (by omega) .i64 .i64
 have u23:=Tryz.underlying23
 have u22:=Tryz.underlying22
 have u203:=Tryz.underlying203
 have z23:=jC
 have z3:=sz3
 have hil:=aU target
 have hxl2:(xs.map fun a=>[a]).length=rows.length:=by rw[abu];exact hxl
 refine aL rfl Tryz.func179 rfl ?_
 refine gx1 @xJ ?_
 refine Run.gen fun e0 he0 hd0 hp0 hr0=>?_
 have f0:e0.get 0=.list kx0 sx (xs.map fun a=>[a]):=by rw[he0];exact gS
 have f5:e0.get 5=.arr h.boxes.length 0 target.length target.length:=by rw[he0];exact gS
 have f13:e0.get 13=.list ky sy (ints target):=by rw[he0];exact gS
 have f14:e0.get 14=.v (.int .i64 (target.length:Nat)):=by rw[he0];exact gS
 have f15:e0.get 15=.v (.int .i64 (0:Nat)):=by rw[he0];exact gR
 have fd:e0.defers=[]:=by rw[hd0];exact gS
 clear he0 hd0 hp0 hr0 mk
 have tl:=vt rows target
 have M0:Mid (h.push (abt target.length (.list .nil 0 []))) h.boxes.length h.boxes.length (rows.length+1) target.length [] ((cO rows target).take 0):=by
  refine⟨by rw[ak];simp[wJ],rfl,.nil,fun i b r hi=>by simp at hi,fun r hr=>by simp at hr,by simp,fun b hb=>by simp at hb⟩
 refine aD (fun m e H=>∃(k:Nat) (B:List Nat),k<=target.length/\m=target.length - k/\B.length=k/\ah (Mid H h.boxes.length h.boxes.length (rows.length+1) target.length B ((cO rows target).take k))/\ah (Ext h H)/\e.get 0=.list kx0 sx (xs.map fun a=>[a])/\e.get 5=.arr h.boxes.length 0 target.length target.length/\e.get 13=.list ky sy (ints target)/\e.get 14=.v (.int .i64 (target.length:Nat))/\e.get 15=.v (.int .i64 (k:Nat))/\e.defers=[]) ?_ target.length _ _ ?_
 rotate_left 1
 ·exact⟨0,[],abG _,rfl,rfl,⟨M0⟩,⟨.push _ _⟩,f0,f5,f13,f14,f15,fd⟩
 clear M0 f0 f5 f13 f14 f15 fd
 rintro m e H ⟨k,B,hk,rfl,hBk,kM,kX,g0,g5,g13,g14,g15,hd⟩
 by_cases hkm:k<target.length
 rotate_left 1
 ·have:k=target.length:=by omega
  subst this
  have T:=kM.out.tab hBk
  rw[abD (by omega)] at T
  have kT:=ah.mk T
  clear T
  repeat' (first|simp(maxSteps:=999999)(disch:=first|exact dZ|fail)only[gW,reduceIte,abn,gBQ,xJ, *]|refine dX ?_ ?_<;>(intro _;try omega))
  exact⟨_,_,rfl,_,B,rfl,kT.out,kX.out,abq _,kM.out.low⟩
 have hs1:sy=1:=kx.out.2.2.1 (by intro q;rw[q] at hkm;simp at hkm)
 subst hs1
 have l0:=ldi (H:=H) (s:=1) hkm
 have F0:=kM.out.half (by omega)
 have kF0:=ah.mk F0
 have hkI:(k:Int)<(target.length:Int):=by omega
 clear F0
 refine gx2 @xJ @al ?_
 refine Run.gen fun e0 he0 hd0 hp0 hr0=>?_
 have f0:e0.get 0=.list kx0 sx (xs.map fun a=>[a]):=by rw[he0];simp only[gW,reduceIte,abn,gBQ];exact g0
 have f5:e0.get 5=.arr h.boxes.length 0 target.length target.length:=by rw[he0];simp only[gW,reduceIte,abn,gBQ];exact g5
 have f6:e0.get 6=.v (.int .i64 (k:Nat)):=by rw[he0];exact gS
 have f7:e0.get 7=.v (.int .i64 (at0 target k)):=by rw[he0];exact gS
 have f13:e0.get 13=.list ky 1 (ints target):=by rw[he0];simp only[gW,reduceIte,abn,gBQ];exact g13
 have f14:e0.get 14=.v (.int .i64 (target.length:Nat)):=by rw[he0];simp only[gW,reduceIte,abn,gBQ];exact g14
 have f15:e0.get 15=.v (.int .i64 (k:Nat)):=by rw[he0];simp only[gW,reduceIte,abn,gBQ];exact g15
 have f20:e0.get 20=.list kx0 sx (xs.map fun a=>[a]):=by rw[he0];exact gS
 have f21:e0.get 21=.v (.int .i64 (rows.length:Nat)):=by rw[he0];exact gS
 have f22:e0.get 22=.v (.int .i64 (0:Nat)):=by rw[he0];exact gR
 have fd:e0.defers=[]:=by rw[hd0];simp only[gW,reduceIte,abn,gBQ];exact hd
 clear he0 hd0 hp0 hr0 g0 g5 g13 g14 g15 hd l0
 refine aD (fun m e H=>∃(i:Nat) (cur:AV),i<=rows.length/\m=rows.length - i/\ah (zB H h.boxes.length h.boxes.length (rows.length+1) target.length B ((cO rows target).take k) cur ((rows.take i).map fun r=>at0 r k))/\ah (Ext h H)/\e.get 0=.list kx0 sx (xs.map fun a=>[a])/\e.get 5=.arr h.boxes.length 0 target.length target.length/\e.get 6=.v (.int .i64 (k:Nat))/\e.get 7=.v (.int .i64 (at0 target k))/\e.get 13=.list ky 1 (ints target)/\e.get 14=.v (.int .i64 (target.length:Nat))/\e.get 15=.v (.int .i64 (k:Nat))/\e.get 20=.list kx0 sx (xs.map fun a=>[a])/\e.get 21=.v (.int .i64 (rows.length:Nat))/\e.get 22=.v (.int .i64 (i:Nat))/\e.defers=[]) ?_ rows.length _ _ ?_
 rotate_left 1
 ·exact⟨0,_,abG _,rfl,kF0,kX,f0,f5,f6,f7,f13,f14,f15,f20,f21,f22,fd⟩
 clear f0 f5 f6 f7 f13 f14 f15 f20 f21 f22 fd kF0 kM kX
 rintro m e2 H2 ⟨i,cur,hi,rfl,kF,kX,g0,g5,g6,g7,g13,g14,g15,g20,g21,g22,hd⟩
 have lc:((rows.take i).map fun r=>at0 r k).length=i:=by rw[abu,abI];omega
 have hcell:(wJ (rows.length+1) B++cur::abt (target.length - B.length - 1) (.list .nil 0 []))[k]?=some cur:=by rw[<-hBk];exact J8 _ _ _ _
 have m1:=oQ kF.out.hdr hcell
 have ixk:=xH (b:=h.boxes.length) (len:=target.length) (cap:=target.length) (k:=.i64) hkm
 clear hcell
 by_cases hin:i<rows.length
 ·obtain⟨a,ha⟩:∃a,xs[i]?=some a:=⟨_,abo (by omega)⟩
  obtain⟨r,hr⟩:∃r,rows[i]?=some r:=⟨_,abo hin⟩
  have hsx:sx=1:=kx.out.1 (by intro q;rw[q] at hin;simp at hin)
  subst hsx
  obtain⟨ka,sa,rfl,hsa⟩:=kx.out.2.1 i a r ha hr
  have hrl:=kx.out.2.2.2 r (abz hr)
  have hsa1:sa=1:=hsa (by intro q;rw[q] at hrl;simp at hrl;omega)
  subst hsa1
  have l1:=ldr (H:=H2) (s:=1) ha
  have l2:=ldi (H:=H2) (l:=r) (i:=k) (s:=1) (by omega)
  have hrl2:(ints r).length=target.length:=by rw[aU];exact hrl
  obtain⟨H3,H4,cur',c1,c2,c3,c4,-⟩:=kF.out.more kX.out (abq _) (at0 r k) (by rw[lc];omega)
  have hstep:((rows.take i).map fun r=>at0 r k)++[at0 r k]=(rows.take (i+1)).map fun r=>at0 r k:=by rw[a9 hr,acv];rfl
  rw[hstep] at c3
  rw[hBk] at c2
  have bl:=pQ (at0 r k)
  have kF2:=ah.mk c3
  have kX2:=ah.mk c4
  have hinI:(i:Int)<(rows.length:Int):=by omega
  clear c3 c4 hstep ha hr hsa lc hBk tl hrl
  refine gx2 @xJ @al ?_
  repeat' (first|simp(maxSteps:=999999)(disch:=first|exact dZ|fail)only[gW,reduceIte,abn,gBQ,xJ,al, *]|(refine dX ?_ ?_<;>(intro _;try omega))|refine bf tH kZq ?_)
  exact⟨rows.length - (i+1),by omega,i+1,cur',by omega,rfl,kF2,by simp⟩
 ·have hie:i=rows.length:=by omega
  subst hie
  obtain⟨H3,H4,cur',c1,c2,c3,c4,-⟩:=kF.out.more kX.out (abq _) (at0 target k) (by rw[lc];omega)
  rw[abU] at c3
  have hrow:(rows.map fun r=>at0 r k)++[at0 target k]=((cO rows target)[k]'(by omega)):=by
   unfold cO;rw[acA,adf]
  rw[hrow] at c3
  obtain⟨b,M2⟩:=c3.mid (by rw[<-hrow];simp) (by omega)
  rw[<-a9 (abo (show k<(cO rows target).length by omega))] at M2
  have kM2:=ah.mk M2
  have kX2:=ah.mk c4
  have hBl:(B++[b]).length=k+1:=by rw[abx,hBk];rfl
  rw[hBk] at c2
  have bl:=pQ (at0 target k)
  clear c3 c4 M2 hrow lc hBk tl
  repeat' (first|simp(maxSteps:=999999)(disch:=first|exact dZ|fail)only[gW,reduceIte,abn,gBQ,xJ, *]|refine dX ?_ ?_<;>(intro _;try omega))
  exact⟨target.length - (k+1),by omega,k+1,B++[b],by omega,rfl,hBl,kM2,by simp⟩
theorem NI:Tryz.f126.results.toList=[.tmp 4]:=kZq
theorem tI:Tryz.f167.results.toList=[.tmp 4]:=kZq
theorem Rp:Tryz.f152.results.toList=[.tmp 4]:=kZq
theorem EF:Tryz.f185.results.toList=[.tmp 4]:=kZq
theorem NJ:Tryz.f218.results.toList=[.tmp 2]:=kZq
theorem Bs:Tryz.f200.results.toList=[]:=kZq
theorem NK:Tryz.f178.results.toList=[]:=kZq
theorem Ka(g:FuncId)(p:Int->Bool)(h:ae)(x:AV)(l:List Int)(hx:IL x l)(hl:l.length<=1000000)(hp:∀n∈l,W2.call g [im n] h=some (.ret (.v (.bool (p n))),h)):
 ∃r h',W2.call 167 [x,.func (.func g) [] []] h=some (r,h')/\h'=h/\∃i:Int,r=.ret (im i)/\decide (0<=i)=l.any p:=by
 obtain⟨k,s,rfl,hs⟩:=hx
 have kp:=ah.mk hp
 have ks:=ah.mk hs
 clear hp hs
 have u23:=Tryz.underlying23
 have z3:=sz3
 have hil:=aU l
 refine aL rfl Tryz.func167 rfl ?_
 refine gx1 @tI ?_
 refine aD (fun m e H=>∃i:Nat,i<=l.length/\m=l.length - i/\(l.take i).any p=false/\e.get 0=.list k s (ints l)/\e.get 1=.func (.func g) [] []/\e.get 7=.v (.int .i64 (l.length:Nat))/\e.get 8=.v (.int .i64 (i:Nat))/\e.defers=[]/\H=h) ?_ l.length _ _ ?_
 rotate_left 1
 ·refine⟨0,abG _,rfl,by simp,?_,?_,?_,?_,?_,rfl⟩<;>exact gR
 rintro m e H ⟨i,hi,rfl,ha,g0,g1,g7,g8,hd,rfl⟩
 have ka:=ah.mk ha
 clear ha
 by_cases hlt:i<l.length
 ·have hs1:s=1:=ks.out (by intro q;rw[q] at hlt;simp at hlt)
  subst hs1
  have ld:=ldi (H:=H) (s:=1) hlt
  have hv:l[i]?=some (at0 l i):=by rw[abo hlt,bN hlt]
  have hc:=kp.out (at0 l i) (abz hv)
  have hltI:(i:Int)<(l.length:Int):=by omega
  have htake:(l.take (i+1)).any p=p (at0 l i):=by rw[a9 hv,aeP,ka.out];simp
  have kt:=ah.mk htake
  have kh:=ah.mk hv
  clear hv htake
  unfold im at hc
  cases hpv:p (at0 l i) with
  |true=>
   rw[hpv] at hc
   have hany:l.any p=true:=adJ.2 ⟨_,abz kh.out,hpv⟩
   have kan:=ah.mk hany
   clear hany hpv
   refine gx4 @tI @al @ab9.{0} @ab2.{0} ?_
   exact⟨_,_,rfl,rfl,(i:Int),rfl,by rw[kan.out];simp⟩
  |false=>
   rw[hpv] at hc
   have kt2:(l.take (i+1)).any p=false:=kt.out.trans hpv
   clear hpv
   refine gx4 @tI @al @ab9.{0} @ab2.{0} ?_
   exact⟨l.length - (i+1),by omega,i+1,by omega,rfl,kt2,by simp⟩
 ·have:i=l.length:=by omega
  subst this
  have:=ka.out
  rw[abU] at this
  have kan:=ah.mk this
  clear this
  repeat' (first|simp(maxSteps:=999999)(disch:=first|exact dZ|fail)only[gW,reduceIte,abn,gBQ,tI, *]|refine dX ?_ ?_<;>(intro _;try omega))
  exact⟨_,_,rfl,rfl,-1,rfl,by rw[kan.out];rfl⟩
theorem tJ(g:FuncId)(p:Int->Bool)(h:ae)(x:AV)(l:List Int)(hx:IL x l)(hl:l.length<=1000000)(hp:∀n∈l,W2.call g [im n] h=some (.ret (.v (.bool (p n))),h)):
 W2.call 126 [x,.func (.func g) [] []] h=some (.ret (.v (.bool (l.any p))),h):=by
 obtain⟨r,h',c,rfl,i,rfl,hi⟩:=Ka g p h x l hx hl hp
 have hi2:(0<=i)=(l.any p=true):=by rw[<-hi];simp
 have hdec:decide (0<=i)=l.any p:=hi
 unfold im at c
 refine ar rfl Tryz.func126 rfl ?_
 clear hi hi2
 exact gz1 @NI
theorem Kb(g:FuncId)(p:List Int->Bool)(h:ae)(x:AV)(l:List (List Int))(hx:RL x l)(hl:l.length<=1000000)(hp:∀a r,r∈l->IL a r->W2.call g [a] h=some (.ret (.v (.bool (p r))),h)):
 ∃r h',W2.call 185 [x,.func (.func g) [] []] h=some (r,h')/\h'=h/\∃i:Int,r=.ret (im i)/\decide (0<=i)=l.any p:=by
 obtain⟨k,s,xs,rfl,hs,hxl,hxr⟩:=hx
 have kxr:=ah.mk hxr
 clear hxr
 have kp:=ah.mk hp
 have ks:=ah.mk hs
 clear hp hs
 have u22:=Tryz.underlying22
 have z23:=jC
 have hil:(xs.map fun a=>[a]).length=l.length:=by rw[abu];exact hxl
 refine aL rfl Tryz.func185 rfl ?_
 refine gx1 @EF ?_
 refine aD (fun m e H=>∃i:Nat,i<=l.length/\m=l.length - i/\(l.take i).any p=false/\e.get 0=.list k s (xs.map fun a=>[a])/\e.get 1=.func (.func g) [] []/\e.get 7=.v (.int .i64 (l.length:Nat))/\e.get 8=.v (.int .i64 (i:Nat))/\e.defers=[]/\H=h) ?_ l.length _ _ ?_
 rotate_left 1
 ·refine⟨0,abG _,rfl,by simp,?_,?_,?_,?_,?_,rfl⟩<;>exact gR
 rintro m e H ⟨i,hi,rfl,ha,g0,g1,g7,g8,hd,rfl⟩
 have ka:=ah.mk ha
 clear ha
 by_cases hlt:i<l.length
 ·have hs1:s=1:=ks.out (by intro q;rw[q] at hlt;simp at hlt)
  subst hs1
  obtain⟨a,hav⟩:∃a,xs[i]?=some a:=⟨_,abo (by omega)⟩
  obtain⟨r,hv⟩:∃r,l[i]?=some r:=⟨_,abo hlt⟩
  have ld:=ldr (H:=H) (s:=1) hav
  have hc:=kp.out a r (abz hv) (kxr.out i a r hav hv)
  clear hav
  have hltI:(i:Int)<(l.length:Int):=by omega
  have htake:(l.take (i+1)).any p=p r:=by rw[a9 hv,aeP,ka.out];simp
  have kt:=ah.mk htake
  have kh:=ah.mk hv
  clear hv htake
  cases hpv:p r with
  |true=>
   rw[hpv] at hc
   have hany:l.any p=true:=adJ.2 ⟨_,abz kh.out,hpv⟩
   have kan:=ah.mk hany
   clear hany hpv
   refine gx4 @EF @al @ab9.{0} @ab2.{0} ?_
   exact⟨_,_,rfl,rfl,(i:Int),rfl,by rw[kan.out];simp⟩
  |false=>
   rw[hpv] at hc
   have kt2:(l.take (i+1)).any p=false:=kt.out.trans hpv
   clear hpv
   refine gx4 @EF @al @ab9.{0} @ab2.{0} ?_
   exact⟨l.length - (i+1),by omega,i+1,by omega,rfl,kt2,by simp⟩
 ·have:i=l.length:=by omega
  subst this
  have:=ka.out
  rw[abU] at this
  have kan:=ah.mk this
  clear this
  repeat' (first|simp(maxSteps:=999999)(disch:=first|exact dZ|fail)only[gW,reduceIte,abn,gBQ,EF, *]|refine dX ?_ ?_<;>(intro _;try omega))
  exact⟨_,_,rfl,rfl,-1,rfl,by rw[kan.out];rfl⟩
theorem Bt(g:FuncId)(p:List Int->Bool)(h:ae)(x:AV)(l:List (List Int))(hx:RL x l)(hl:l.length<=1000000)(hp:∀a r,r∈l->IL a r->W2.call g [a] h=some (.ret (.v (.bool (p r))),h)):
 W2.call 152 [x,.func (.func g) [] []] h=some (.ret (.v (.bool (l.any p))),h):=by
 obtain⟨r,h',c,rfl,i,rfl,hi⟩:=Kb g p h x l hx hl hp
 have hi2:(0<=i)=(l.any p=true):=by rw[<-hi];simp
 have hdec:decide (0<=i)=l.any p:=hi
 unfold im at c
 refine ar rfl Tryz.func152 rfl ?_
 clear hi hi2
 exact gz1 @Rp
def pR(n:Int):Bool:=decide (n<0)||decide (1073741789<=n)
theorem Pg(n:Int)(h:ae):W2.call 218 [im n] h=some (.ret (.v (.bool (pR n))),h):=by
 unfold im pR
 by_cases h0:n<0
 ·refine ar rfl Tryz.func218 rfl ?_
  have:decide (n<0)=true:=by simp[h0]
  exact gz2 @NJ @Bool.true_or
 ·refine ar rfl Tryz.func218 rfl ?_
  have:decide (n<0)=false:=by simp[h0]
  exact gz2 @NJ @aem
theorem um(e:Int)(h:ae):W2.call 199 [.v (.bool true),im e] h=some (.ret (.tuple []),h):=by
 unfold im
 refine ar rfl Tryz.func199 rfl ?_
 exact gz1 @Rl
theorem Ph{l:List Int}(h:∀x∈l,okF x):l.any pR=false:=by
 rw[afH]
 intro x hx
 obtain⟨h1,h2⟩:=h x hx
 have:Qi=1073741789:=rfl
 unfold pR
 simp
 omega
theorem Bu(h:ae)(x:AV)(rows:List (List Int))(w:Nat)(hx:RL x rows)(hr:rows.length<=1000)(hw:∀r∈rows,r.length=w)(hw2:w<=64)(hok:∀r∈rows,∀x∈r,okF x):∃h',W2.call 200 [x] h=some (.ret (.tuple []),h')/\h'=h:=by
 obtain⟨k,s,xs,rfl,hs,hxl,hxr⟩:=hx
 have kk:=ah.mk (abp hs (abp hxr (abp hw hok)))
 clear hs hxr hw hok
 have u23:=Tryz.underlying23
 have u22:=Tryz.underlying22
 have z23:=jC
 have hil:(xs.map fun a=>[a]).length=rows.length:=by rw[abu];exact hxl
 have n2:=um 2
 have n130:=um 130
 unfold im at n2 n130
 refine dL rfl Tryz.func200 rfl ?_
 refine gx1 @Bs ?_
 refine aD (fun m e H=>∃i:Nat,i<=rows.length/\m=rows.length - i/\e.get 0=.list k s (xs.map fun a=>[a])/\e.get 7=.list k s (xs.map fun a=>[a])/\e.get 8=.v (.int .i64 (rows.length:Nat))/\e.get 9=.v (.int .i64 (i:Nat))/\e.defers=[]/\H=h) ?_ rows.length _ _ ?_
 rotate_left 1
 ·refine⟨0,abG _,rfl,?_,?_,?_,?_,?_,rfl⟩<;>exact gR
 rintro m e H ⟨i,hi,rfl,g0,g7,g8,g9,hd,rfl⟩
 by_cases hlt:i<rows.length
 ·have hs1:s=1:=kk.out.1 (by intro q;rw[q] at hlt;simp at hlt)
  subst hs1
  obtain⟨a,hav⟩:∃a,xs[i]?=some a:=⟨_,abo (by omega)⟩
  obtain⟨r,hv⟩:∃r,rows[i]?=some r:=⟨_,abo hlt⟩
  have ld:=ldr (H:=H) (s:=1) hav
  obtain⟨ka,sa,rfl,hsa⟩:=kk.out.2.1 i a r hav hv
  have hrl:=kk.out.2.2.1 r (abz hv)
  have hrl2:(ints r).length=w:=by rw[aU];exact hrl
  have hltI:(i:Int)<(rows.length:Int):=by omega
  have hwd:decide ((w:Int)<=64)=true:=by simp;omega
  clear hav hv hsa hrl
  refine gx2 @Bs @al ?_
  exact⟨rows.length - (i+1),by omega,i+1,by omega,rfl,by simp⟩
 ·repeat' (first|simp(maxSteps:=999999)(disch:=first|exact dZ|fail)only[gW,reduceIte,abn,gBQ,Bs, *]|refine dX ?_ ?_<;>(intro _;try omega))
  refine Run.gen fun e0 he0 hd0 hp0 hr0=>?_
  have f0:e0.get 0=.list k s (xs.map fun a=>[a]):=by rw[he0];simp only[gW,reduceIte,abn,gBQ];exact g0
  have f4:e0.get 4=.func (.func 218) [] []:=by rw[he0];exact gS
  have f18:e0.get 18=.list k s (xs.map fun a=>[a]):=by rw[he0];exact gS
  have f19:e0.get 19=.v (.int .i64 (rows.length:Nat)):=by rw[he0];exact gS
  have f20:e0.get 20=.v (.int .i64 (0:Nat)):=by rw[he0];exact gR
  have fd:e0.defers=[]:=by rw[hd0];simp only[gW,reduceIte,abn,gBQ];exact hd
  clear he0 hd0 hp0 hr0 g0 g7 g8 g9 hd hi hlt
  refine aD (fun m e H2=>∃i:Nat,i<=rows.length/\m=rows.length - i/\e.get 0=.list k s (xs.map fun a=>[a])/\e.get 4=.func (.func 218) [] []/\e.get 18=.list k s (xs.map fun a=>[a])/\e.get 19=.v (.int .i64 (rows.length:Nat))/\e.get 20=.v (.int .i64 (i:Nat))/\e.defers=[]/\H2=H) ?_ rows.length _ _ ?_
  rotate_left 1
  ·exact⟨0,abG _,rfl,f0,f4,f18,f19,f20,fd,rfl⟩
  clear f0 f4 f18 f19 f20 fd
  rintro m e H ⟨i,hi,rfl,g0,g4,g18,g19,g20,hd,rfl⟩
  by_cases hlt:i<rows.length
  ·have hs1:s=1:=kk.out.1 (by intro q;rw[q] at hlt;simp at hlt)
   subst hs1
   obtain⟨a,hav⟩:∃a,xs[i]?=some a:=⟨_,abo (by omega)⟩
   obtain⟨r,hv⟩:∃r,rows[i]?=some r:=⟨_,abo hlt⟩
   obtain⟨a0,hav0⟩:∃a,xs[0]?=some a:=⟨_,abo (by omega)⟩
   obtain⟨r0,hv0⟩:∃r,rows[0]?=some r:=⟨_,abo (by omega)⟩
   have ld:=ldr (H:=H) (s:=1) hav
   have ld0:=ldr (H:=H) (s:=1) hav0
   obtain⟨ka,sa,rfl,hsa⟩:=kk.out.2.1 i a r hav hv
   obtain⟨ka0,sa0,rfl,hsa0⟩:=kk.out.2.1 0 a0 r0 hav0 hv0
   have hrl:=kk.out.2.2.1 r (abz hv)
   have hrl0:=kk.out.2.2.1 r0 (abz hv0)
   have cc:=tJ 218 pR H (.list ka sa (ints r)) r ⟨_,_,rfl,hsa⟩ (by omega) (fun n _=>Pg n H)
   rw[Ph (kk.out.2.2.2 r (abz hv))] at cc
   have hrl2:(ints r).length=w:=by rw[aU];exact hrl
   have hrl3:(ints r0).length=w:=by rw[aU];exact hrl0
   have hltI:(i:Int)<(rows.length:Int):=by omega
   have h0I:(0:Int)<(rows.length:Int):=by omega
   have z0:(0:Int).toNat=0:=rfl
   clear hav hv hsa hrl hav0 hv0 hsa0 hrl0
   refine gx2 @Bs @al ?_
   exact⟨rows.length - (i+1),by omega,i+1,by omega,rfl,by simp⟩
  ·repeat' (first|simp(maxSteps:=999999)(disch:=first|exact dZ|fail)only[gW,reduceIte,abn,gBQ,Bs, *]|refine dX ?_ ?_<;>(intro _;try omega))
   exact⟨_,rfl,rfl⟩
theorem xK:Tryz.f144.results.toList=[.tmp 4,.tmp 5,.cell 6 32]:=kZq
theorem Rq:Tryz.f177.results.toList=[]:=kZq
theorem Rr(x:AV)(hx:x.bu=true):aN Tryz.prog 22 1 [(0,x)]=some (.list .tight 1 [[x]]):=by
 cases x<;>first|(cases hx;done)|kernel_rfl
theorem IL.cell{x:AV}{l:List Int}(h:IL x l):x.bu=true:=by
 obtain⟨k,s,rfl,-⟩:=h;rfl
theorem xL(b:Nat)(h:ae):W2.fg 177 [.ptr (.box b) 0] none h=some (.ret (.tuple []),none,h):=by
 have u20:=Tryz.underlying20
 refine yL Tryz.func177 rfl ?_
 exact gz3 @Rq @AG @and_self
theorem DK(h:ae)(x y:AV)(rows:List (List Int))(target:List Int)(hx:RL x rows)(hy:IL y target)(hr:rows.length<=64)(hw:∀r∈rows,r.length=target.length)(hw2:target.length<=64)(hok:∀r∈rows,∀x∈r,okF x)(hot:∀x∈target,okF x):
 W2.call 178 [x,y] h=some (.ret (.tuple []),h):=by
 obtain⟨h1,c1,e1⟩:=Bu h x rows target.length hx (by omega) hw hw2 hok
 rw[e1] at c1
 clear e1 h1
 have hRL:RL (.list .tight 1 [[y]]) [target]:=⟨.tight,1,[y],rfl,fun _=>rfl,rfl,fun i a r ha hr=>by
  cases i with
  |zero=>
   simp only[List.getElem?_cons_zero] at ha hr
   injection ha with ha;injection hr with hr
   subst ha;subst hr;exact hy
  |succ i=>simp at ha⟩
 obtain⟨h2,c2,e2⟩:=Bu h (.list .tight 1 [[y]]) [target] target.length hRL (by simp) (by simp) hw2 (by simpa using hot)
 rw[e2] at c2
 clear e2 h2
 have bl:=Rr y hy.cell
 have n2:=um 2
 have n130:=um 130
 obtain⟨k,s,xs,rfl,hs,hxl,hxr⟩:=hx
 obtain⟨ky,sy,rfl,hsy⟩:=hy
 have u23:=Tryz.underlying23
 have u22:=Tryz.underlying22
 have z23:=jC
 have hil:(xs.map fun a=>[a]).length=rows.length:=by rw[abu];exact hxl
 have hil2:=aU target
 have hrI:decide ((rows.length:Int)<=64)=true:=by simp;omega
 unfold im at n2 n130
 clear hRL hok hot
 refine ar rfl Tryz.func178 rfl ?_
 by_cases h0:rows.length=0
 ·have hq:decide ((rows.length:Int)=0)=true:=by simp[h0]
  clear hw hxr h0
  exact gz1 @NK
 ·have hq:decide ((rows.length:Int)=0)=false:=by simp[h0]
  obtain⟨a0,hav0⟩:∃a,xs[0]?=some a:=⟨_,abo (by omega)⟩
  obtain⟨r0,hv0⟩:∃r,rows[0]?=some r:=⟨_,abo (by omega)⟩
  have hs1:s=1:=hs (by intro q;rw[q] at h0;simp at h0)
  subst hs1
  have ld0:=ldr (H:=h) (s:=1) hav0
  obtain⟨ka0,sa0,rfl,hsa0⟩:=hxr 0 a0 r0 hav0 hv0
  have hrl0:=hw r0 (abz hv0)
  have hrl3:(ints r0).length=target.length:=by rw[aU];exact hrl0
  have h0I:(0:Int)<(rows.length:Int):=by omega
  have z0:(0:Int).toNat=0:=rfl
  clear hw hxr hav0 hv0 hrl0 hs
  exact gz2 @NK @al
theorem DL:cZ Tryz.prog 32=some false:=kZq
theorem Rs:bF Tryz.prog 32=some 1:=kZq
theorem S1:(ej Tryz.prog 32).bind AV.aC=some [im 0]:=kZq
theorem NL{H:ae}{b:Nat}{x:AV}(hb:H.boxes[b]?=some [x]):ai Tryz.prog Gt H 32 (.ptr (.box b) 0)=some x:=by rw[dc DL hb];rfl
theorem NM{H:ae}{b:Nat}{x:AV}{n:Int}(hb:H.boxes[b]?=some [x]):aA Tryz.prog H 32 (.ptr (.box b) 0) (.v (.int .i64 n))=some (H.put b [.v (.int .i64 n)]):=aW (off:=0) (cs:=[x]) (xs:=[im n]) rfl Rs hb rfl (abq 1)
theorem Kc{b n k:Nat}(hk:k<=n):∃off,ck Tryz.prog 203 (.arr b 0 n n) (some (.v (.int .i64 (k:Nat)))) none none=some (.arr b off (n - k) (n - k))/\(k<n->off=k):=by
 refine⟨if n=k then 0 else 0+k * 1,?_,fun h=>by rw[if_neg (by omega)];omega⟩
 have e1:bX n none n=some n:=rfl
 have e3:bX n (some (.v (.int .i64 (k:Nat)))) 0=some k:=by
  show(if 0<=(k:Int)/\(k:Int)<=(n:Int) then some (k:Int).toNat else none)=_
  rw[if_pos ⟨by omega,by omega⟩];rfl
 unfold ck
 simp only[Tryz.underlying203,jC,e1,e3,Option.isSome_none,ade,Bool.false_eq_true,false_and,if_false]
 rfl
theorem Rt{b off len cap n:Nat}{k:IntKind}(hn:n<len):ay Tryz.prog 203 (.arr b off len cap) (.v (.int k (n:Nat)))=some (.ptr (.box b) (off+n)):=by
 rw[mE Tryz.underlying203 jC (by omega) (by omega),Int.toNat_natCast,Nat.mul_one]
def jD(t:List (List Int))(pv:List Nat)(n j:Nat):List Int:=(pv.zipIdx.take j).foldl (fun y p=>y.set p.1 (at0 (t.getD p.2 []) n)) (abt n 0)
theorem xM(t:List (List Int))(pv:List Nat)(n j:Nat):(jD t pv n j).length=n:=by
 unfold jD
 rw[oJ (fun p=>at0 (t.getD p.2 []) n),ack]
theorem DM{t:List (List Int)}{pv:List Nat}{n j p:Nat}(h:pv[j]?=some p):(jD t pv n j).set p (at0 (t.getD j []) n)=jD t pv n (j+1):=by
 have hz:pv.zipIdx[j]?=some (p,j):=by rw[agb,h];simp
 unfold jD
 rw[a9 hz,acs]
 rfl
theorem G8(t:List (List Int))(pv:List Nat)(n:Nat):jD t pv n pv.length=gF (t,pv) n:=by
 unfold jD gF
 rw[abD (by simp)]
def Kd(rows:List (List Int))(target:List Int)(h:ae)(r:Res)(h':ae):Prop:=
 Ext h h'/\((gi rows target=none/\r=.ret (.tuple [.list .nil 0 [],.v (.bool false),im 0]))∨∃l b,gi rows target=some l/\l.length=rows.length/\r=.ret (.tuple [.arr b 0 rows.length rows.length,.v (.bool true),im 0])/\h'.boxes[b]?=some (l.map im))
theorem DN(h:ae)(x y:AV)(rows:List (List Int))(target:List Int)(hx:RL x rows)(hy:IL y target)(hr:rows.length<=64)(hw:∀r∈rows,r.length=target.length)(hw2:target.length<=64)(hok:∀r∈rows,∀x∈r,okF x)(hot:∀x∈target,okF x)(ho:aZ h=true):
 ∃r h',W2.call 144 [x,y] h=some (r,h')/\Kd rows target h r h':=by
 have c1:=DK (h.push [im 0]) x y rows target hx hy hr hw hw2 hok hot
 obtain⟨_,H2,c2,tb,B,rfl,T2,X2,hb1,hb2⟩:=G7 (h.push [im 0]) x y rows target hx hy (by omega) (by omega) hw
 obtain⟨t1,t2⟩:=xC hok hot
 have tl:=vt rows target
 obtain⟨_,H3,c3,tk,s3,B3,rfl,hs3,T3,hP3,G3⟩:=GZ H2 tb B (cO rows target) (rows.length+1) rows.length T2 (by omega) (by omega) (by omega) t2 (X2.ok ho)
 have hsame:=AX (many:=rows.length) t1 t2 (by omega)
 obtain⟨R,V⟩:=pk t1 t2 (show rows.length<=rows.length+1 by omega)
 rw[hsame] at hs3 T3 c3
 rw[tl] at c3
 have e1:gi rows target=if ((cJ (cO rows target) rows.length).1.drop (cJ (cO rows target) rows.length).2.length).all (fun a=>decide (at0 a rows.length=0)) then some (gF (cJ (cO rows target) rows.length) rows.length) else none:=rfl
 have hl3:(cJ (cO rows target) rows.length).1.length=target.length:=by
  have:=(ED t1 t2 rows.length (by omega)).2.1
  rw[<-Br,hsame] at this
  omega
 have X3:Ext (h.push [im 0]) H3:=X2.O0 (G3.mu.tS X2.tn) (fun b hb=>by
  rcases acd.1 hb with q|q
  ·rw[q];exact hb1
  ·exact hb2 b q)
 have b0:H3.boxes[h.boxes.length]?=some [im 0]:=X3.box _ _ (ak _ _)
 have X0:Ext h H3:=(Ext.push h [im 0]).trans X3
 obtain⟨k,s,xs,rfl,hs,hxl,hxr⟩:=hx
 obtain⟨ky,sy,rfl,hsy⟩:=hy
 have hil:(xs.map fun a=>[a]).length=rows.length:=by rw[abu];exact hxl
 have hprl:=V.len
 generalize hst:cJ (cO rows target) rows.length=st at *
 obtain⟨t',pv⟩:=st
 dsimp only at *
 have hpl:=zA pv
 have kk:=ah.mk (abp T3 (abp V (abp e1 (abp X0 (abp b0 hs3)))))
 clear T2 X2 hb1 hb2 t1 t2 tl hsame R V e1 hP3 G3 X3 b0 X0 T3 hs hxl hxr hsy hst hs3 hok hot hw ho
 have u23:=Tryz.underlying23
 have u22:=Tryz.underlying22
 have u203:=Tryz.underlying203
 have z23:=jC
 have z32:=S1
 obtain⟨off,hsl,hoff⟩:=Kc (b:=tb) (show pv.length<=target.length by omega)
 have khoff:=ah.mk hoff
 clear hoff
 unfold im at *
 refine aL rfl Tryz.func144 rfl ?_
 refine gx1 @xK ?_
 refine Run.gen fun e0 he0 hd0 hp0 hr0=>?_
 have f6:e0.get 6=.ptr (.box h.boxes.length) 0:=by rw[he0];exact gS
 have f7:e0.get 7=.v (.int .i64 (rows.length:Nat)):=by rw[he0];exact gS
 have f8:e0.get 8=.arr tb 0 target.length target.length:=by rw[he0];exact gS
 have f9:e0.get 9=.list tk s3 (ints (pvI pv)):=by rw[he0];exact gS
 have f28:e0.get 28=.arr tb off (target.length - pv.length) (target.length - pv.length):=by rw[he0];exact gS
 have f29:e0.get 29=.v (.int .i64 ((target.length - pv.length:Nat):Int)):=by rw[he0];exact gS
 have f30:e0.get 30=.v (.int .i64 (0:Nat)):=by rw[he0];exact gR
 have fd:e0.defers=[(177,[.ptr (.box h.boxes.length) 0])]:=by rw[hd0];exact gS
 have fp:e0.pan=none:=by rw[hp0];exact gS
 clear he0 hd0 hp0 hr0 c1 c2 c3 hsl
 refine aD (fun m e H=>∃j:Nat,j<=target.length - pv.length/\m=target.length - pv.length - j/\ah (∀i,i<j->∀a,t'[pv.length+i]?=some a->at0 a rows.length=0)/\e.get 6=.ptr (.box h.boxes.length) 0/\e.get 7=.v (.int .i64 (rows.length:Nat))/\e.get 8=.arr tb 0 target.length target.length/\e.get 9=.list tk s3 (ints (pvI pv))/\e.get 28=.arr tb off (target.length - pv.length) (target.length - pv.length)/\e.get 29=.v (.int .i64 ((target.length - pv.length:Nat):Int))/\e.get 30=.v (.int .i64 (j:Nat))/\e.defers=[(177,[.ptr (.box h.boxes.length) 0])]/\e.pan=none/\H=H3) ?_ (target.length - pv.length) _ _ ?_
 rotate_left 1
 ·exact⟨0,abG _,rfl,⟨fun i hi=>absurd hi (acH _)⟩,f6,f7,f8,f9,f28,f29,f30,fd,fp,rfl⟩
 clear f6 f7 f8 f9 f28 f29 f30 fd fp
 rintro m e H3 ⟨j,hj,rfl,kz,g6,g7,g8,g9,g28,g29,g30,hd,hp,rfl⟩
 obtain⟨T3,V,e1,X0,b0,hs3⟩:=kk.out
 have s6:=fun n=>NM (n:=n) b0
 by_cases hlt:j<target.length - pv.length
 ·obtain⟨a,ha⟩:∃a,t'[pv.length+j]?=some a:=⟨_,abo (by omega)⟩
  obtain⟨b,hb⟩:∃b,B3[pv.length+j]?=some b:=⟨_,abo (by rw[T3.len];omega)⟩
  have wa:=T3.wid a (abz ha)
  have hdj:(B3.map fun b=>AV.arr b 0 (rows.length+1) (rows.length+1))[off+j]?=some (.arr b 0 (rows.length+1) (rows.length+1)):=by rw[khoff.out (by omega),abF,hb];rfl
  have m1:=oQ T3.hdr hdj
  have m2:=ldc (T3.row _ _ _ hb ha) (gv (k:=rows.length) (by omega))
  have ix1:=Rt (b:=tb) (off:=off) (cap:=target.length - pv.length) (k:=.i64) hlt
  have ix2:=vE (b:=b) (len:=rows.length+1) (cap:=rows.length+1) (k:=.i64) (show rows.length<rows.length+1 by omega)
  have hltI:(j:Int)<((target.length - pv.length:Nat):Int):=by omega
  by_cases hz:at0 a rows.length=0
  ·have kz2:ah (∀i,i<j+1->∀a,t'[pv.length+i]?=some a->at0 a rows.length=0):=⟨fun i hi a' ha'=>by
    rcases abL i j with q|q
    ·exact kz.out i q a' ha'
    ·rw[show i=j by omega,ha] at ha'
     injection ha' with ha'
     rw[<-ha'];exact hz⟩
   rw[hz] at m2
   unfold im at *
   clear T3 V e1 X0 b0 hs3 s6 ha hb wa hdj hz kz
   refine gx1 @xK ?_
   exact⟨target.length - pv.length - (j+1),by omega,j+1,by omega,rfl,kz2,by simp⟩
  ·have e2:gi rows target=none:=by
    rw[e1,if_neg]
    intro q
    rw[abE] at q
    have:=q a (abz (i:=j) (by rw[acw];exact ha))
    exact hz (of_decide_eq_true this)
   have ke:=ah.mk e2
   have kX:=ah.mk X0
   have kb:=ah.mk b0
   have l6:∀n,ai Tryz.prog Gt (H3.put h.boxes.length [.v (.int .i64 n)]) 32 (.ptr (.box h.boxes.length) 0)=some (.v (.int .i64 n)):=fun n=>NL (aS (abm.1 b0).1)
   unfold im at *
   clear T3 V e1 X0 b0 hs3 ha hb wa hdj kz e2
   repeat' (first|simp(maxSteps:=999999)(disch:=first|exact dZ|fail)only[gW,reduceIte,abn,gBQ,xK,oC (xL _ _), *]|refine dX ?_ ?_<;>(intro _;try omega))
   exact⟨_,_,rfl,kX.out.bZ (abq _) _,.inl ⟨ke.out,rfl⟩⟩
 ·have hje:j=target.length - pv.length:=by omega
  subst hje
  have e2:gi rows target=some (gF (t',pv) rows.length):=by
   rw[e1,if_pos]
   rw[abE]
   intro a ha
   obtain⟨i,hi⟩:=acC ha
   rw[acw] at hi
   have hil:=(abm.1 hi).1
   exact decide_eq_true (kz.out i (by omega) a hi)
  rw[<-G8] at e2
  have ke:=ah.mk e2
  have mk:=Pf H3 rows.length (by omega) .i64 .i64
  have hrep:abt rows.length (im 0)=(jD t' pv rows.length 0).map im:=by
   unfold jD;rw[abY,afr,aev]
  rw[hrep] at mk
  clear e1 e2 hrep kz b0 s6 X0 T3 V hs3
  unfold im at mk
  repeat' (first|simp(maxSteps:=999999)(disch:=first|exact dZ|fail)only[gW,reduceIte,abn,gBQ,xK, *]|refine dX ?_ ?_<;>(intro _;try omega))
  refine Run.gen fun e0 he0 hd0 hp0 hr0=>?_
  have f4:e0.get 4=.arr H3.boxes.length 0 rows.length rows.length:=by rw[he0];exact gS
  have f6:e0.get 6=.ptr (.box h.boxes.length) 0:=by rw[he0];simp only[gW,reduceIte,abn,gBQ];exact g6
  have f7:e0.get 7=.v (.int .i64 (rows.length:Nat)):=by rw[he0];simp only[gW,reduceIte,abn,gBQ];exact g7
  have f8:e0.get 8=.arr tb 0 target.length target.length:=by rw[he0];simp only[gW,reduceIte,abn,gBQ];exact g8
  have f42:e0.get 42=.list tk s3 (ints (pvI pv)):=by rw[he0];exact gS
  have f43:e0.get 43=.v (.int .i64 (pv.length:Nat)):=by rw[he0];exact gS
  have f44:e0.get 44=.v (.int .i64 (0:Nat)):=by rw[he0];exact gR
  have fd:e0.defers=[(177,[.ptr (.box h.boxes.length) 0])]:=by rw[hd0];simp only[gW,reduceIte,abn,gBQ];exact hd
  have fp:e0.pan=none:=by rw[hp0];simp only[gW,reduceIte,abn,gBQ];exact hp
  clear he0 hd0 hp0 hr0 g6 g7 g8 g9 g28 g29 g30 hd hp mk
  refine aD (fun m e H=>∃j:Nat,j<=pv.length/\m=pv.length - j/\e.get 4=.arr H3.boxes.length 0 rows.length rows.length/\e.get 6=.ptr (.box h.boxes.length) 0/\e.get 7=.v (.int .i64 (rows.length:Nat))/\e.get 8=.arr tb 0 target.length target.length/\e.get 42=.list tk s3 (ints (pvI pv))/\e.get 43=.v (.int .i64 (pv.length:Nat))/\e.get 44=.v (.int .i64 (j:Nat))/\e.defers=[(177,[.ptr (.box h.boxes.length) 0])]/\e.pan=none/\H=H3.push ((jD t' pv rows.length j).map im)) ?_ pv.length _ _ ?_
  rotate_left 1
  ·exact⟨0,abG _,rfl,f4,f6,f7,f8,f42,f43,f44,fd,fp,rfl⟩
  clear f4 f6 f7 f8 f42 f43 f44 fd fp
  rintro m e H ⟨j,hj,rfl,g4,g6,g7,g8,g42,g43,g44,hd,hp,rfl⟩
  obtain⟨T3,V,-,X0,b0,hs3⟩:=kk.out
  by_cases hlt:j<pv.length
  ·obtain⟨p,hpv⟩:∃p,pv[j]?=some p:=⟨_,abo hlt⟩
   have hpn:=V.lt j p hpv
   have hs1:s3=1:=by
    rcases hs3 with q|⟨q,-⟩
    ·exact q
    ·exfalso
     unfold pvI at q
     rw[adG] at q
     rw[q] at hlt
     exact acH _ hlt
   subst hs1
   obtain⟨a,ha⟩:∃a,t'[j]?=some a:=⟨_,abo (by omega)⟩
   obtain⟨b,hb⟩:∃b,B3[j]?=some b:=⟨_,abo (by rw[T3.len];omega)⟩
   have wa:=T3.wid a (abz ha)
   have hdj:(B3.map fun b=>AV.arr b 0 (rows.length+1) (rows.length+1))[j]?=some (.arr b 0 (rows.length+1) (rows.length+1)):=by rw[abF,hb];rfl
   have hpI:at0 (pvI pv) j=(p:Int):=by
    have:(pvI pv)[j]?=some (p:Int):=by unfold pvI;rw[abF,hpv];rfl
    unfold at0
    rw[abw,this];rfl
   have l0:=ldi (H:=H3.push ((jD t' pv rows.length j).map im)) (l:=pvI pv) (i:=j) (s:=1) (by unfold pvI;rw[abu];exact hlt)
   rw[hpI] at l0
   have m1:=oQ (H:=H3.push ((jD t' pv rows.length j).map im)) (aj T3.hdr) hdj
   have m2:=ldc (H:=H3.push ((jD t' pv rows.length j).map im)) (aj (T3.row _ _ _ hb ha)) (gv (k:=rows.length) (by omega))
   have ix1:=xH (b:=tb) (len:=target.length) (cap:=target.length) (k:=.i64) (show j<target.length by omega)
   have ix2:=vE (b:=b) (len:=rows.length+1) (cap:=rows.length+1) (k:=.i64) (show rows.length<rows.length+1 by omega)
   have ix3:=vE (b:=H3.boxes.length) (len:=rows.length) (cap:=rows.length) (k:=.i64) hpn
   have sk:=J3 (H:=H3.push ((jD t' pv rows.length j).map im)) (b:=H3.boxes.length) (r:=jD t' pv rows.length j) (k:=p) (x:=at0 a rows.length) (ak _ _) (by rw[xM];exact hpn)
   have gD:t'.getD j []=a:=by rw[abw,ha];rfl
   rw[gg,<-gD,DM hpv,gD] at sk
   have hltI:(j:Int)<(pv.length:Int):=by omega
   have z3:=sz3
   unfold im at *
   clear T3 V X0 b0 hs3 ha hb wa hdj gD hpI hpv kk ke
   refine gx2 @xK @al ?_
   exact⟨pv.length - (j+1),by omega,j+1,by omega,rfl,by simp⟩
  ·have hje:j=pv.length:=by omega
   subst hje
   have b1:(H3.push ((jD t' pv rows.length pv.length).map im)).boxes[h.boxes.length]?=some [im 0]:=aj b0
   have s6:=fun n=>NM (n:=n) b1
   have hlt0:=(abm.1 b1).1
   have l6:∀n,ai Tryz.prog Gt ((H3.push ((jD t' pv rows.length pv.length).map im)).put h.boxes.length [.v (.int .i64 n)]) 32 (.ptr (.box h.boxes.length) 0)=some (.v (.int .i64 n)):=fun n=>NL (aS hlt0)
   have hne:H3.boxes.length≠h.boxes.length:=by have:=(abm.1 b0).1;omega
   have kX:=ah.mk X0
   clear T3 V X0 b0 b1 hs3 hlt0
   repeat' (first|simp(maxSteps:=999999)(disch:=first|exact dZ|fail)only[gW,reduceIte,abn,gBQ,xK,oC (xL _ _), *]|refine dX ?_ ?_<;>(intro _;try omega))
   exact⟨_,_,rfl,(kX.out.trans (.push _ _)).bZ (abq _) _,.inr ⟨_,_,ke.out,xM _ _ _ _,rfl,(av hne).trans (ak _ _)⟩⟩
theorem NN:Tryz.f154.results.toList=[.tmp 6]:=kZq
theorem Ru:Tryz.f155.results.toList=[.tmp 2]:=kZq
theorem Rv:Tryz.f151.results.toList=[.tmp 2]:=kZq
theorem Rw:Tryz.f153.results.toList=[.tmp 2]:=kZq
theorem wK:Tryz.f97.results.toList=[.tmp 2]:=kZq
theorem xN(n a b:Int)(h:ae):W2.call 154 [im n,im a,im b] h=some (.ret (.v (.bool (decide (a<=n)&&decide (n<=b)))),h):=by
 unfold im
 by_cases h0:a<=n
 ·have:decide (a<=n)=true:=by simp[h0]
  refine ar rfl Tryz.func154 rfl ?_
  exact gz2 @NN @Bool.true_and
 ·have:decide (a<=n)=false:=by simp[h0]
  refine ar rfl Tryz.func154 rfl ?_
  exact gz2 @NN @ade
def iR(n:Int):Bool:=decide (0<=n)&&decide (n<=63)
theorem xO(n:Int)(h:ae):W2.call 155 [im n] h=some (.ret (.v (.bool (iR n))),h):=by
 have w:=xN n 0 63 h
 unfold iR
 unfold im at *
 refine ar rfl Tryz.func155 rfl ?_
 exact gz1 @Ru
theorem MF(a:AV)(r:List Int)(ha:IL a r)(h:ae):W2.call 151 [a] h=some (.ret (.v (.bool (decide (64<r.length)))),h):=by
 obtain⟨k,s,rfl,-⟩:=ha
 have u23:=Tryz.underlying23
 have hl:=aU r
 have hd:decide (64<r.length)=decide ((64:Int)<(r.length:Int)):=by rw[decide_eq_decide];omega
 rw[hd]
 refine ar rfl Tryz.func151 rfl ?_
 exact gz1 @Rv
theorem Pj(n:Int)(h:ae):W2.call 153 [im n] h=some (.ret (.v (.bool (!inQ n))),h):=by
 have w:=xN n 0 1073741788 h
 have e:inQ n=(decide (0<=n)&&decide (n<=1073741788)):=by
  unfold inQ Qi
  congr 1
  rw[decide_eq_decide]
  omega
 rw[e]
 unfold im at *
 refine ar rfl Tryz.func153 rfl ?_
 exact gz1 @Rw
theorem Pk:cZ Tryz.prog 22=some false:=kZq
theorem G9:cZ Tryz.prog 25=some true:=kZq
theorem bH{b:Nat}:aJ Tryz.prog 25 (.ptr (.box b) 0) 0=some (.ptr (.box b) 0):=kZq
theorem cW{b:Nat}:aJ Tryz.prog 25 (.ptr (.box b) 0) 1=some (.ptr (.box b) 1):=kZq
theorem tY{H:ae}{b:Nat}{x y:AV}(hb:H.boxes[b]?=some [x,y]):ai Tryz.prog Gt H 22 (.ptr (.box b) 0)=some x:=by rw[dc Pk hb];rfl
theorem MG{H:ae}{b:Nat}{x y:AV}(hb:H.boxes[b]?=some [x,y]):ai Tryz.prog Gt H 23 (.ptr (.box b) 1)=some y:=by rw[dc mo hb];rfl
def mT(rows:List (List Int))(owners:List Int)(i:Nat):Bool:= !(rows.getD i []).isEmpty&&decide ((rows.getD i []).length=(rows.getD 0 []).length)&&(decide (0<=at0 owners i)&&decide (at0 owners i<=63))&&(rows.getD i []).all inQ
theorem EG(h:ae)(x y:AV)(rows:List (List Int))(owners:List Int)(hx:RL x rows)(hy:IL y owners):
 ∃h',W2.call 97 [.agg [x,y]] h=some (.ret (.v (.int .i64 (bC rows owners))),h')/\h'=h.push [x,y]:=by
 have c1:=fun(hl:rows.length<=64)=>Bt 151 (fun r=>decide (64<r.length)) (h.push [x,y]) x rows hx (by omega) (fun a r _ ha=>MF a r ha _)
 obtain⟨k,s,xs,rfl,hs,hxl,hxr⟩:=hx
 obtain⟨ky,sy,rfl,hsy⟩:=hy
 have kk:=ah.mk (abp hs (abp hxr hsy))
 clear hs hxr hsy
 have u23:=Tryz.underlying23
 have u22:=Tryz.underlying22
 have z23:=jC
 have z3:=sz3
 have hil:(xs.map fun a=>[a]).length=rows.length:=by rw[abu];exact hxl
 have hol:=aU owners
 have b0:(h.push [.list k s (xs.map fun a=>[a]),.list ky sy (ints owners)]).boxes[h.boxes.length]?=some [.list k s (xs.map fun a=>[a]),.list ky sy (ints owners)]:=ak _ _
 have l0:=tY b0
 have l1:=MG b0
 have bx:(AV.agg [.list k s (xs.map fun a=>[a]),.list ky sy (ints owners)]).aC=some [.list k s (xs.map fun a=>[a]),.list ky sy (ints owners)]:=rfl
 clear b0
 unfold bC
 refine dL rfl Tryz.func97 rfl ?_
 by_cases h1:64<rows.length
 ·have hq:decide ((64:Int)<(rows.length:Int))=true:=by simp;omega
  rw[if_pos (by simp[h1])]
  clear c1
  generalize hH:h.push [.list k s (xs.map fun a=>[a]),.list ky sy (ints owners)]=H at *
  refine gx5 @wK @bH @cW @aw @hH ?_
  exact⟨_,rfl,rfl⟩
 have hq:decide ((64:Int)<(rows.length:Int))=false:=by simp;omega
 have c2:=c1 (by omega)
 have hd1:decide (64<rows.length)=false:=by simp[h1]
 rw[hd1,aem]
 clear c1 hd1
 cases h2:rows.any fun r=>decide (64<r.length) with
 |true=>
  rw[h2] at c2
  rw[if_pos rfl]
  clear h2
  refine gx4 @wK @bH @cW @aw ?_
  exact⟨_,rfl,rfl⟩
 |false=>
  rw[h2] at c2
  rw[if_neg (by simp)]
  by_cases h3:rows.length=owners.length
  rotate_left 1
  ·rw[if_pos h3]
   clear h2
   have hn:¬((rows.length:Int)=(owners.length:Int)):=by omega
   refine gx4 @wK @bH @cW @aw ?_
   exact⟨_,rfl,rfl⟩
  rw[if_neg (by simpa using h3)]
  have h2':=ah.mk h2
  have hn:(rows.length:Int)=(owners.length:Int):=by omega
  have kn:=ah.mk h3
  clear h2 h3
  obtain⟨H,hH⟩:∃H,h.push [.list k s (xs.map fun a=>[a]),.list ky sy (ints owners)]=H:=⟨_,rfl⟩
  rw[hH] at l0 l1 c2
  rw[hH]
  generalize hres:(if ((aby rows.length).all fun i=> !(rows.getD i []).isEmpty&&decide ((rows.getD i []).length=(rows.getD 0 []).length)&&(decide (0<=at0 owners i)&&decide (at0 owners i<=63))&&(rows.getD i []).all inQ)=true then (0:Int) else 230)=res
  have kres:ah (res=if ((aby rows.length).all (mT rows owners))=true then (0:Int) else 230):=⟨hres.symm⟩
  have kH:=ah.mk hH
  clear hres hn
  have hle:rows.length<=64:=by omega
  have hn':(owners.length:Int)=(rows.length:Int):=by have:=kn.out;omega
  refine gx5 @wK @bH @cW @aw @hH ?_
  refine Run.gen fun e0 he0 hd0 hp0 hr0=>?_
  have f1:e0.get 1=.ptr (.box h.boxes.length) 0:=by rw[he0];exact gS
  have f25:e0.get 25=.list k s (xs.map fun a=>[a]):=by rw[he0];exact gS
  have f26:e0.get 26=.v (.int .i64 (rows.length:Nat)):=by rw[he0];exact gS
  have f27:e0.get 27=.v (.int .i64 (0:Nat)):=by rw[he0];exact gR
  have fd:e0.defers=[]:=by rw[hd0];exact gS
  clear he0 hd0 hp0 hr0 hH bx c2 hq h1
  refine aD (fun m e H2=>∃i:Nat,i<=rows.length/\m=rows.length - i/\ah (∀j,j<i->mT rows owners j=true)/\e.get 1=.ptr (.box h.boxes.length) 0/\e.get 25=.list k s (xs.map fun a=>[a])/\e.get 26=.v (.int .i64 (rows.length:Nat))/\e.get 27=.v (.int .i64 (i:Nat))/\e.defers=[]/\H2=H) ?_ rows.length _ _ ?_
  rotate_left 1
  ·exact⟨0,abG _,rfl,⟨fun j hj=>absurd hj (acH _)⟩,f1,f25,f26,f27,fd,rfl⟩
  clear f1 f25 f26 f27 fd
  rintro m e H2 ⟨i,hi,rfl,kf,g1,g25,g26,g27,hd,hHe⟩
  rw[<-hHe] at l0 l1 kH ⊢
  clear hHe
  by_cases hlt:i<rows.length
  rotate_left 1
  ·have hie:i=rows.length:=by omega
   subst hie
   have h0:res=0:=by
    rw[kres.out,if_pos]
    rw[abE]
    intro j hj
    exact kf.out j (abQ.1 hj)
   have k0:=ah.mk h0
   clear h0
   repeat' (first|simp(maxSteps:=999999)(disch:=first|exact dZ|fail)only[gW,reduceIte,abn,gBQ,wK, *]|refine dX ?_ ?_<;>(intro _;try omega))
   exact⟨_,by rw[k0.out],rfl⟩
  have hs1:s=1:=kk.out.1 (by intro q;rw[q] at hlt;simp at hlt)
  subst hs1
  have hs2:sy=1:=kk.out.2.2 (by intro q;have h0:=kn.out;rw[q,ab7] at h0;omega)
  subst hs2
  obtain⟨a,hav⟩:∃a,xs[i]?=some a:=⟨_,abo (by omega)⟩
  obtain⟨r,hv⟩:∃r,rows[i]?=some r:=⟨_,abo hlt⟩
  obtain⟨a0,hav0⟩:∃a,xs[0]?=some a:=⟨_,abo (by omega)⟩
  obtain⟨r0,hv0⟩:∃r,rows[0]?=some r:=⟨_,abo (by omega)⟩
  have ld:=ldr (H:=H2) (s:=1) hav
  have ld0:=ldr (H:=H2) (s:=1) hav0
  have hil2:=kk.out.2.1 i a r hav hv
  obtain⟨ka,sa,rfl,hsa⟩:=hil2
  obtain⟨ka0,sa0,rfl,hsa0⟩:=kk.out.2.1 0 a0 r0 hav0 hv0
  have hrl:=aU r
  have hrl0:=aU r0
  have ldo:=ldi (H:=H2) (l:=owners) (i:=i) (s:=1) (by have:=kn.out;omega)
  have hbig:r.length<=64:=by
   have:=h2'.out
   rw[afH] at this
   have:=this r (abz hv)
   simpa using this
  have cc:=tJ 153 (fun n=> !inQ n) H2 (.list ka sa (ints r)) r ⟨_,_,rfl,hsa⟩ (by omega) (fun n _=>Pj n H2)
  have cp:=xO (at0 owners i) H2
  have hfin:mT rows owners i=(!r.isEmpty&&decide (r.length=r0.length)&&iR (at0 owners i)&&r.all inQ):=by
   unfold mT iR
   have g1:rows.getD i []=r:=by rw[abw,hv];rfl
   have g2:rows.getD 0 []=r0:=by rw[abw,hv0];rfl
   rw[g1,g2]
  have hany:(r.any fun n=> !inQ n)= !(r.all inQ):=by
   rw[List.any_eq_not_all_not];simp
  rw[hany] at cc
  have kfin:=ah.mk hfin
  have bad:mT rows owners i=false->res=230:=by
   intro q
   rw[kres.out,if_neg]
   intro z
   rw[abE] at z
   have:=z i (abQ.2 hlt)
   rw[q] at this;cases this
  have kbad:=ah.mk bad
  have hltI:(i:Int)<(rows.length:Int):=by omega
  have h0I:(0:Int)<(rows.length:Int):=by omega
  have z0:(0:Int).toNat=0:=rfl
  clear hfin bad hany hbig hav hv hsa hav0 hv0 hsa0
  unfold im at *
  generalize at0 owners i=o at *
  by_cases e1:r.length=0
  ·have hq1:decide ((r.length:Int)=0)=true:=by simp[e1]
   have hb:res=230:=kbad.out (by rw[kfin.out,List.length_eq_zero_iff.1 e1];rfl)
   have kb:=ah.mk hb
   clear hb e1 cc cp
   refine gx4 @wK @bH @cW @al ?_
   exact⟨_,by rw[kb.out],rfl⟩
  have hq1:decide ((r.length:Int)=0)=false:=by simp[e1]
  have he1:r.isEmpty=false:=by cases r with|nil=>exact absurd rfl e1|cons _ _=>rfl
  by_cases e2:r.length=r0.length
  rotate_left 1
  ·have hq2:decide ((r.length:Int)=(r0.length:Int))=false:=by simp;omega
   have hb:res=230:=kbad.out (by rw[kfin.out,he1,decide_eq_false e2];rfl)
   have kb:=ah.mk hb
   clear hb e1 e2 he1 cc cp
   refine gx4 @wK @bH @cW @al ?_
   exact⟨_,by rw[kb.out],rfl⟩
  have hq2:decide ((r.length:Int)=(r0.length:Int))=true:=by simp;omega
  cases e3:iR o with
  |false=>
   have hb:res=230:=kbad.out (by rw[kfin.out,e3];simp)
   have kb:=ah.mk hb
   rw[e3] at cp
   clear hb e1 e2 he1 cc e3
   refine gx4 @wK @bH @cW @al ?_
   exact⟨_,by rw[kb.out],rfl⟩
  |true=>
   rw[e3] at cp
   cases e4:r.all inQ with
   |false=>
    have hb:res=230:=kbad.out (by rw[kfin.out,e4];simp)
    have kb:=ah.mk hb
    rw[e4] at cc
    clear hb e1 e2 he1 e3 e4
    refine gx4 @wK @bH @cW @al ?_
    exact⟨_,by rw[kb.out],rfl⟩
   |true=>
    rw[e4] at cc
    have kf2:ah (∀j,j<i+1->mT rows owners j=true):=⟨fun j hj=>by
     rcases abL j i with q|q
     ·exact kf.out j q
     ·rw[show j=i by omega,kfin.out,he1,decide_eq_true e2,e3,e4];rfl⟩
    clear e1 e2 he1 e3 e4 kfin kf
    refine gx4 @wK @bH @cW @al ?_
    exact⟨rows.length - (i+1),by omega,i+1,by omega,rfl,kf2,by simp⟩
theorem xP:Tryz.f198.results.toList=[.tmp 4,.tmp 5]:=kZq
theorem Rx:Tryz.f216.results.toList=[.tmp 4]:=kZq
theorem Ry:Tryz.f217.results.toList=[.tmp 2]:=kZq
theorem Rz:Tryz.f226.results.toList=[.tmp 2]:=kZq
theorem Ke(n:Int)(h:ae):W2.call 226 [im n] h=some (.ret (.v (.bool false)),h):=by
 unfold im
 refine ar rfl Tryz.func226 rfl ?_
 repeat' (first|simp(maxSteps:=999999)(disch:=first|exact dZ|fail)only[gW,reduceIte,abn,gBQ,Rz,ne_eq,not_true_eq_false,decide_false, *]|refine dX ?_ ?_<;>(intro _;try omega))
theorem Pl(n:Int)(h:ae):W2.call 217 [im n] h=some (.ret (.v (.bool false)),h):=by
 unfold im
 refine ar rfl Tryz.func217 rfl ?_
 repeat' (first|simp(maxSteps:=999999)(disch:=first|exact dZ|fail)only[gW,reduceIte,abn,gBQ,Ry,ne_eq,not_true_eq_false,decide_false, *]|refine dX ?_ ?_<;>(intro _;try omega))
theorem MH(a b:Int)(h:ae):W2.call 216 [im a,im b] h=some (.ret (.v (.bool (decide (a<b)))),h):=by
 have n1:=Ke a h
 have n2:=Ke b h
 unfold im at *
 refine ar rfl Tryz.func216 rfl ?_
 exact gz1 @Rx
theorem EH(n:Int)(h:ae):fm Tryz.prog h 179 3 (.v (.int .u64 n))=some (.v (.int .i64 (IntKind.i64.wrap n)),h):=kZq
theorem Kf{t:TypeId}{x y:Operand}{n:Nat}:bB Tryz.prog .shr t x y (.v (.int .u64 (n:Nat))) (.v (.int .u64 1))=some (.v (.int .u64 ((n/2:Nat):Int))):=by
 rw[nr (by decide)]
 congr 3
 show((n:Nat):Int).fdiv (2^1)=_
 rw[Int.fdiv_eq_ediv_of_nonneg _ (by decide)]
 simp
theorem Kg{n:Nat}(h:n<18446744073709551616):IntKind.u64.wrap (n:Nat)=(n:Nat):=by
 show((n:Nat):Int).emod 18446744073709551616=_
 exact Int.emod_eq_of_lt (by omega) (by omega)
def Asc(who:List Int):Prop:=∀i j:Nat,i<j->j<who.length->at0 who i<at0 who j
theorem zC{l:List Int}{i:Nat}(h:i<l.length):at0 l i∈l:=by rw[bN h];exact ab1 h
theorem EI{l:List Int}{x:Int}(h:x∈l):∃i,i<l.length/\at0 l i=x:=by
 obtain⟨i,hi,rfl⟩:=agf h
 exact⟨i,hi,bN hi⟩
theorem Ha(h:ae)(x:AV)(who:List Int)(o:Int)(hx:IL x who)(hs:Asc who)(hl:who.length<=1000000):
 ∃r h',W2.call 198 [x,im o] h=some (r,h')/\h'=h/\∃i:Int,r=.ret (.tuple [im i,.v (.bool (who.contains o))]):=by
 obtain⟨k,s,rfl,hsz⟩:=hx
 have kk:=ah.mk (abp hsz hs)
 clear hsz hs
 have u23:=Tryz.underlying23
 have z3:=sz3
 have hil:=aU who
 have hn1:=fun n=>Pl n h
 unfold im at *
 refine aL rfl Tryz.func198 rfl ?_
 refine gx1 @xP ?_
 refine Run.gen fun e0 he0 hd0 hp0 hr0=>?_
 have f0:e0.get 0=.list k s (ints who):=by rw[he0];exact gS
 have f1:e0.get 1=.v (.int .i64 o):=by rw[he0];exact gS
 have f6:e0.get 6=.v (.int .i64 (who.length:Nat)):=by rw[he0];exact gS
 have f7:e0.get 7=.v (.int .i64 (0:Nat)):=by rw[he0];exact gR
 have f8:e0.get 8=.v (.int .i64 (who.length:Nat)):=by rw[he0];exact gS
 have fd:e0.defers=[]:=by rw[hd0];exact gS
 clear he0 hd0 hp0 hr0
 refine aD (fun m e H=>∃lo hi:Nat,lo<=hi/\hi<=who.length/\m=hi - lo/\ah ((∀j,j<lo->at0 who j<o)/\∀j,hi<=j->j<who.length->o<=at0 who j)/\e.get 0=.list k s (ints who)/\e.get 1=.v (.int .i64 o)/\e.get 6=.v (.int .i64 (who.length:Nat))/\e.get 7=.v (.int .i64 (lo:Nat))/\e.get 8=.v (.int .i64 (hi:Nat))/\e.defers=[]/\H=h) ?_ who.length _ _ ?_
 rotate_left 1
 ·exact⟨0,who.length,abG _,abq _,rfl,⟨fun j hj=>absurd hj (acH _),fun j h1 h2=>by omega⟩,f0,f1,f6,f7,f8,fd,rfl⟩
 clear f0 f1 f6 f7 f8 fd
 rintro m e H ⟨lo,hi,h1,h2,rfl,kI,g0,g1,g6,g7,g8,hd,rfl⟩
 by_cases hlt:lo<hi
 ·have hs1:s=1:=kk.out.1 (by intro q;rw[q,ab7] at h2;omega)
  subst hs1
  obtain⟨md,hmd⟩:∃md:Nat,(lo+hi)/2=md:=⟨_,rfl⟩
  have ld:=ldi (H:=H) (l:=who) (i:=md) (s:=1) (by omega)
  have ls:=MH (at0 who md) o H
  have hltI:(lo:Int)<(hi:Int):=by omega
  have hadd:(lo:Int)+(hi:Int)=((lo+hi:Nat):Int):=by omega
  have hw1:IntKind.u64.wrap ((lo+hi:Nat):Int)=((lo+hi:Nat):Int):=Kg (by omega)
  have hw2:IntKind.i64.wrap (((lo+hi)/2:Nat):Int)=((md:Nat):Int):=by rw[hmd];exact bT (by omega) (by omega)
  have hmlt:(md:Int)<(who.length:Int):=by omega
  unfold im at ls
  by_cases hc:at0 who md<o
  ·have hdc:decide (at0 who md<o)=true:=by simp[hc]
   rw[hdc] at ls
   have kI2:ah ((∀j,j<md+1->at0 who j<o)/\∀j,hi<=j->j<who.length->o<=at0 who j):=⟨fun j hj=>by
    rcases abL j md with q|q
    ·exact agV (kk.out.2 j md q (by omega)) hc
    ·rw[show j=md by omega];exact hc,kI.out.2⟩
   have khm:=ah.mk hmd
   clear hc hdc hmd
   refine gx5 @xP @al @gN @EH @Kf ?_
   have:=khm.out
   exact⟨hi - (md+1),by omega,md+1,hi,by omega,h2,rfl,kI2,trivial,trivial,trivial,by simp,rfl,trivial,trivial⟩
  ·have hdc:decide (at0 who md<o)=false:=by simp[hc]
   rw[hdc] at ls
   have kI2:ah ((∀j,j<lo->at0 who j<o)/\∀j,md<=j->j<who.length->o<=at0 who j):=⟨kI.out.1,fun j hj hj2=>by
    rcases abL md j with q|q
    ·have:=kk.out.2 md j q hj2
     omega
    ·rw[show j=md by omega];omega⟩
   have khm:=ah.mk hmd
   clear hc hdc hmd
   refine gx5 @xP @al @gN @EH @Kf ?_
   have:=khm.out
   exact⟨md - lo,by omega,lo,md,by omega,by omega,rfl,kI2,trivial,trivial,trivial,rfl,by simp,trivial,trivial⟩
 ·have hle:lo=hi:=by omega
  subst hle
  have hno:∀j,j<who.length->at0 who j=o->j=lo:=by
   intro j hj he
   rcases Nat.lt_trichotomy j lo with q|q|q
   ·have:=kI.out.1 j q;omega
   ·exact q
   ·have h3:=kk.out.2 lo j q hj
    have h4:=kI.out.2 lo (abq _) (by omega)
    omega
  by_cases hin:lo<who.length
  ·have hs1:s=1:=kk.out.1 (by intro q;rw[q,ab7] at hin;omega)
   subst hs1
   have ld:=ldi (H:=H) (l:=who) (i:=lo) (s:=1) hin
   have hltI:(lo:Int)<(who.length:Int):=by omega
   have hdI:decide ((lo:Int)<(who.length:Int))=true:=by simp[hin]
   by_cases hv:at0 who lo=o
   ·have hc:who.contains o=true:=by rw[ac5,decide_eq_true (by rw[<-hv];exact zC hin)]
    have kc:=ah.mk hc
    have hd1:decide (at0 who lo=o)=true:=by simp[hv]
    clear hc hv hno
    repeat' (first|simp(maxSteps:=999999)(disch:=first|exact dZ|fail)only[gW,reduceIte,abn,gBQ,xP,al, *]|refine dX ?_ ?_<;>(intro _;try omega))
    exact⟨_,_,rfl,rfl,_,by rw[kc.out]⟩
   ·have hc:who.contains o=false:=by
     rw[ac5,decide_eq_false]
     intro q
     obtain⟨j,j1,j2⟩:=EI q
     have:=hno j j1 j2
     subst this
     exact hv j2
    have kc:=ah.mk hc
    have hd1:decide (at0 who lo=o)=false:=by simp[hv]
    clear hc hv hno
    repeat' (first|simp(maxSteps:=999999)(disch:=first|exact dZ|fail)only[gW,reduceIte,abn,gBQ,xP,al, *]|refine dX ?_ ?_<;>(intro _;try omega))
    exact⟨_,_,rfl,rfl,_,by rw[kc.out]⟩
  ·have hc:who.contains o=false:=by
    rw[ac5,decide_eq_false]
    intro q
    obtain⟨j,j1,j2⟩:=EI q
    have:=hno j j1 j2
    omega
   have kc:=ah.mk hc
   have hle:lo=who.length:=by omega
   subst hle
   have hdI:decide ((who.length:Int)<(who.length:Int))=false:=by simp
   clear hc hno
   refine gx2 @xP @al ?_
   exact⟨_,_,rfl,rfl,_,by rw[kc.out]⟩
theorem RA:Tryz.f176.results.toList=[.tmp 4]:=kZq
theorem xQ:Tryz.f197.results.toList=[]:=kZq
theorem Pm(h:ae)(x y z:AV)(bx:(AV.agg [x,y]).aC=some [x,y])(hz:z.aC=some [z]):W2.call 176 [.agg [x,y],z] h=some (.ret (.func (.func 197) [] [.ptr (.box h.boxes.length) 0,.ptr (.box (h.boxes.length+1)) 0]),(h.push [x,y]).push [z]):=by
 refine ar rfl Tryz.func176 rfl ?_
 exact gz3 @RA @aw @az
theorem Kh(l pb wb:Nat)(k0:Tok)(s0:Nat)(xs:List AV)(y z:AV)(rows:List (List Int))(owners who:List Int)(Inv:Nat->ae->Prop)
 (hy:IL y owners) (hz:IL z who) (hxl:xs.length=rows.length) (hol:owners.length=rows.length) (hs0:rows≠[]->s0=1) (hasc:Asc who) (hwl:who.length<=1000000) (hrl:rows.length<=1000000)
 (h1:∀k H,Inv k H->H.boxes[pb]?=some [.list k0 s0 (xs.map fun a=>[a]),y]/\H.boxes[wb]?=some [z])
 (hR:∀k a H,k<rows.length->xs[k]?=some a->who.contains (at0 owners k)=true->Inv k H->∃H',W2.round l [im (k:Nat),a] H=some (.ret (.v (.bool true)),H')/\Inv (k+1) H')
 (hS:∀k H,k<rows.length->who.contains (at0 owners k)=false->Inv k H->Inv (k+1) H)
 (H0:ae) (h0:Inv 0 H0):∃H',W2.call 197 [.yield l,.ptr (.box pb) 0,.ptr (.box wb) 0] H0=some (.ret (.tuple []),H')/\Inv rows.length H':=by
 have kk:=ah.mk (abp h1 (abp hR (abp hS (abp h0 (abp hs0 (abp hasc hz))))))
 obtain⟨b1,b2⟩:=h1 0 H0 h0
 have l1:=tY b1
 obtain⟨ky,sy,rfl,hsy⟩:=hy
 have ksy:=ah.mk hsy
 clear h1 hR hS h0 hs0 hasc hz b1 b2 hsy
 have u23:=Tryz.underlying23
 have u22:=Tryz.underlying22
 have z3:=sz3
 have z23:=jC
 have hil:(xs.map fun a=>[a]).length=rows.length:=by rw[abu];exact hxl
 have hil2:(ints owners).length=rows.length:=by rw[aU];exact hol
 refine dL rfl Tryz.func197 rfl ?_
 refine gx3 @xQ @bH @cW ?_
 refine aD (fun m e H=>∃k:Nat,k<=rows.length/\m=rows.length - k/\ah (Inv k H)/\e.get 0=.yield l/\e.get 1=.ptr (.box pb) 0/\e.get 2=.ptr (.box wb) 0/\e.get 9=.list k0 s0 (xs.map fun a=>[a])/\e.get 10=.v (.int .i64 (rows.length:Nat))/\e.get 11=.v (.int .i64 (k:Nat))/\e.defers=[]) ?_ rows.length _ _ ?_
 rotate_left 1
 ·refine⟨0,abG _,rfl,⟨kk.out.2.2.2.1⟩,?_,?_,?_,?_,?_,?_,?_⟩<;>exact gR
 clear l1
 rintro m e H ⟨k,hk,rfl,kI,g0,g1,g2,g9,g10,g11,hd⟩
 by_cases hlt:k<rows.length
 rotate_left 1
 ·have:k=rows.length:=by omega
  subst this
  repeat' (first|simp(maxSteps:=999999)(disch:=first|exact dZ|fail)only[gW,reduceIte,abn,gBQ,xQ, *]|refine dX ?_ ?_<;>(intro _;try omega))
  exact⟨_,rfl,kI.out⟩
 obtain⟨b1,b2⟩:=kk.out.1 k H kI.out
 have hs1:s0=1:=kk.out.2.2.2.2.1 (by intro q;rw[q,ab7] at hlt;omega)
 subst hs1
 have hs2:sy=1:=ksy.out (by intro q;rw[q,ab7] at hol;omega)
 subst hs2
 obtain⟨a,ha⟩:∃a,xs[k]?=some a:=⟨_,abo (by omega)⟩
 have ld:=ldr (H:=H) (s:=1) ha
 have lo:=ldi (H:=H) (l:=owners) (i:=k) (s:=1) (by omega)
 have l1:=MG b1
 have l2:=vD b2
 obtain⟨_,H2,cs,e2,i,rfl⟩:=Ha H z who (at0 owners k) kk.out.2.2.2.2.2.2 kk.out.2.2.2.2.2.1 hwl
 rw[e2] at cs
 clear e2 b1 b2
 have hltI:(k:Int)<(rows.length:Int):=by omega
 cases hc:who.contains (at0 owners k) with
 |true=>
  obtain⟨H',r1,r2⟩:=kk.out.2.1 k a H hlt ha hc kI.out
  rw[hc] at cs
  have kI2:=ah.mk r2
  clear r2 ha hc kI
  unfold im at *
  refine gx4 @xQ @bH @cW @al ?_
  refine bf tH kZq ?_
  refine gx5 @xQ @bH @cW @al @gY ?_
  exact⟨rows.length - (k+1),by omega,k+1,by omega,rfl,kI2,by simp⟩
 |false=>
  have kI2:=ah.mk (kk.out.2.2.1 k H hlt hc kI.out)
  rw[hc] at cs
  clear ha hc kI
  unfold im at *
  refine gx4 @xQ @bH @cW @al ?_
  refine bf tH kZq ?_
  refine gx5 @xQ @bH @cW @al @gY ?_
  exact⟨rows.length - (k+1),by omega,k+1,by omega,rfl,kI2,by simp⟩
structure Two(h H:ae)(t1 t2:Tok):Prop where
 c1:bG h.tn H t1
 c2:bG h.tn H t2
 ne:∀a,t1=.free a->t2≠ .free a
 ok:aZ H=true
 ext:Ext h H
theorem xR{n0:Nat}{H:ae}{t k:Tok}(hk:bG n0 H k)(hne:∀a,t=.free a->k≠ .free a):bG n0 (H.app t) k:=by
 rcases hk with q|q|⟨m,rfl,q1,q2⟩
 ·exact .inl q
 ·exact .inr (.inl q)
 ·refine .inr (.inr ⟨m,rfl,q1,?_⟩)
  have hlt:=gG q2
  unfold alive at *
  simp only[abr,ac0,ac5,decide_eq_false_iff_not,decide_eq_true_eq] at *
  refine⟨by rw[uY];omega,?_⟩
  cases t with
  |free a=>
   intro hm
   rcases acd.1 hm with e|e
   ·exact hne a rfl (by rw[e])
   ·exact q2.2 e
  |_=>exact q2.2
theorem Two.app{h H:ae}{t1 t2:Tok}(w:Two h H t1 t2):bG h.tn (H.app t1) t2/\Two h ((H.app t1).app t2) (.free H.tn) (.free (H.app t1).tn):=by
 have hn:=w.ext.tn
 have g1:=Grown.one (n0:=h.tn) w.c1 w.ok hn
 have c2:=xR w.c2 w.ne
 have g2:=Grown.one (n0:=h.tn) c2 g1.ok (abT hn g1.tn)
 refine⟨c2,?_,g2.can,?_,g2.ok,g2.ext (g1.ext w.ext (abq _)) (abq _)⟩
 ·refine xR g1.can fun a ha he=>?_
  injection he with he
  subst he
  rcases c2 with q|q|⟨m,q,-,q2⟩
  ·rw[q] at ha;cases ha
  ·rw[q] at ha;cases ha
  ·rw[q] at ha
   injection ha with ha
   subst ha
   rcases w.c2 with z|z|⟨m2,z,-,z2⟩
   ·rw[z] at q;cases q
   ·rw[z] at q;cases q
   ·rw[z] at q
    injection q with q
    have:=gG z2
    omega
 ·intro a ha he
  injection ha with ha
  injection he with he
  rw[uY] at he
  omega
theorem Two.put{h H:ae}{t1 t2:Tok}(w:Two h H t1 t2){b:Nat}(hb:h.boxes.length<=b)(cs:List AV):Two h (H.put b cs) t1 t2:=⟨w.c1,w.c2,w.ne,w.ok,w.ext.bZ hb cs⟩
theorem qb:Tryz.f143.results.toList=[.cell 4 22,.cell 5 23,.tmp 6,.tmp 7]:=kZq
theorem S3:(ej Tryz.prog 22).bind AV.aC=some [.list .nil 0 []]:=kZq
theorem S4:(ej Tryz.prog 23).bind AV.aC=some [.list .nil 0 []]:=kZq
theorem S5:bF Tryz.prog 22=some 1:=kZq
theorem S6{H:ae}{k:Tok}{n0 sz:Nat}{es:List AV}{x:AV}(hl:es.length<1000000)(hs:sz=1∨(es=[]/\k=.nil))(hk:bG n0 H k):
 bP Tryz.prog H #[22,22] (.list k sz (es.map fun a=>[a])) (.list .tight 1 [[x]])=some (.list (.free H.tn) 1 ((es++[x]).map fun a=>[a]),H.app k):=by
 obtain⟨i,q1,q2,q3,q4⟩:=Rm
 have hb:=acP (show es.length+1<=1000000 by omega) q3
 have:=lI (t0:=22) (t1:=22) (n0:=n0) (i:=i) (sz:=sz) (es:=es.map fun a=>[a]) (new:=[[x]]) (x:=.list .tight 1 [[x]]) Tryz.underlying22 (.inl ⟨_,Tryz.underlying22⟩) q1 (by omega) (by rw[q2];exact q4) (by rw[q2];rfl) (by simp)
  (by simp only[abu,ab0,ab7,acB];omega) (by simp only[abu,ab0,ab7];omega) (hs.imp (fun q=>q.trans q2.symm) fun q=>⟨by rw[q.1];rfl,q.2⟩) hk
 rw[q2] at this
 rw[acv]
 exact this
def fy(xs:List AV)(owners who:List Int)(k:Nat):List AV:=((aby k).filter fun i=>who.contains (at0 owners i)).map fun i=>xs.getD i default
def fb(owners who:List Int)(k:Nat):List Nat:=(aby k).filter fun i=>who.contains (at0 owners i)
theorem Hc{owners who:List Int}{k:Nat}(h:who.contains (at0 owners k)=true):fb owners who (k+1)=fb owners who k++[k]:=by
 unfold fb;rw[acx,ady,aej,if_pos h];rfl
theorem Ki{owners who:List Int}{k:Nat}(h:who.contains (at0 owners k)=false):fb owners who (k+1)=fb owners who k:=by
 unfold fb;rw[acx,ady,aej,if_neg (by rw[h];simp)];simp
theorem Hd{xs:List AV}{owners who:List Int}{k:Nat}{a:AV}(h:who.contains (at0 owners k)=true)(ha:xs[k]?=some a):fy xs owners who (k+1)=fy xs owners who k++[a]:=by
 have e:xs.getD k default=a:=by rw[abw,ha];rfl
 unfold fy;rw[acx,ady,aej,if_pos h,List.filter_nil,acv,abK,List.map_nil,e]
theorem Kj{xs:List AV}{owners who:List Int}{k:Nat}(h:who.contains (at0 owners k)=false):fy xs owners who (k+1)=fy xs owners who k:=by
 unfold fy;rw[acx,ady,aej,if_neg (by rw[h];simp)];simp
theorem He{xs:List AV}{owners who:List Int}{k:Nat}:(fy xs owners who k).length<=k:=by
 unfold fy
 rw[abu]
 exact abT (adN _ _) (by simp)
theorem vI:∀(who:List Int) (last:Int),cS last who=true->(∀i,i<who.length->last<at0 who i)/\Asc who:=by
 intro who
 induction who with
 |nil=>exact fun _ _=>⟨fun i hi=>absurd hi (acH _),fun i j _ hj=>absurd hj (acH _)⟩
 |cons n l ih=>
  intro last h
  unfold cS at h
  simp only[abr,decide_eq_true_eq] at h
  obtain⟨i1,i2⟩:=ih n h.2
  refine⟨fun i hi=>?_,fun i j hij hj=>?_⟩
  ·cases i with
   |zero=>exact h.1.1
   |succ i=>exact agV h.1.1 (i1 i (by simpa using hi))
  ·cases j with
   |zero=>omega
   |succ j=>
    cases i with
    |zero=>exact i1 j (by simpa using hj)
    |succ i=>exact i2 i j (by omega) (by simpa using hj)
theorem EJ{H:ae}{b:Nat}{x:AV}(hb:H.boxes[b]?=some [x]):ai Tryz.prog Gt H 22 (.ptr (.box b) 0)=some x:=by rw[dc Pk hb];rfl
theorem Kk{H:ae}{b:Nat}{x:AV}{k:Tok}{s:Nat}{es:List (List AV)}(hb:H.boxes[b]?=some [x]):aA Tryz.prog H 22 (.ptr (.box b) 0) (.list k s es)=some (H.put b [.list k s es]):=aW (off:=0) (cs:=[x]) (xs:=[.list k s es]) rfl S5 hb rfl (abq 1)
theorem EK{H:ae}{b:Nat}{x:AV}{k:Tok}{s:Nat}{es:List (List AV)}(hb:H.boxes[b]?=some [x]):aA Tryz.prog H 23 (.ptr (.box b) 0) (.list k s es)=some (H.put b [.list k s es]):=aW (off:=0) (cs:=[x]) (xs:=[.list k s es]) rfl jC hb rfl (abq 1)
theorem S7:bF Tryz.prog 25=some 2:=kZq
theorem ma{H:ae}{b:Nat}{x y:AV}(hb:H.boxes[b]?=some [x,y]):ai Tryz.prog Gt H 25 (.ptr (.box b) 0)=some (.agg [x,y]):=by
 rw[cP G9 S7 hb (abq 2)];rfl
theorem MI{who:List Int}(h:Asc who)(h0:∀i,i<who.length-> -1<at0 who i):∀i:Nat,i<who.length->(i:Int)<=at0 who i:=by
 intro i
 induction i with
 |zero=>intro hi;have:=h0 0 hi;omega
 |succ i ih=>
  intro hi
  have h1:=ih (by omega)
  have h2:=h i (i+1) (by omega) hi
  omega
theorem Bv:∀(who:List Int) (last:Int),cS last who=true->∀i,i<who.length->at0 who i<=63:=by
 intro who
 induction who with
 |nil=>exact fun _ _ i hi=>absurd hi (acH _)
 |cons n l ih=>
  intro last h i hi
  unfold cS at h
  simp only[abr,decide_eq_true_eq] at h
  cases i with
  |zero=>exact h.1.2
  |succ i=>exact ih n h.2 i (by simpa using hi)
theorem MJ{who:List Int}(h:cS (-1) who=true):who.length<=64:=by
 obtain⟨h1,h2⟩:=vI who (-1) h
 rcases abL 64 who.length with q|q
 ·have h3:=MI h2 h1 64 q
  have h4:=Bv who (-1) h 64 q
  omega
 ·exact q
theorem sO(k:Tok)(s:Nat)(l:List Int):cB (.list k s (ints l)) (.list k s (ints l))=true:=by
 have h:eT (ints l) (ints l)=true:=by
  induction l with
  |nil=>simp[ints,eT]
  |cons n l ih=>
   have:ints (n::l)=[.v (.int .i64 n)]::ints l:=rfl
   rw[this]
   simp[eT,kL,cB,gB,ih]
 rw[cB,h,Bool.and_true]
 cases k<;>simp[lY]
theorem Bw{H:ae}{l:Nat}{r:bE}{t:Tok}:(H.busy l r).app t=(H.app t).busy l r:=by cases t<;>rfl
theorem Kl{H:ae}{l:Nat}{r:bE}{t1 t2:Tok}{b1 b2:Nat}{c1 c2:List AV}:({boxes:=(((((H.busy l r).app t1).app t2).put b1 c1).put b2 c2).boxes,loops:=H.loops,tn:=(((((H.busy l r).app t1).app t2).put b1 c1).put b2 c2).tn,dead:=(((((H.busy l r).app t1).app t2).put b1 c1).put b2 c2).dead}:ae)=(((H.app t1).app t2).put b1 c1).put b2 c2:=by cases t1<;>cases t2<;>rfl
def MK(h:ae)(L:List bE)(b1 b2 b3 b4 b5:Nat)(ta xy zz:List AV)(xs:List AV)(owners who:List Int)(k:Nat)(H:ae):Prop:=
 ∃t1 s1 t2 s2,H.loops=L/\H.boxes[b1]?=some [.list t1 s1 ((fy xs owners who k).map fun a=>[a])]/\H.boxes[b2]?=some [.list t2 s2 (ints (pvI (fb owners who k)))]/\(s1=1∨(fy xs owners who k=[]/\t1=.nil))/\(s2=1∨(pvI (fb owners who k)=[]/\t2=.nil))/\Two h H t1 t2/\H.boxes[b3]?=some ta/\H.boxes[b4]?=some xy/\H.boxes[b5]?=some zz
theorem Km(l:List Nat)(k:Nat):pvI (l++[k])=pvI l++[(k:Int)]:=by unfold pvI;simp
theorem Hg{owners who:List Int}{k:Nat}:(pvI (fb owners who k)).length<=k:=by
 unfold pvI fb
 rw[abu]
 exact abT (adN _ _) (by simp)
def NO(xs:List AV)(rows:List (List Int))(owners who:List Int)(h:ae)(r:Res)(h':ae):Prop:=
 Ext h h'/\if bC rows owners≠0 then r=.ret (.tuple [.list .nil 0 [],.list .nil 0 [],.list .nil 0 [],.v (.int .i64 (bC rows owners))])
  else if cS (-1) who=false then r=.ret (.tuple [.list .nil 0 [],.list .nil 0 [],.list .nil 0 [],.v (.int .i64 1)])
  else ∃k1 s1 k2 s2 tb,r=.ret (.tuple [.list k1 s1 ((fy xs owners who rows.length).map fun a=>[a]),.list k2 s2 (ints (pvI (fb owners who rows.length))),.arr tb 0 (aK rows) (aK rows),.v (.int .i64 0)])/\(s1=1∨(fy xs owners who rows.length=[]/\k1=.nil))/\(s2=1∨(pvI (fb owners who rows.length)=[]/\k2=.nil))/\h'.boxes[tb]?=some ((ct (aK rows)).map im)
theorem Bx(h:ae)(k0:Tok)(s0:Nat)(xs:List AV)(y z:AV)(rows:List (List Int))(owners who:List Int)(hx:RL (.list k0 s0 (xs.map fun a=>[a])) rows)(hxl:xs.length=rows.length)(hy:IL y owners)(hz:IL z who)(hwl:who.length<=1099511627776)(ho:aZ h=true):
 ∃r h',W2.call 143 [.agg [.list k0 s0 (xs.map fun a=>[a]),y],z] h=some (r,h')/\NO xs rows owners who h r h':=by
 obtain⟨H1,c97,e1⟩:=EG (((h.push [.list k0 s0 (xs.map fun a=>[a]),y]).push [.list .nil 0 []]).push [.list .nil 0 []]) _ y rows owners hx hy
 have kyz:=ah.mk (abp hx (abp hy (abp hz ho)))
 have bx:(AV.agg [.list k0 s0 (xs.map fun a=>[a]),y]).aC=some [.list k0 s0 (xs.map fun a=>[a]),y]:=by
  obtain⟨ky,sy,rfl,-⟩:=hy;rfl
 have X1:Ext h H1:=by rw[e1];exact(((Ext.push _ _).trans (.push _ _)).trans (.push _ _)).trans (.push _ _)
 have p0:H1.boxes[h.boxes.length]?=some [.list k0 s0 (xs.map fun a=>[a]),y]:=by rw[e1];exact aj (aj (aj (ak _ _)))
 have p1:H1.boxes[h.boxes.length+1]?=some [.list .nil 0 []]:=by rw[e1];exact aj (aj (cD (by rw[az])))
 have p2:H1.boxes[h.boxes.length+1+1]?=some [.list .nil 0 []]:=by rw[e1];exact aj (cD (by rw[az,az]))
 have hH1:H1.boxes.length=h.boxes.length+4:=by rw[e1];simp only[az]
 have ok1:aZ H1=true:=X1.ok ho
 have l0:ai Tryz.prog Gt (((h.push [.list k0 s0 (xs.map fun a=>[a]),y]).push [.list .nil 0 []]).push [.list .nil 0 []]) 25 (.ptr (.box h.boxes.length) 0)=some (.agg [.list k0 s0 (xs.map fun a=>[a]),y]):=ma (aj (aj (ak _ _)))
 have tn1:H1.tn=h.tn:=by rw[e1];rfl
 have kX:=ah.mk (abp X1 (abp ok1 (abp hH1 tn1)))
 have z22:=S3
 have z23:=S4
 have kp:=ah.mk (abp p0 (abp p1 p2))
 have s4:=fun(k:Tok) s es=>Kk (k:=k) (s:=s) (es:=es) p1
 have hlt1:=(abm.1 p1).1
 have hlt2:=(abm.1 p2).1
 clear e1 X1 p0 hH1 ok1 tn1 hx hy ho
 unfold NO
 refine aL rfl Tryz.func143 rfl ?_
 generalize hpe:bC rows owners=pe at *
 by_cases hz0:pe=0
 rotate_left 1
 ·have s5:aA Tryz.prog (H1.put (h.boxes.length+1) [.list .nil 0 []]) 23 (.ptr (.box (h.boxes.length+1+1)) 0) (.list .nil 0 [])=some ((H1.put (h.boxes.length+1) [.list .nil 0 []]).put (h.boxes.length+1+1) [.list .nil 0 []]):=EK (by rw[av (by omega)];exact p2)
  have m1:ai Tryz.prog Gt ((H1.put (h.boxes.length+1) [.list .nil 0 []]).put (h.boxes.length+1+1) [.list .nil 0 []]) 22 (.ptr (.box (h.boxes.length+1)) 0)=some (.list .nil 0 []):=EJ (by rw[av (by omega)];exact aS hlt1)
  have m2:ai Tryz.prog Gt ((H1.put (h.boxes.length+1) [.list .nil 0 []]).put (h.boxes.length+1+1) [.list .nil 0 []]) 23 (.ptr (.box (h.boxes.length+1+1)) 0)=some (.list .nil 0 []):=vD (aS (by rw[dU];exact hlt2))
  have hdz:decide (pe=0)=false:=by simp[hz0]
  clear p1 p2 hz hlt1 hlt2
  refine gx3 @qb @aw @az ?_
  exact⟨_,_,rfl,(kX.out.1.bZ (by omega) _).bZ (by omega) _,by rw[if_pos hz0]⟩
 ·subst hz0
  obtain⟨kz,sz,rfl,hsz⟩:=kyz.out.2.2.1
  have ksz:=ah.mk hsz
  clear hsz hz
  have u23:=Tryz.underlying23
  have z3':=sz3
  have hwl2:=aU who
  have kpe:=ah.mk hpe
  clear hpe
  refine gx3 @qb @aw @az ?_
  refine Run.gen fun e0 he0 hd0 hp0 hr0=>?_
  have f1:e0.get 1=.list kz sz (ints who):=by rw[he0];exact gS
  have f2:e0.get 2=.ptr (.box h.boxes.length) 0:=by rw[he0];exact gS
  have f4:e0.get 4=.ptr (.box (h.boxes.length+1)) 0:=by rw[he0];simp only[gW,reduceIte,abn,gBQ,az]
  have f5:e0.get 5=.ptr (.box (h.boxes.length+1+1)) 0:=by rw[he0];simp only[gW,reduceIte,abn,gBQ,az]
  have f8:e0.get 8=.v (.int .i64 (-1)):=by rw[he0];exact gS
  have f19:e0.get 19=.list kz sz (ints who):=by rw[he0];exact gS
  have f20:e0.get 20=.v (.int .i64 (who.length:Nat)):=by rw[he0];exact gS
  have f21:e0.get 21=.v (.int .i64 (0:Nat)):=by rw[he0];exact gR
  have fd:e0.defers=[]:=by rw[hd0];exact gS
  clear he0 hd0 hp0 hr0 l0 c97
  refine aD (fun m e H=>∃(i:Nat) (last:Int),i<=who.length/\m=who.length - i/\ -1<=last/\ah (cS last (who.drop i)=cS (-1) who)/\e.get 1=.list kz sz (ints who)/\e.get 2=.ptr (.box h.boxes.length) 0/\e.get 4=.ptr (.box (h.boxes.length+1)) 0/\e.get 5=.ptr (.box (h.boxes.length+1+1)) 0/\e.get 8=.v (.int .i64 last)/\e.get 19=.list kz sz (ints who)/\e.get 20=.v (.int .i64 (who.length:Nat))/\e.get 21=.v (.int .i64 (i:Nat))/\e.defers=[]/\H=H1) ?_ who.length _ _ ?_
  rotate_left 1
  ·exact⟨0,-1,abG _,rfl,afy _,⟨rfl⟩,f1,f2,f4,f5,f8,f19,f20,f21,fd,rfl⟩
  clear f1 f2 f4 f5 f8 f19 f20 f21 fd
  rintro m e H1 ⟨i,last,hi,rfl,hla,kP,g1,g2,g4,g5,g8,g19,g20,g21,hd,rfl⟩
  by_cases hlt:i<who.length
  ·have hs1:sz=1:=ksz.out (by intro q;rw[q,ab7] at hlt;omega)
   subst hs1
   have ld:=ldi (H:=H1) (l:=who) (s:=1) hlt
   have cp:=xO (at0 who i) H1
   have hltI:(i:Int)<(who.length:Int):=by omega
   have hdrop:who.drop i=at0 who i::who.drop (i+1):=by rw[bN hlt];exact List.drop_eq_getElem_cons hlt
   have hpf:=kP.out
   rw[hdrop,cS] at hpf
   have s5:aA Tryz.prog (H1.put (h.boxes.length+1) [.list .nil 0 []]) 23 (.ptr (.box (h.boxes.length+1+1)) 0) (.list .nil 0 [])=some ((H1.put (h.boxes.length+1) [.list .nil 0 []]).put (h.boxes.length+1+1) [.list .nil 0 []]):=EK (by rw[av (by omega)];exact p2)
   have m1:ai Tryz.prog Gt ((H1.put (h.boxes.length+1) [.list .nil 0 []]).put (h.boxes.length+1+1) [.list .nil 0 []]) 22 (.ptr (.box (h.boxes.length+1)) 0)=some (.list .nil 0 []):=EJ (by rw[av (by omega)];exact aS hlt1)
   have m2:ai Tryz.prog Gt ((H1.put (h.boxes.length+1) [.list .nil 0 []]).put (h.boxes.length+1+1) [.list .nil 0 []]) 23 (.ptr (.box (h.boxes.length+1+1)) 0)=some (.list .nil 0 []):=vD (aS (by rw[dU];exact hlt2))
   unfold im iR at *
   generalize at0 who i=n at *
   by_cases h1:0<=n/\n<=63
   ·have hd1:(decide (0<=n)&&decide (n<=63))=true:=by simp[h1.1,h1.2]
    rw[hd1] at cp
    by_cases h2:n<=last
    ·have hd2:decide (n<=last)=true:=by simp[h2]
     have hf:cS (-1) who=false:=by rw[<-hpf];simp;omega
     have kf:=ah.mk hf
     clear hpf hf hdrop p1 p2 h2 h1 kP
     refine gx2 @qb @al ?_
     exact⟨_,_,rfl,(kX.out.1.bZ (by omega) _).bZ (by omega) _,by rw[if_neg (by simp[kpe.out]),if_pos kf.out]⟩
    ·have hd2:decide (n<=last)=false:=by simp;omega
     have kP2:ah (cS n (who.drop (i+1))=cS (-1) who):=⟨by
      rw[<-hpf,decide_eq_true (show last<n by omega),decide_eq_true h1.2];rfl⟩
     have h3: -1<=n:=by omega
     clear hpf hdrop p1 p2 h2 h1 kP s4 s5 m1 m2
     refine gx2 @qb @al ?_
     exact⟨who.length - (i+1),by omega,i+1,n,by omega,rfl,h3,kP2,by simp⟩
   ·have hd1:(decide (0<=n)&&decide (n<=63))=false:=by
     simp only[af5,decide_eq_false_iff_not];omega
    rw[hd1] at cp
    have hf:cS (-1) who=false:=by
     rw[<-hpf]
     simp only[af5,decide_eq_false_iff_not];omega
    have kf:=ah.mk hf
    clear hpf hf hdrop p1 p2 h1 kP
    refine gx2 @qb @al ?_
    exact⟨_,_,rfl,(kX.out.1.bZ (by omega) _).bZ (by omega) _,by rw[if_neg (by simp[kpe.out]),if_pos kf.out]⟩
  ·have hie:i=who.length:=by omega
   subst hie
   have hf:cS (-1) who=true:=by
    rw[<-kP.out,List.drop_of_length_le (abq _)];rfl
   have kf:=ah.mk hf
   clear hf kP
   obtain⟨o1,o2,o3,o4⟩:=fk kpe.out
   obtain⟨n1,n2⟩:=fI kpe.out
   have hasc:=(vI who (-1) kf.out).2
   have hwl64:=MJ kf.out
   have ko:=ah.mk (abp o3 hasc)
   have hRL:(rows≠[]->s0=1)/\∀(i:Nat) (a:AV) (r:List Int),xs[i]?=some a->rows[i]?=some r->IL a r:=by
    obtain⟨k',s',xs',he,hs',-,hh⟩:=kyz.out.1
    injection he with _ hse he
    have:=(aeW (fun x y h=>by injection h)).1 he
    subst this
    subst hse
    exact⟨hs',hh⟩
   have kRL:=ah.mk hRL
   have ko1:=ah.mk o1
   have l22:ai Tryz.prog Gt H1 22 (.ptr (.box h.boxes.length) 0)=some (.list k0 s0 (xs.map fun a=>[a])):=tY kp.out.1
   have u22:=Tryz.underlying22
   have hil:(xs.map fun a=>[a]).length=rows.length:=by rw[abu];exact hxl
   have mk:=Pf H1 (aK rows) (by omega) .i64 .i64
   have hrep:abt (aK rows) (im 0)=(abt (aK rows) (0:Int)).map im:=by rw[aev]
   rw[hrep] at mk
   have sk:=J3 (H:=H1.push ((abt (aK rows) (0:Int)).map im)) (b:=H1.boxes.length) (r:=abt (aK rows) (0:Int)) (k:=0) (x:=1) (ak _ _) (by rw[ack];exact n1)
   have htg:(abt (aK rows) (0:Int)).set 0 1=ct (aK rows):=by
    obtain⟨c,hc⟩:∃c,aK rows=c+1:=⟨aK rows - 1,by omega⟩
    rw[hc];unfold ct;rw[adl];rfl
   rw[gg,htg] at sk
   have ix:ay Tryz.prog 23 (.arr H1.boxes.length 0 (aK rows) (aK rows)) (.v (.int .i64 0))=some (.ptr (.box H1.boxes.length) 0):=vE (n:=0) (k:=.i64) n1
   have l25:ai Tryz.prog Gt (H1.push ((ct (aK rows)).map im)) 25 (.ptr (.box h.boxes.length) 0)=some (.agg [.list k0 s0 (xs.map fun a=>[a]),y]):=ma (aj kp.out.1)
   have ow:=Pm (H1.push ((ct (aK rows)).map im)) (.list k0 s0 (xs.map fun a=>[a])) y (.list kz sz (ints who)) bx rfl
   have kmk:=ah.mk (abp p1 p2)
   have hcz:((0:Nat):Int)=0:=rfl
   clear htg hrep hasc o3 o4 o1 hRL p1 p2 s4 hlt1 hlt2
   unfold im at *
   have hcols:(rows.length=0->aK rows=1)/\∀r0,rows[0]?=some r0->r0.length=aK rows:=by
    refine⟨fun q=>by unfold aK;rw[if_pos q],fun r0 q=>?_⟩
    exact(ko.out.1 r0 (abz q)).1
   have kcols:=ah.mk hcols
   clear hcols
   generalize aK rows=cw at *
   have two:rows.length=0∨0<rows.length:=by omega
   rcases two with hr0|hr0
   case' inl=>
    have hc1:=kcols.out.1 hr0
    have hdr:¬((0:Int)<(rows.length:Int)):=by omega
    have mk':eU Tryz.prog H1 23 (.v (.int .i64 1)) (.v (.int .i64 1))=some (.arr H1.boxes.length 0 cw cw,H1.push ((abt cw (0:Int)).map fun n=>.v (.int .i64 n))):=by
     have:=mk
     rw[show((cw:Nat):Int)=1 by omega] at this
     exact this
    clear hr0 mk hc1
    repeat' (first|simp(maxSteps:=999999)(disch:=first|exact dZ|fail)only[gW,reduceIte,abn,gBQ,qb,bH,cW,al, *]|refine dX ?_ ?_<;>(intro _;try omega))
   case' inr=>
    obtain⟨a0,hav0⟩:∃a,xs[0]?=some a:=⟨_,abo (by omega)⟩
    obtain⟨r0,hv0⟩:∃r,rows[0]?=some r:=⟨_,abo (by omega)⟩
    have hs1:s0=1:=kRL.out.1 (by intro q;rw[q,ab7] at hr0;omega)
    have ixr:ay Tryz.prog 22 (.list k0 s0 (xs.map fun a=>[a])) (.v (.int .i64 0))=some (.elem 1 (xs.map fun a=>[a]) 0 0):=by
     rw[hs1];exact al u22 jC (afy _) (by rw[hil];omega)
    clear hs1
    have ld0:=ldr (H:=H1) (s:=1) hav0
    obtain⟨ka0,sa0,rfl,-⟩:=kRL.out.2 0 a0 r0 hav0 hv0
    have hrl:(ints r0).length=cw:=by rw[aU];exact kcols.out.2 r0 hv0
    have hdr:(0:Int)<(rows.length:Int):=by omega
    have z0:(0:Int).toNat=0:=rfl
    have z23':=jC
    clear hav0 hv0
    repeat' (first|simp(maxSteps:=999999)(disch:=first|exact dZ|fail)only[gW,reduceIte,abn,gBQ,qb,bH,cW,al, *]|refine dX ?_ ?_<;>(intro _;try omega))
   all_goals
    refine Run.gen fun e4 he4 hd4 hp4 hr4=>?_
    have f4:e4.get 4=.ptr (.box (h.boxes.length+1)) 0:=by rw[he4];simp only[gW,reduceIte,abn,gBQ];exact g4
    have f5:e4.get 5=.ptr (.box (h.boxes.length+1+1)) 0:=by rw[he4];simp only[gW,reduceIte,abn,gBQ];exact g5
    have f6:e4.get 6=.arr H1.boxes.length 0 cw cw:=by rw[he4];exact gS
    have f50:e4.get 50=.func (.func 197) [] [.ptr (.box (H1.push ((ct cw).map fun n=>.v (.int .i64 n))).boxes.length) 0,.ptr (.box ((H1.push ((ct cw).map fun n=>.v (.int .i64 n))).boxes.length+1)) 0]:=by rw[he4];exact gS
    have fd:e4.defers=[]:=by rw[hd4];simp only[gW,reduceIte,abn,gBQ];exact hd
    clear he4 hd4 hp4 hr4 g1 g2 g4 g5 g8 g19 g20 g21 hd
    refine kD (by rw[lv];exact f50) fun rec w1 w2 w3 w4 w5 w6=>?_
    obtain⟨x1,ok1,hH1,tn1⟩:=kX.out
    obtain⟨p0,p1,p2⟩:=kp.out
    have X3:Ext h (((H1.push ((ct cw).map im)).push [.list k0 s0 (xs.map fun a=>[a]),y]).push [.list kz sz (ints who)]):=((x1.trans (.push _ _)).trans (.push _ _)).trans (.push _ _)
    have b0:(((H1.push ((ct cw).map im)).push [.list k0 s0 (xs.map fun a=>[a]),y]).push [.list kz sz (ints who)]).boxes[H1.boxes.length]?=some ((ct cw).map im):=aj (aj (ak _ _))
    have b1:(((H1.push ((ct cw).map im)).push [.list k0 s0 (xs.map fun a=>[a]),y]).push [.list kz sz (ints who)]).boxes[h.boxes.length+1]?=some [.list .nil 0 []]:=aj (aj (aj p1))
    have b2:(((H1.push ((ct cw).map im)).push [.list k0 s0 (xs.map fun a=>[a]),y]).push [.list kz sz (ints who)]).boxes[h.boxes.length+1+1]?=some [.list .nil 0 []]:=aj (aj (aj p2))
    have b3:(((H1.push ((ct cw).map im)).push [.list k0 s0 (xs.map fun a=>[a]),y]).push [.list kz sz (ints who)]).boxes[H1.boxes.length+1]?=some [.list k0 s0 (xs.map fun a=>[a]),y]:=aj (cD (by rw[az]))
    have b4:(((H1.push ((ct cw).map im)).push [.list k0 s0 (xs.map fun a=>[a]),y]).push [.list kz sz (ints who)]).boxes[H1.boxes.length+1+1]?=some [.list kz sz (ints who)]:=cD (by rw[az,az])
    have ok3:aZ (((H1.push ((ct cw).map im)).push [.list k0 s0 (xs.map fun a=>[a]),y]).push [.list kz sz (ints who)])=true:=ok1
    have hll:(((H1.push ((ct cw).map im)).push [.list k0 s0 (xs.map fun a=>[a]),y]).push [.list kz sz (ints who)]).loops.length=H1.loops.length:=rfl
    have hLh:h.loops.length<=H1.loops.length:=x1.IV
    rw[az] at f50
    unfold im at *
    rw[az]
    generalize ((H1.push ((ct cw).map fun n=>AV.v (.int .i64 n))).push [.list k0 s0 (xs.map fun a=>[a]),y]).push [.list kz sz (ints who)]=H3 at *
    have hb12:h.boxes.length+1<H3.boxes.length:=(abm.1 b1).1
    have hb22:h.boxes.length+1+1<H3.boxes.length:=(abm.1 b2).1
    have hlr:(H3.loop rec).loops[H1.loops.length]?=some rec:=by rw[<-hll];exact @kC H3 rec
    have feed:=Kh H1.loops.length (H1.boxes.length+1) (H1.boxes.length+1+1) k0 s0 xs y (.list kz sz (ints who)) rows owners who
     (MK h (H3.loop rec).loops (h.boxes.length+1) (h.boxes.length+1+1) H1.boxes.length (H1.boxes.length+1) (H1.boxes.length+1+1) ((ct cw).map fun n=>.v (.int .i64 n)) [.list k0 s0 (xs.map fun a=>[a]),y] [.list kz sz (ints who)] xs owners who)
     kyz.out.2.1 kyz.out.2.2.1 hxl ko1.out.symm kRL.out.1 ko.out.2 (by omega) (by omega)
     (fun k H q=>by obtain⟨_,_,_,_,_,_,_,_,_,_,_,q1,q2⟩:=q;exact⟨q1,q2⟩)
     ?_
     (fun k H _ hc q=>by
      unfold MK at *
      rw[Kj hc,Ki hc];exact q)
     (H3.loop rec) ⟨.nil,0,.nil,0,rfl,b1,b2,.inr ⟨rfl,rfl⟩,.inr ⟨rfl,rfl⟩,⟨.inl rfl,.inl rfl,fun a q=>(nomatch q),ok3,X3.trans ((Fr.lD (bn:=H3.boxes.length) (l0:=H3.loops.length) (n0:=H3.tn) H3 rec).ext (abq _) (abq _) (abq _))⟩,b0,b3,b4⟩
    rotate_left 1
    ·rintro k a H hk hak hc ⟨t1,s1,t2,s2,i1,i2,i3,i4,i5,i6,i7,i8,i9⟩
     have hlH:H.loops[H1.loops.length]?=some rec:=by rw[i1];exact hlr
     have w:=i6
     have q0:(H.busy H1.loops.length rec).boxes=H.boxes:=rfl
     have e22:=fun hc=>Hd (xs:=xs) (owners:=owners) (who:=who) (k:=k) (a:=a) hc hak
     have e23:=Hc (owners:=owners) (who:=who) (k:=k) hc
     have wA:=w.app
     refine pC (Post:=MK h (H3.loop rec).loops (h.boxes.length+1) (h.boxes.length+1+1) H1.boxes.length (H1.boxes.length+1) (H1.boxes.length+1+1) ((ct cw).map fun n=>.v (.int .i64 n)) [.list k0 s0 (xs.map fun a=>[a]),y] [.list kz sz (ints who)] xs owners who (k+1)) hlH (by rw[w2];rfl) w5 w6 ?_
     have r1:∀t,(dD H1.loops.length rec [im (k:Nat),a]).get t=if 52=t then a else if 51=t then im (k:Nat) else e4.get t:=fun t=>jn w2 w1
     have d1:(dD H1.loops.length rec [im (k:Nat),a]).defers=[]:=rfl
     obtain⟨K,hK⟩:∃K,H.busy H1.loops.length rec=K:=⟨_,rfl⟩
     have kc1:bG h.tn K t1:=by rw[<-hK];exact w.c1
     have kc2:bG h.tn (K.app t1) t2:=by rw[<-hK,Bw];exact wA.1
     have kb1:K.boxes[h.boxes.length+1]?=some [.list t1 s1 ((fy xs owners who k).map fun a=>[a])]:=by rw[<-hK];exact i2
     have kb2:(K.app t1).boxes[h.boxes.length+1+1]?=some [.list t2 s2 (ints (pvI (fb owners who k)))]:=by rw[aT,<-hK];exact i3
     have kb22:K.boxes[h.boxes.length+1+1]?=some [.list t2 s2 (ints (pvI (fb owners who k)))]:=by rw[<-hK];exact i3
     have pl1:=He (xs:=xs) (owners:=owners) (who:=who) (k:=k)
     have pl2:=Hg (owners:=owners) (who:=who) (k:=k)
     have ap1:=S6 (x:=a) (show(fy xs owners who k).length<1000000 by omega) i4 kc1
     have ap2:=wI (x:=(k:Int)) (show(pvI (fb owners who k)).length<1099511627776 by omega) i5 kc2
     rw[<-e22 hc] at ap1
     rw[<-Km,<-e23] at ap2
     have lA:=EJ kb1
     have lB:=vD kb2
     have lB0:=vD kb22
     have sA:=Kk (H:=(K.app t1).app t2) (b:=h.boxes.length+1) (k:=.free K.tn) (s:=1) (es:=(fy xs owners who (k+1)).map fun a=>[a]) (by rw[aT,aT];exact kb1)
     have sB:=EK (H:=((K.app t1).app t2).put (h.boxes.length+1) [.list (.free K.tn) 1 ((fy xs owners who (k+1)).map fun a=>[a])]) (b:=h.boxes.length+1+1) (k:=.free (K.app t1).tn) (s:=1) (es:=ints (pvI (fb owners who (k+1)))) (by rw[av (by omega),aT];exact kb2)
     have blA:aN Tryz.prog 22 1 [(0,a)]=some (.list .tight 1 [[a]]):=by
      obtain⟨r',hr'⟩:∃r',rows[k]?=some r':=⟨_,abo hk⟩
      exact Rr a (kRL.out.2 k a r' hak hr').cell
     have blB:=pQ (k:Int)
     have svs:=sO t2 s2 (pvI (fb owners who k))
     have kfin:ah (MK h (H3.loop rec).loops (h.boxes.length+1) (h.boxes.length+1+1) H1.boxes.length (H1.boxes.length+1) (H1.boxes.length+1+1) ((ct cw).map fun n=>.v (.int .i64 n)) [.list k0 s0 (xs.map fun a=>[a]),y] [.list kz sz (ints who)] xs owners who (k+1) ((((H.app t1).app t2).put (h.boxes.length+1) [.list (.free H.tn) 1 ((fy xs owners who (k+1)).map fun a=>[a])]).put (h.boxes.length+1+1) [.list (.free (H.app t1).tn) 1 (ints (pvI (fb owners who (k+1))))])):=by
      have hl1:=(abm.1 i2).1
      have hl2:=(abm.1 i3).1
      refine⟨_,1,_,1,?_,?_,?_,.inl rfl,.inl rfl,(wA.2.put (by omega) _).put (by omega) _,?_,?_,?_⟩
      ·show((H.app t1).app t2).loops=_
       rw[ig,ig];exact i1
      ·rw[av (by omega)];exact aS (by rw[aT,aT];exact hl1)
      ·exact aS (by rw[dU,aT,aT];exact hl2)
      ·rw[av (by omega),av (by omega),aT,aT];exact i7
      ·rw[av (by omega),av (by omega),aT,aT];exact i8
      ·rw[av (by omega),av (by omega),aT,aT];exact i9
     clear i1 i2 i3 i4 i5 i6 i7 i8 i9 w wA q0 e22 e23 b0 b1 b2 b3 b4 kb1 kb2 kb22 pl1 pl2 hc hak kc1 kc2 X3 ok3 hll p0 p1 p2 x1 ok1 f50
     rw[hK]
     unfold im at *
     rw[w3,w4]
     refine gx0 ?_
     refine⟨trivial,trivial,?_⟩
     refine Run.gen fun e2 he2 hd2 hp2 hro2=>?_
     have q4:e2.get 4=.ptr (.box (h.boxes.length+1)) 0:=by rw[he2];simp only[gW,reduceIte,abn,gBQ,r1];exact f4
     have q5:e2.get 5=.ptr (.box (h.boxes.length+1+1)) 0:=by rw[he2];simp only[gW,reduceIte,abn,gBQ,r1];exact f5
     have q12:e2.get 12=.v (.int .i64 k):=by rw[he2];simp only[gW,reduceIte,abn,gBQ,r1]
     have q13:e2.get 13=a:=by rw[he2];simp only[gW,reduceIte,abn,gBQ,r1]
     clear he2 hd2 hp2 hro2 r1 d1 w1 w2 w3 w4 w5 w6
     refine gx0 ?_
     refine bU [(3,4)] tH kZq (fun p hp=>?_) ?_
     ·simp only[acg] at hp
      subst hp
      refine dI (x:=.ptr (.box (h.boxes.length+1+1)) 0) (v:=.list t2 s2 (ints (pvI (fb owners who k)))) kZq rfl rfl rfl kZq (svs) ?_ ?_<;>(simp only[abO,abY];exact gz2 @ab2.{0} @and_self)
     refine gx0 ?_
     have kf2:=kfin.out
     rw[hH1] at kf2
     refine⟨trivial,?_,?_⟩
     ·show((K.app t1).app t2).loops=_
      rw[ig,ig]
     ·rw[<-hK,Kl,Bw]
      exact kf2
    ·obtain⟨Hf,c1,t1,s1,t2,s2,i1,i2,i3,i4,i5,i6,i7,i8,i9⟩:=feed
     rw[hll]
     refine⟨_,_,c1,rec,by rw[i1];exact hlr,by rw[w5];decide,.inl ⟨w6,?_⟩⟩
     have hf1:=(abm.1 i2).1
     have hf2:=(abm.1 i3).1
     have q1:(Hf.bh H1.loops.length {rec with state:=.exhausted}).boxes[h.boxes.length+1]?=some [.list t1 s1 ((fy xs owners who rows.length).map fun a=>[a])]:=i2
     have q2:(Hf.bh H1.loops.length {rec with state:=.exhausted}).boxes[h.boxes.length+1+1]?=some [.list t2 s2 (ints (pvI (fb owners who rows.length)))]:=i3
     have q7:(Hf.bh H1.loops.length {rec with state:=.exhausted}).boxes[H1.boxes.length]?=some ((ct cw).map fun n=>.v (.int .i64 n)):=i7
     have XF:Ext h (Hf.bh H1.loops.length {rec with state:=.exhausted}):=((Fr.sF (bn:=h.boxes.length) (l0:=h.loops.length) (n0:=h.tn) i6.ext (abq _)).trans (.bh hLh _)).ext (abq _) (abq _) (abq _)
     generalize Hf.bh H1.loops.length {rec with state:=.exhausted}=HF at *
     have hg1:=(abm.1 q1).1
     have hg2:=(abm.1 q2).1
     have lA:=EJ q1
     have lB:=vD q2
     have sA:=Kk (k:=t1) (s:=s1) (es:=(fy xs owners who rows.length).map fun a=>[a]) q1
     have lB2:ai Tryz.prog Gt (HF.put (h.boxes.length+1) [.list t1 s1 ((fy xs owners who rows.length).map fun a=>[a])]) 23 (.ptr (.box (h.boxes.length+1+1)) 0)=some (.list t2 s2 (ints (pvI (fb owners who rows.length)))):=vD (by rw[av (by omega)];exact q2)
     have sB:=EK (H:=HF.put (h.boxes.length+1) [.list t1 s1 ((fy xs owners who rows.length).map fun a=>[a])]) (b:=h.boxes.length+1+1) (k:=t2) (s:=s2) (es:=ints (pvI (fb owners who rows.length))) (by rw[av (by omega)];exact q2)
     have eA:=ec q1
     have eB:=ec (h:=HF) q2
     rw[eA] at sA sB lB2
     rw[eB] at sB
     have svs:=sO t2 s2 (pvI (fb owners who rows.length))
     have kfin:=ah.mk (abp XF (abp i4 (abp i5 q7)))
     clear q1 q2 q7 XF i1 i2 i3 i4 i5 i6 i7 i8 i9 c1 b0 b1 b2 b3 b4 X3 ok3 hll p0 p1 p2 x1 ok1 f50 hlr w1 w2 w3 w4 w5 w6 eA eB
     refine gx1 @qb ?_
     refine bU [(1,3)] tH kZq (fun p hp=>?_) ?_
     ·simp only[acg] at hp
      subst hp
      refine dH (x:=.ptr (.box (h.boxes.length+1+1)) 0) (v:=.list t2 s2 (ints (pvI (fb owners who rows.length)))) kZq rfl rfl rfl kZq (svs) ?_ ?_<;>(simp only[abO,abY];exact gz2 @qb @and_self)
     refine gx1 @qb ?_
     exact⟨_,_,rfl,kfin.out.1,by
      rw[if_neg (by simp[kpe.out]),if_neg (by simp[kf.out])]
      exact⟨_,_,_,_,_,rfl,kfin.out.2.1,kfin.out.2.2.1,by rw[<-hH1];exact kfin.out.2.2.2⟩⟩
theorem IL.hold{x:AV}{l:List Int}(h:IL x l):IL (au x) l/\aV 0 0 0 (au x)=true:=by
 obtain⟨k,s,rfl,hs⟩:=h
 rw[au,xF]
 exact⟨⟨di k,s,rfl,hs⟩,by rw[aV,bV,fJ];rfl⟩
theorem hD:∀xs:List AV,eF (xs.map fun a=>[a])=(xs.map au).map fun a=>[a]
 | []=>rfl
 |x::xs=>by rw[abK,eF,hD xs];rfl
theorem gx:∀xs:List AV,(∀a∈xs,aV 0 0 0 a=true)->gH 0 0 0 (xs.map fun a=>[a])=true
 | [],_=>rfl
 |x::xs,h=>by
  rw[abK,gH,gx xs fun a ha=>h a (abH _ ha),bA,h x abM];rfl
theorem RL.hold{k:Tok}{s:Nat}{xs:List AV}{rows:List (List Int)}(h:RL (.list k s (xs.map fun a=>[a])) rows):
 RL (.list (di k) s ((xs.map au).map fun a=>[a])) rows/\∀a∈xs.map au,aV 0 0 0 a=true:=by
 obtain⟨k',s',xs',he,hs,hl,hr⟩:=h
 injection he with e1 e2 e3
 have e4:=(aeW (fun x y h=>by injection h)).1 e3
 subst e1;subst e2;subst e4
 refine⟨⟨di k,s,xs.map au,rfl,hs,by rw[abu];exact hl,fun i a r ha hr'=>?_⟩,fun a ha=>?_⟩
 ·rw[abF] at ha
  cases hx:xs[i]? with
  |none=>rw[hx] at ha;cases ha
  |some b=>
   rw[hx] at ha
   injection ha with ha
   rw[<-ha]
   exact(hr i b r hx hr').hold.1
 ·obtain⟨b,hb,rfl⟩:=aco.1 ha
  obtain⟨i,hi⟩:=acC hb
  have hil:=(abm.1 hi).1
  exact(hr i b _ hi (abo (by rw[<-hl];exact hil))).hold.2
def L3:List FuncId:=[28,29,30,46,65,66,69,78,82,94,97,118,119,120,121,123,132,138,140,143,144,146,194,201]
noncomputable def Kn:FuncId->Option (List AV->ae->Option (AV × ae)):=fx W2 L3
noncomputable abbrev W3:=whole Tryz.prog Gt Kn
section
variable (a b n x:Int)
theorem S8:∀h,W3.call 28 [im a,im b] h=some (.ret (im (cN a b)),h):=aF (L:=L3) rfl rfl rfl (Rg a b _) rfl rfl
theorem S9:∀h,W3.call 29 [im a,im b] h=some (.ret (im (cq a b)),h):=aF (L:=L3) rfl rfl rfl (Pa a b _) rfl rfl
theorem Pn:∀h,W3.call 46 [im x] h=some (.ret (.v (.bool (aX x))),h):=aF (L:=L3) rfl rfl rfl (Pb x _) rfl rfl
theorem RB:∀h,W3.call 69 [im a,im b] h=some (.ret (.tuple [im (pO a b),im (mP a b)]),h):=aF (L:=L3) rfl rfl rfl (Rh a b _) rfl rfl
theorem RC:∀h,W3.call 30 [im a,im n] h=some (.ret (.tuple [im (iL a n),im (lG a)]),h):=aF (L:=L3) rfl rfl rfl (Ri a n _) rfl rfl
theorem Wq:∀h,W3.call 94 [im x] h=some (.ret (.v (.bool (aX x))),h):=aF (L:=L3) rfl rfl rfl (Wp x _) rfl rfl
theorem Xe:∀h,W3.call 140 [im a,im b] h=some (.ret (.tuple [im (pO a b),im (mP a b)]),h):=aF (L:=L3) rfl rfl rfl (Xa a b _) rfl rfl
theorem Xf:∀h,W3.call 132 [im a,im n] h=some (.ret (.tuple [im (iL a n),im (lG a)]),h):=aF (L:=L3) rfl rfl rfl (Xb a n _) rfl rfl
theorem X9:∀h,W3.call 120 [im n] h=some (.ret (.agg (cE 1 n [] .nil 0 [])),h):=aF (L:=L3) rfl rfl rfl (X7 n _) rfl rfl
end
theorem RL.form{x:AV}{rows:List (List Int)}(h:RL x rows):∃(k:Tok) (s:Nat) (xs:List AV),x=.list k s (xs.map fun a=>[a])/\xs.length=rows.length:=by
 obtain⟨k,s,xs,he,-,hl,-⟩:=h
 exact⟨k,s,xs,he,hl⟩
theorem RL.xS{x:AV}{rows:List (List Int)}(h:RL x rows):RL (au x) rows/\aV 0 0 0 (au x)=true:=by
 obtain⟨k,s,xs,rfl,-⟩:=h.form
 obtain⟨h1,h2⟩:=h.hold
 rw[au,hD]
 exact⟨h1,by rw[aV,bV,gx _ h2];rfl⟩
theorem Po(x y:AV)(rows:List (List Int))(owners:List Int)(hx:RL x rows)(hy:IL y owners):∀h,W3.call 97 [.agg [x,y]] h=some (.ret (.v (.int .i64 (bC rows owners))),h):=by
 obtain⟨h1,h2⟩:=hx.xS
 obtain⟨h3,h4⟩:=hy.hold
 obtain⟨h',hc,-⟩:=EG ⟨[],[],0,[]⟩ (au x) (au y) rows owners h1 h3
 exact aF (L:=L3) (args':=[.agg [au x,au y]]) rfl rfl (by simp[bA,aV,h2,h4]) hc rfl rfl
theorem EL(l:List Int):(l.map im).map (fun c=>[c])=ints l:=by unfold ints;rw[List.map_map];rfl
theorem vJ{h:ae}{b n:Nat}{l:List Int}(hb:h.boxes[b]?=some (l.map im))(hn:l.length=n):jK h (.arr b 0 n n)=.list .held 1 (ints l):=by
 subst hn
 rw[jK,hb]
 simp only
 rw[if_pos (by rw[abu];omega),List.drop_zero,abD (by rw[abu];exact abq _),EL]
theorem Ko(x y:AV)(rows:List (List Int))(target:List Int)(hx:RL x rows)(hy:IL y target)(hr:rows.length<=64)(hw:∀r∈rows,r.length=target.length)(hw2:target.length<=64)(hok:∀r∈rows,∀x∈r,okF x)(hot:∀x∈target,okF x):
 (gi rows target=none/\∀h,W3.call 144 [x,y] h=some (.ret (.tuple [.list .nil 0 [],.v (.bool false),im 0]),h))∨∃l,gi rows target=some l/\l.length=rows.length/\∀h,W3.call 144 [x,y] h=some (.ret (.tuple [.list .held 1 (ints l),.v (.bool true),im 0]),h):=by
 obtain⟨h1,h2⟩:=hx.xS
 obtain⟨h3,h4⟩:=hy.hold
 obtain⟨r,h',hc,-,⟨e1,rfl⟩|⟨l,b,e1,e2,rfl,e3⟩⟩:=DN ⟨[],[],0,[]⟩ (au x) (au y) rows target h1 h3 hr hw hw2 hok hot rfl
 ·exact .inl ⟨e1,aF (L:=L3) (args':=[au x,au y]) rfl rfl (by simp[bA,h2,h4]) hc rfl rfl⟩
 ·refine .inr ⟨l,e1,e2,aF (L:=L3) (args':=[au x,au y]) rfl rfl (by simp[bA,h2,h4]) hc ?_ (by simp[aV,bA,fJ,oF,im])⟩
  rw[jK,vp,vJ e3 e2];rfl
theorem By{xs:List AV}{owners who:List Int}{n i:Nat}{a:AV}(h:(fy xs owners who n)[i]?=some a):∃j,(fb owners who n)[i]?=some j/\j<n/\a=xs.getD j default:=by
 unfold fy at h
 rw[abF] at h
 cases hj:((aby n).filter fun i=>who.contains (at0 owners i))[i]? with
 |none=>rw[hj] at h;cases h
 |some j=>
  rw[hj] at h
  injection h with h
  exact⟨j,hj,abQ.1 (ac7.1 (abz hj)).1,h.symm⟩
theorem Hh(k0:Tok)(s0:Nat)(xs:List AV)(y z:AV)(rows:List (List Int))(owners who:List Int)(hx:RL (.list k0 s0 (xs.map fun a=>[a])) rows)(hy:IL y owners)(hz:IL z who)(hwl:who.length<=1099511627776):
 (bC rows owners≠0/\∀h,W3.call 143 [.agg [.list k0 s0 (xs.map fun a=>[a]),y],z] h=some (.ret (.tuple [.list .nil 0 [],.list .nil 0 [],.list .nil 0 [],.v (.int .i64 (bC rows owners))]),h))∨
 (bC rows owners=0/\cS (-1) who=false/\∀h,W3.call 143 [.agg [.list k0 s0 (xs.map fun a=>[a]),y],z] h=some (.ret (.tuple [.list .nil 0 [],.list .nil 0 [],.list .nil 0 [],.v (.int .i64 1)]),h))∨
 (bC rows owners=0/\cS (-1) who=true/\∃X A,RL X ((gV owners who).map fun i=>rows.getD i [])/\IL A (pvI (gV owners who))/\∀h,W3.call 143 [.agg [.list k0 s0 (xs.map fun a=>[a]),y],z] h=some (.ret (.tuple [X,A,.list .held 1 (ints (ct (aK rows))),.v (.int .i64 0)]),h)):=by
 obtain⟨h1,h2⟩:=hx.hold
 obtain⟨h3,h4⟩:=hy.hold
 obtain⟨h5,h6⟩:=hz.hold
 have hxl:(xs.map au).length=rows.length:=by
  obtain⟨_,_,xs',he,-,hl,-⟩:=h1
  injection he with _ _ e3
  have e4:=(aeW (fun x y h=>by injection h)).1 e3
  rw[e4];exact hl
 have ea:bM [.agg [.list k0 s0 (xs.map fun a=>[a]),y],z]=[.agg [.list (di k0) s0 ((xs.map au).map fun a=>[a]),au y],au z]:=by
  rw[bM,au,bM,bM,bM,au,hD];rfl
 have ef:bA 0 0 0 [.agg [.list (di k0) s0 ((xs.map au).map fun a=>[a]),au y],au z]=true:=by
  have hf:=gx _ h2
  rw[bA,aV,bA,bA,bA,bA,aV,bV,hf,h4,h6];rfl
 obtain⟨r,h',hc,-,hp⟩:=Bx ⟨[],[],0,[]⟩ (di k0) s0 (xs.map au) (au y) (au z) rows owners who h1 hxl h3 h5 hwl rfl
 by_cases q1:bC rows owners≠0
 ·rw[if_pos q1] at hp
  subst hp
  exact .inl ⟨q1,aF (L:=L3) rfl ea ef hc rfl rfl⟩
 ·rw[if_neg q1] at hp
  have q1':bC rows owners=0:=ae2.1 q1
  cases q2:cS (-1) who with
  |false=>
   rw[if_pos q2] at hp
   subst hp
   exact .inr (.inl ⟨q1',rfl,aF (L:=L3) rfl ea ef hc rfl rfl⟩)
  |true=>
   rw[if_neg (by rw[q2];simp)] at hp
   obtain⟨k1,s1,k2,s2,tb,rfl,e1,e2,e3⟩:=hp
   obtain⟨o1,-,-,-⟩:=fk q1'
   have hN:fb owners who rows.length=gV owners who:=by unfold fb gV;rw[o1]
   obtain⟨n1,-⟩:=fI q1'
   have htl:(ct (aK rows)).length=aK rows:=by unfold ct;simp;omega
   refine .inr (.inr ⟨q1',rfl,.list (di k1) s1 ((fy (xs.map au) owners who rows.length).map fun a=>[a]),.list (di k2) s2 (ints (pvI (gV owners who))),⟨_,_,_,rfl,fun hne=>?_,?_,fun i a r ha hr=>?_⟩,⟨_,_,rfl,fun hne=>?_⟩,aF (L:=L3) rfl ea ef hc ?_ ?_⟩)
   ·rcases e1 with q|⟨q,-⟩
    ·exact q
    ·exfalso
     apply hne
     rw[<-hN]
     unfold fy at q
     unfold fb
     rw[adG] at q
     rw[q];rfl
   ·rw[abu,<-hN]
    unfold fy fb
    rw[abu]
   ·obtain⟨j,j1,j2,rfl⟩:=By ha
    rw[hN] at j1
    rw[abF,j1] at hr
    injection hr with hr
    subst hr
    obtain⟨_,_,xs',he,-,hl,hh⟩:=h1
    injection he with _ _ e5
    have e4:=(aeW (fun x y h=>by injection h)).1 e5
    subst e4
    refine hh j _ _ ?_ ?_
    ·rw[abw,abo (by omega)];rfl
    ·show rows[j]?=some (rows.getD j [])
     rw[abw,abo j2];rfl
   ·rcases e2 with q|⟨q,-⟩
    ·exact q
    ·rw[hN] at q;exact absurd q hne
   ·rw[jK,vp,vp,vp,vJ e3 htl,hN];rfl
   ·have hfit:gH 0 0 0 ((fy (xs.map au) owners who rows.length).map fun a=>[a])=true:=gx _ fun a ha=>by
     obtain⟨i,hi⟩:=acC ha
     obtain⟨j,-,j2,rfl⟩:=By hi
     refine h2 _ ?_
     rw[abw,abo (by omega)]
     exact ab1 _
    cases k1<;>cases k2<;>simp[aV,bA,di,fJ,hfit,oF]
theorem Hi:Tryz.f76.results.toList=[.tmp 4,.tmp 5,.tmp 6]:=kZq
def fU(n:Nat)(at_:List Nat)(l:List Int)(j:Nat):List Int:=(at_.zipIdx.take j).foldl (fun y p=>y.set p.1 (at0 l p.2)) (abt n 0)
theorem tK{n j:Nat}{at_:List Nat}{l:List Int}:(fU n at_ l j).length=n:=by
 unfold fU
 rw[oJ (fun p=>at0 l p.2),ack]
theorem zD{n j p:Nat}{at_:List Nat}{l:List Int}(h:at_[j]?=some p):(fU n at_ l j).set p (at0 l j)=fU n at_ l (j+1):=by
 have hz:at_.zipIdx[j]?=some (p,j):=by rw[agb,h];simp
 unfold fU
 rw[a9 hz,acs]
 rfl
theorem tL{n:Nat}{at_:List Nat}{l:List Int}:fU n at_ l at_.length=fS n at_ l:=by
 unfold fU fS
 rw[abD (by simp)]
theorem Pp{l:List Nat}{j p:Nat}(h:l[j]?=some p):at0 (pvI l) j=(p:Int):=by
 have:(pvI l)[j]?=some (p:Int):=by unfold pvI;rw[abF,h];rfl
 unfold at0
 rw[abw,this];rfl
def EM(rows:List (List Int))(owners who:List Int)(h:ae)(r:Res)(h':ae):Prop:=
 Ext h h'/\((∃e,bJ rows owners who=([],false,e)/\r=.ret (.tuple [.list .nil 0 [],.v (.bool false),.v (.int .i64 e)]))∨∃l b,bJ rows owners who=(l,true,0)/\l.length=rows.length/\r=.ret (.tuple [.arr b 0 rows.length rows.length,.v (.bool true),.v (.int .i64 0)])/\h'.boxes[b]?=some (l.map im))
theorem DO(h:ae)(k0:Tok)(s0:Nat)(xs:List AV)(y z:AV)(rows:List (List Int))(owners who:List Int)(hx:RL (.list k0 s0 (xs.map fun a=>[a])) rows)(hy:IL y owners)(hz:IL z who)(hwl:who.length<=1099511627776):
 ∃r h',W3.call 76 [.agg [.list k0 s0 (xs.map fun a=>[a]),y],z] h=some (r,h')/\EM rows owners who h r h':=by
 have hq:=Hh k0 s0 xs y z rows owners who hx hy hz hwl
 obtain⟨_,_,xs',he,hxl⟩:=hx.form
 have hxl2:(xs.map fun a=>[a]).length=rows.length:=by
  injection he with _ _ e5
  rw[e5,abu];exact hxl
 have bx:(AV.agg [.list k0 s0 (xs.map fun a=>[a]),y]).aC=some [.list k0 s0 (xs.map fun a=>[a]),y]:=by
  obtain⟨ky,sy,rfl,-⟩:=hy;rfl
 have b0:(h.push [.list k0 s0 (xs.map fun a=>[a]),y]).boxes[h.boxes.length]?=some [.list k0 s0 (xs.map fun a=>[a]),y]:=ak _ _
 have l25:=ma b0
 have l22:=tY b0
 have u23:=Tryz.underlying23
 have u22:=Tryz.underlying22
 have z3:=sz3
 clear he hxl hx hy hz b0
 unfold EM
 have eA:bJ rows owners who=if bC rows owners≠0 then ([],false,bC rows owners) else if !cS (-1) who then ([],false,1) else match gi ((gV owners who).map fun i=>rows.getD i []) (ct (aK rows)) with|none=>([],false,0)|some l=>(fS rows.length (gV owners who) l,true,0):=rfl
 refine aL rfl Tryz.func76 rfl ?_
 rcases hq with⟨q1,c⟩|⟨q1,q2,c⟩|⟨q1,q2,X,A,hX,hA,c⟩
 ·rw[if_pos q1] at eA
  generalize bC rows owners=pe at *
  have hdz:decide (pe=0)=false:=by simp[q1]
  have ke:=ah.mk eA
  clear eA q1
  refine gx2 @Hi @aw ?_
  exact⟨_,_,rfl,.push _ _,.inl ⟨pe,ke.out,rfl⟩⟩
 ·rw[if_neg (by simp[q1]),if_pos (by rw[q2];rfl)] at eA
  have ke:=ah.mk eA
  clear eA q1 q2
  repeat' (first|simp(maxSteps:=999999)(disch:=first|exact dZ|fail)only[gW,reduceIte,abn,gBQ,Hi,aw, *]|refine dX ?_ ?_<;>(intro _;try omega))
  exact⟨_,_,rfl,.push _ _,.inl ⟨1,ke.out,rfl⟩⟩
 ·rw[if_neg (by simp[q1]),if_neg (by rw[q2];simp)] at eA
  obtain⟨o1,o2,o3,-⟩:=fk q1
  obtain⟨n1,n2⟩:=fI q1
  have htl:(ct (aK rows)).length=aK rows:=by unfold ct;simp;omega
  have hown:∀i∈gV owners who,i<rows.length:=fun i hi=>by
   unfold gV at hi
   rw[o1];exact abQ.1 (ac7.1 hi).1
  have hlen:(gV owners who).length<=64:=by
   unfold gV
   exact abT (adN _ _) (by rw[List.length_range];omega)
  have hrow:∀r∈(gV owners who).map fun i=>rows.getD i [],r∈rows:=fun r hr=>by
   obtain⟨i,hi,rfl⟩:=aco.1 hr
   have:=hown i hi
   rw[abw,abo this]
   exact ab1 _
  have hcm:=Ko X (.list .held 1 (ints (ct (aK rows)))) _ (ct (aK rows)) hX ⟨_,_,rfl,fun _=>rfl⟩ (by rw[abu];exact hlen) (fun r hr=>by rw[htl];exact(o3 r (hrow r hr)).1) (by rw[htl];exact n2) (fun r hr=>(o3 r (hrow r hr)).2.2.2) (fun x hx=>by
   unfold ct at hx
   rcases acd.1 hx with rfl|hx
   ·exact⟨by decide,by decide⟩
   ·rw[List.eq_of_mem_replicate hx];exact⟨by decide,by decide⟩)
  rcases hcm with⟨e1,c2⟩|⟨l,e1,e2,c2⟩
  ·rw[e1] at eA
   have ke:=ah.mk eA
   unfold im at c2
   clear eA q1 q2 e1 hrow hown o3
   refine gx2 @Hi @aw ?_
   exact⟨_,_,rfl,.push _ _,.inl ⟨0,ke.out,rfl⟩⟩
  ·rw[e1] at eA
   have ke:=ah.mk eA
   have mk:=Pf (h.push [.list k0 s0 (xs.map fun a=>[a]),y]) rows.length (by omega) .i64 .i64
   have hrep:abt rows.length (im 0)=(fU rows.length (gV owners who) l 0).map im:=by
    unfold fU;rw[abY,afr,aev]
   rw[hrep] at mk
   rw[abu] at e2
   have ko:=ah.mk hown
   obtain⟨ka,sa,rfl,hsa⟩:=hA
   have ksa:=ah.mk hsa
   have hal:=zA (gV owners who)
   have hll:=aU l
   clear eA q1 q2 e1 hrow hown o3 hrep hX hsa
   unfold im at c2 mk
   generalize gV owners who=ow at *
   clear o1
   refine gx3 @Hi @aw @bH ?_
   refine Run.gen fun e0 he0 hd0 hp0 hr0=>?_
   have f4:e0.get 4=.arr (h.boxes.length+1) 0 rows.length rows.length:=by rw[he0];simp only[gW,reduceIte,abn,gBQ,az]
   have f10:e0.get 10=.list .held 1 (ints l):=by rw[he0];exact gS
   have f42:e0.get 42=.list ka sa (ints (pvI ow)):=by rw[he0];exact gS
   have f43:e0.get 43=.v (.int .i64 (ow.length:Nat)):=by rw[he0];exact gS
   have f44:e0.get 44=.v (.int .i64 (0:Nat)):=by rw[he0];exact gR
   have fd:e0.defers=[]:=by rw[hd0];exact gS
   clear he0 hd0 hp0 hr0 mk c c2 l25 l22
   have hH1:(h.push [.list k0 s0 (xs.map fun a=>[a]),y]).boxes.length=h.boxes.length+1:=az _ _
   have X1:Ext h (h.push [.list k0 s0 (xs.map fun a=>[a]),y]):=.push _ _
   generalize h.push [.list k0 s0 (xs.map fun a=>[a]),y]=H1 at *
   have kX:=ah.mk (abp X1 hH1)
   clear X1
   refine aD (fun m e H=>∃j:Nat,j<=ow.length/\m=ow.length - j/\e.get 4=.arr (h.boxes.length+1) 0 rows.length rows.length/\e.get 10=.list .held 1 (ints l)/\e.get 42=.list ka sa (ints (pvI ow))/\e.get 43=.v (.int .i64 (ow.length:Nat))/\e.get 44=.v (.int .i64 (j:Nat))/\e.defers=[]/\H=H1.push ((fU rows.length ow l j).map im)) ?_ ow.length _ _ ?_
   rotate_left 1
   ·exact⟨0,abG _,rfl,f4,f10,f42,f43,f44,fd,rfl⟩
   clear f4 f10 f42 f43 f44 fd
   rintro m e H ⟨j,hj,rfl,g4,g10,g42,g43,g44,hd,rfl⟩
   by_cases hlt:j<ow.length
   ·obtain⟨p,hpv⟩:∃p,ow[j]?=some p:=⟨_,abo hlt⟩
    have hpn:=ko.out p (abz hpv)
    have hs1:sa=1:=ksa.out (by
     intro q
     unfold pvI at q
     rw[adG] at q
     rw[q] at hlt
     exact acH _ hlt)
    subst hs1
    have l0:=ldi (H:=H1.push ((fU rows.length ow l j).map im)) (l:=pvI ow) (i:=j) (s:=1) (by unfold pvI;rw[abu];exact hlt)
    rw[Pp hpv] at l0
    have l1:=ldi (H:=H1.push ((fU rows.length ow l j).map im)) (l:=l) (i:=j) (s:=1) (by omega)
    have ix3:=vE (b:=h.boxes.length+1) (len:=rows.length) (cap:=rows.length) (k:=.i64) hpn
    have sk:=J3 (H:=H1.push ((fU rows.length ow l j).map im)) (b:=H1.boxes.length) (r:=fU rows.length ow l j) (k:=p) (x:=at0 l j) (ak _ _) (by rw[tK];exact hpn)
    rw[gg,zD hpv,hH1] at sk
    have hltI:(j:Int)<(ow.length:Int):=by omega
    unfold im at *
    clear hpv hH1
    refine gx2 @Hi @al ?_
    exact⟨ow.length - (j+1),by omega,j+1,by omega,rfl,by simp⟩
   ·have hje:j=ow.length:=by omega
    subst hje
    repeat' (first|simp(maxSteps:=999999)(disch:=first|exact dZ|fail)only[gW,reduceIte,abn,gBQ,Hi, *]|refine dX ?_ ?_<;>(intro _;try omega))
    refine⟨_,_,rfl,kX.out.1.trans (.push _ _),.inr ⟨_,h.boxes.length+1,ke.out,?_,rfl,?_⟩⟩
    ·rw[<-tL,tK]
    ·rw[<-tL]
     exact cD kX.out.2.symm
end Go.Proofs.YtnfciiiohoafaaaGreatDoor
end
