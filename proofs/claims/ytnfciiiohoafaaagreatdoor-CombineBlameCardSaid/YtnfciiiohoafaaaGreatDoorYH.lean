/-
  Part of the proof: YH.
-/
import Derived.Test.YtnfciiiohoafaaaGreatDoorYG
import Derived.Test.YtnfciiiohoafaaaGreatDoorYD
import Derived.Test.YtnfciiiohoafaaaGreatDoorYF
open True renaming intro->aT
open Option renaming some->aa
open And renaming intro->ax
open Bool renaming false->ay,true->ai
open Nat renaming zero_le->df,le_refl->aJ,reduceEqDiff->aY
open List renaming getElem?_eq_getElem->a9,take_length->gM,take_succ_cons->iK,take_zero->gm,mem_of_getElem?->ez,nil_append->jZ,append_nil->jv,getElem?_eq_some_iff->aQ,cons_append->jO
open Go.Proofs.Tryz renaming prog->aj,func148->aa6
open Int renaming toNat_natCast->dS
open Go renaming FuncId->bq
set_option maxHeartbeats 64000000
set_option maxRecDepth 100000
set_option linter.unusedSimpArgs false
set_option linter.unusedVariables false
set_option linter.constructorNameAsVariable false
set_option linter.defProp false
section
namespace Go.Proofs.YtnfciiiohoafaaaGreatDoor
open Go.AE Go.NT
def Cs:Tryz.f37.results.toList=[.tmp 4]:=aw
def Yi:Tryz.f95.results.toList=[.tmp 6]:=aw
def anI:Tryz.f96.results.toList=[.tmp 4]:=aw
def yF:Tryz.f39.results.toList=[.tmp 6]:=aw
def aok(h:ao)(x y:AV)(a b:List Int)(hx:IL x a)(hy:IL y b)(fM:a.length<=1000000)(jr:b.length<=1000000):
 ∃r h',W6.call 37 [x,y] h=aa (r,h')/\h'=h/\r=.ret (.v (.bool (decide (a=b)))):=by
 have lx:=hx.dN;have ly:=hy.dN;have kk:=aq.mk (ax hx hy);clear hx hy;refine ec rfl Tryz.func37 rfl ?_;by_cases hl:a.length=b.length;rotate_left 1
 ·have hI:¬((a.length:Nat):Int)=((b.length:Nat):Int):=by omega
  have kr:aq (decide (a=b)=ay):=⟨cX λq=>hl (by rw[q])⟩;clear hl;refine bR @Cs ?_;exact⟨_,_,rfl,rfl,by rw[kr.out]⟩
 have hI:((a.length:Nat):Int)=((b.length:Nat):Int):=by omega
 have kl:=aq.mk hl;refine bR @Cs ?_;refine de (λm e H=>∃i:Nat,i<=a.length/\m=a.length - i/\aq (a.take i=b.take i)/\e.get 0=x/\e.get 1=y/\e.get 5=.v (.int .i64 (i:Nat))/\e.defers=[]/\H=h) ?_ a.length _ _ ?_;rotate_left 1
 ·refine⟨0,df _,rfl,⟨rfl⟩,?_,?_,?_,?_,rfl⟩<;>exact gR
 rintro m e H ⟨i,hi,rfl,kt,g0,g1,g5,hd,rfl⟩;by_cases az:i<a.length
 ·have ix:=kk.out.1.ix az;have iy:=kk.out.2.ix (i:=i) ah;have ldx:=fP (H:=H) (s:=1) az;have ldy:=fP (H:=H) (l:=b) (i:=i) (s:=1) ah;have ea:a[i]?=aa (al a i):=by rw[a9 az,fx az]
  have eb:b[i]?=aa (al b i):=by rw[a9 ah,fx ah]
  have ir:(i:Int)<(a.length:Int):=by omega
  by_cases hq:al a i=al b i
  ·have kt2:aq (a.take (i+1)=b.take (i+1)):=⟨by rw[gx ea,gx eb,kt.out,hq]⟩;have dq:decide (al a i≠al b i)=ay:=(by simp[hq]);clear ea eb kt;generalize al a i=va at *
   generalize al b i=vb at *
   subst hq;clear hl hI;refine bR @Cs ?_;refine fQ FA aw ?_;refine bR @Cs ?_;exact⟨a.length - (i+1),by omega,i+1,by omega,rfl,(by first|exact kt2|trivial),by simp⟩
  ·have kr:aq (decide (a=b)=ay):=⟨cX λq=>hq (by rw[q])⟩;clear ea eb kt hl hI;generalize al a i=va at *
   generalize al b i=vb at *
   refine bR @Cs ?_;refine fQ FA aw ?_;refine bR @Cs ?_;exact⟨_,_,rfl,rfl,by rw[kr.out]⟩
 ·have jz:i=a.length:=by omega
  subst jz;have kr:aq (decide (a=b)=ai):=⟨cz (by have:=kt.out;rw[gM,List.take_of_length_le ah] at this;exact this)⟩;clear hl hI;refine bR @Cs ?_;exact⟨_,_,rfl,rfl,by rw[kr.out]⟩
def ac1(a b)(t):gN aj 94 3 [(0,.agg (bf 1 a [] .nil 0 [])),(1,.agg (bf 1 b [] .nil 0 [])),(2,.agg (bf 2 0 t .nil 0 []))]=aa (.list .tight 4 [bf 1 a [] .nil 0 [],bf 1 b [] .nil 0 [],bf 2 0 t .nil 0 []]):=aw
def agr(h:ao)(p key:Int)(T:AV)(text:List UInt8)(hp:0<=p/\p<=4611686018427387903)(hk:0<=key/\key<=4611686018427387903)(ht:BL T text)(hl:text.length<=1000000):
 ∃r h',W6.call 95 [im p,im key,T] h=aa (r,h')/\h'=h/\r=.ret (im ((sC p key text:Nat):Int)):=by
 have c1:=XE p;have c2:=XE key;have c3:=anO text;have hr:pq [.int p,.int key,.text text] [bf 1 p [] .nil 0 [],bf 1 key [] .nil 0 [],bf 2 0 text .nil 0 []]:=by
  refine⟨rfl,λi v r hv hr=>?_⟩
  match i with
  |0=>injection hv with hv;injection hr with hr;subst hv;subst hr;exact .int p hp
  |1=>injection hv with hv;injection hr with hr;subst hv;subst hr;exact .int key hk
  |2=>injection hv with hv;injection hr with hr;subst hv;subst hr;exact .text text ah
  |i+3=>simp at hv
 have c4:=amu hr rfl .tight bG;have hv:dh (.list [.int p,.int key,.text text]) (bf 3 0 [] (ct .tight) 4 [bf 1 p [] .nil 0 [],bf 1 key [] .nil 0 [],bf 2 0 text .nil 0 []]):=.list _ _ _ _ rfl (λ_=>rfl) bG hr.2;have bO:=Qt p key text;obtain⟨t,c5⟩:=alf hv (by simp[gg,gO]) ah;have c6:=alI xj (dM (.list [.int p,.int key,.text text])) t ah aO;have hh:nh (fZ xj (dM (.list [.int p,.int key,.text text])))=sC p key text:=rfl;rw[hh] at c6;rw[show xj=[115,105,103,110] from rfl] at c6;have bk:=ac1 p key text;obtain⟨kt,st,rfl,cd⟩:=ht;have cv:=λH=>MA (k:=kt) cd H;generalize sC p key text=n at *
 generalize bf 3 0 [] (ct .tight) 4 [bf 1 p [] .nil 0 [],bf 1 key [] .nil 0 [],bf 2 0 text .nil 0 []]=R at *
 generalize bf 1 p [] .nil 0 []=r0 at *
 generalize bf 1 key [] .nil 0 []=r1 at *
 generalize bf 2 0 text .nil 0 []=r2 at *
 generalize dM (.list [.int p,.int key,.text text])=eb at *
 clear hr hv bO hh cd;unfold sv at c3;unfold im at *
 refine ec rfl Tryz.func95 rfl ?_;refine bR @Yi ?_;refine fQ FA aw ?_;refine bR @Yi ?_;exact⟨_,_,rfl,rfl,rfl⟩
def ake(h:ao)(key e s:Int)(he:0<=e/\e<1073741789):
 ∃r h',W6.call 96 [im key,.agg [im e,im s]] h=aa (r,h')/\h'=h.push [im e,im s]/\r=.ret (im (jy (eU 4 s) (eU key (0 - e)))):=by
 have c1:=XD 4 s;have c2:=XD key (0 - e);have c3:=alw (eU 4 s) (eU key (0 - e));have bx:(AV.agg [im e,im s]).bU=aa [im e,im s]:=rfl;have l0:aF aj Gt (h.push [im e,im s]) 3 (.ptr (.box h.boxes.length) 0)=aa (im e):=cI eM (bp _ _) rfl;have l1:aF aj Gt (h.push [im e,im s]) 3 (.ptr (.box h.boxes.length) 1)=aa (im s):=cI eM (bp _ _) rfl;have wn:IntKind.i64.wrap (0 - e)=0 - e:=fh ah ah;generalize jy (eU 4 s) (eU key (0 - e))=R at *
 generalize eU 4 s=u at *
 generalize eU key (0 - e)=v at *
 unfold im at *
 refine ec rfl Tryz.func96 rfl ?_;refine bW @anI @bK @pU @pV ?_;exact⟨_,_,rfl,rfl,rfl⟩
def aog(h:ao)(key e s:Int)(T:AV)(text:List UInt8)(ht:BL T text)(hl:text.length<=1000000):
 ∃r h',W6.call 39 [im key,T,.agg [im e,im s]] h=aa (r,h')/\Ext h h'/\r=.ret (.v (.bool (ny key text e s))):=by
 have c1:=aof key;have bx:(AV.agg [im e,im s]).bU=aa [im e,im s]:=rfl;have b0:=bp h [im e,im s];have l0:aF aj Gt (h.push [im e,im s]) 3 (.ptr (.box h.boxes.length) 0)=aa (im e):=cI eM b0 rfl;have l1:aF aj Gt (h.push [im e,im s]) 3 (.ptr (.box h.boxes.length) 1)=aa (im s):=cI eM b0 rfl;have l2:=Ce b0;have kv:aq (ny key text e s=(b9 key&&cE e&&cE s&&decide (e=((sC ((br Gn s * br key.toNat (0 - e)%P:Nat):Int) key text:Nat):Int)))):=⟨by rw[Int.zero_sub];rfl⟩;generalize ny key text e s=res at *
 refine ec rfl Tryz.func39 rfl ?_;cases hC:b9 key with
 |false=>
  rw[hC] at c1;have kr:aq (res=ay):=⟨by rw[kv.out,hC];rfl⟩;clear hC kv ht b0;unfold im at *
  refine bW @yF @pU @pV @bK ?_;exact⟨_,_,rfl,.push _ _,by rw[kr.out]⟩
 |true=>
 rw[hC] at c1;by_cases h1:e<0
 ·have kr:aq (res=ay):=⟨by rw[kv.out];unfold cE;rw[cX (ah:¬0<=e)];simp⟩;clear hC kv ht b0;unfold im at *
  refine bW @yF @pU @pV @bK ?_;exact⟨_,_,rfl,.push _ _,by rw[kr.out]⟩
 by_cases h2:1073741789<=e
 ·have kr:aq (res=ay):=⟨by rw[kv.out];unfold cE Qi;rw[cX (ah:¬e<1073741789)];simp⟩;clear hC kv ht b0;unfold im at *
  refine bW @yF @pU @pV @bK ?_;exact⟨_,_,rfl,.push _ _,by rw[kr.out]⟩
 by_cases h3:s<0
 ·have kr:aq (res=ay):=⟨by rw[kv.out];unfold cE;rw[cX (ah:¬0<=s)];simp⟩;clear hC kv ht b0;unfold im at *
  refine bW @yF @pU @pV @bK ?_;exact⟨_,_,rfl,.push _ _,by rw[kr.out]⟩
 by_cases h4:1073741789<=s
 ·have kr:aq (res=ay):=⟨by rw[kv.out];unfold cE Qi;rw[cX (ah:¬s<1073741789)];simp⟩;clear hC kv ht b0;unfold im at *
  refine bW @yF @pU @pV @bK ?_;exact⟨_,_,rfl,.push _ _,by rw[kr.out]⟩
 have hr:=Tr (uW rL s) (uW hC (0 - e));have hR:jy (eU 4 s) (eU key (0 - e))=((br Gn s * br key.toNat (0 - e)%P:Nat):Int):=by rw[Dp (uW rL s) (uW hC (0 - e)),td rL,td hC,dS,dS];rfl
 have kr:aq (res=decide (e=((sC (jy (eU 4 s) (eU key (0 - e))) key text:Nat):Int))):=⟨by rw[kv.out,hC,hR,qU.2 (show okF e from⟨ah,by have:Qi=1073741789:=rfl;omega⟩),qU.2 (show okF s from⟨ah,by have:Qi=1073741789:=rfl;omega⟩)];rfl⟩;have hk:=zt hC;have kL:=zt hr;obtain⟨_,_,c2,rfl,rfl⟩:=ake (h.push [im e,im s]) key e s ⟨ah,by omega⟩;clear hR hr;generalize jy (eU 4 s) (eU key (0 - e))=R at *
 obtain⟨_,_,c3,rfl,rfl⟩:=agr ((h.push [im e,im s]).push [im e,im s]) R key T text ⟨ah,by omega⟩ ⟨ah,by omega⟩ ht hl;generalize ((sC R key text:Nat):Int)=n at *
 have l0b:aF aj Gt ((h.push [im e,im s]).push [im e,im s]) 3 (.ptr (.box h.boxes.length) 0)=aa (im e):=cI eM (aZ b0) rfl;have kx:aq (Ext h ((h.push [im e,im s]).push [im e,im s])):=⟨(Ext.push _ _).trans (.push _ _)⟩;clear hC kv ht b0 hk kL;unfold im at *
 refine bW @yF @pU @pV @bK ?_;refine oG [(1,4),(1,7)] FA aw (λp hp=>?_) ?_
 ·simp only[List.mem_cons,List.not_mem_nil,or_false] at hp;rcases hp with rfl|rfl
  ·refine yH (x:=.ptr (.box h.boxes.length) 0) (v:=.v (.int .i64 e)) aw rfl rfl rfl aw (by simp[fC,me]) ?_ ?_<;>(simp only[iK,gm];exact oo @yF @pU @pV @and_self)
  ·refine yH (x:=.ptr (.box h.boxes.length) 0) (v:=.v (.int .i64 e)) aw rfl rfl rfl aw (by simp[fC,me]) ?_ ?_<;>(simp only[iK,gm];exact oo @yF @pU @pV @and_self)
 refine eg @yF @pU @pV ?_;exact⟨_,_,rfl,kx.out,by rw[kr.out]⟩
def L7:List bq:=L6++[37,38,39,85,15,47,141,162,64,62,73,19,175,191,58,60,165,95]
noncomputable def Kb:bq->Option (List AV->ao->Option (AV × ao)):=tX W6 L7
noncomputable abbrev W7:=whole aj Gt Kb
def A2:tQ Kb L7:=FC
def anE:Tryz.f85.results.toList=[.cell 0 25]:=aw
def R4:List (List Int):=[[1,1],[1,2],[1,3]]
def O4:List Int:=[1,2,3]
def X4:AV:=.list .tight 1 [[.list .tight 1 (ints [1,1])],[.list .tight 1 (ints [1,2])],[.list .tight 1 (ints [1,3])]]
def Y4:AV:=.list .tight 1 (ints [1,2,3])
def acT:gN aj 22 3 [(0,.list .tight 1 (ints [1,1])),(1,.list .tight 1 (ints [1,2])),(2,.list .tight 1 (ints [1,3]))]=aa X4:=aw
def acW:gN aj 23 3 [(0,.v (.int .i64 1)),(1,.v (.int .i64 2)),(2,.v (.int .i64 3))]=aa Y4:=aw
def Fv(a b):gN aj 23 2 [(0,.v (.int .i64 a)),(1,.v (.int .i64 b))]=aa (.list .tight 1 (ints [a,b])):=aw
def aco:mF aj 25 [(0,X4),(1,Y4)]=aa (.agg [X4,Y4]):=aw
def arh:(gy aj 25).bind AV.bU=aa [nl,nl]:=aw
def ac8(h:ao):W6.call 85 [] h=aa (.ret (.agg [X4,Y4]),h.push [X4,Y4]):=by
 have z:=arh;have g1:=acT;have g2:=acW;have g3:=aco;have s1:b8 aj (h.push [nl,nl]) 25 (.ptr (.box h.boxes.length) 0) (.agg [X4,Y4])=aa (h.push [X4,Y4]):=jt aw Zd rfl rfl;have l1:aF aj Gt (h.push [X4,Y4]) 25 (.ptr (.box h.boxes.length) 0)=aa (.agg [X4,Y4]):=vx (bp _ _);generalize X4=X at *
 generalize Y4=Y at *
 refine cN rfl Tryz.func85 rfl ?_;exact jq @anE @Fv
def RL.oD{x}{l}(hx:RL x l)(hf:aW 0 0 0 x=ai)(h):RL (gJ h x) l/\aW 0 0 0 (gJ h x)=ai:=by obtain⟨k,s,xs,rfl,hs,h1,h2⟩:=hx;refine⟨⟨ct k,s,xs,rfl,hs,h1,h2⟩,?_⟩;show aW 0 0 0 (.list (ct k) s (xs.map λa=>[a]))=ai;rw[aW] at hf ⊢;rw[fJ,Bool.true_and];simp only[Bool.and_eq_true] at hf;exact hf.2
def IL.oD{x}{l}(hx:IL x l)(h):IL (gJ h x) l/\aW 0 0 0 (gJ h x)=ai:=by obtain⟨k,s,rfl,hs⟩:=hx;refine⟨⟨ct k,s,rfl,hs⟩,?_⟩;show aW 0 0 0 (.list (ct k) s (ints l))=ai;rw[aW,fJ,ud];rfl
def BL.oD{x}{l}(hx:BL x l)(h):BL (gJ h x) l/\aW 0 0 0 (gJ h x)=ai:=by obtain⟨k,s,rfl,hs⟩:=hx;refine⟨⟨ct k,s,rfl,hs⟩,?_⟩;show aW 0 0 0 (.list (ct k) s (aX l))=ai;rw[aW,fJ,kC];rfl
def PL.oD{x}{l}(hx:PL x l)(h):PL (gJ h x) l/\aW 0 0 0 (gJ h x)=ai:=by obtain⟨k,s,rfl,hs⟩:=hx;refine⟨⟨ct k,s,rfl,hs⟩,?_⟩;show aW 0 0 0 (.list (ct k) s (lH l))=ai;rw[aW,fJ,MH];rfl
def abv(a b):∀h,W7.call 28 [im a,im b] h=aa (.ret (im (cS a b)),h):=cC (L:=L7) rfl rfl rfl (abu a b _) rfl rfl
section
variable (ep:Int) (X Y C T L:AV) (ae:List (List Int)) (ag av:List Int) (text:List UInt8) (l:List Pr)
 (hx:RL X ae) (hy:IL Y ag) (hc:IL C av) (ht:BL T text) (hp:PL L l) (cV:av.length<=1000000) (dy:l.length<=1000000)
include hx hy hc ht hp cV dy
def acP:(dJ ae ag ep av text l≠0/\∀h,W7.call 17 [.agg (cB ep X Y C),T,L] h=aa (.ret (.tuple [.list .nil 0 [],im 0,im 0,im (dJ ae ag ep av text l)]),h))∨
 (dJ ae ag ep av text l=0/\∃Z,IL Z (wg (al av 0) text l)/\∀h,W7.call 17 [.agg (cB ep X Y C),T,L] h=aa (.ret (.tuple [Z,im ((jX (al av 0) text l:Nat):Int),im ((dR (al av 0) text l:Nat):Int),im 0]),h)):=by
 obtain⟨X',Y',C',e1,h1,h2,h3,h4⟩:=GH ep hx hy hc;obtain⟨h5,h6⟩:=ht.hold;obtain⟨h7,h8⟩:=hp.hold;have ea:cA [.agg (cB ep X Y C),T,L]=[.agg (cB ep X' Y' C'),aI T,aI L]:=by rw[cA,cA,cA,cA,e1]
 have ef:bg 0 0 0 [.agg (cB ep X' Y' C'),aI T,aI L]=ai:=by rw[bg,bg,bg,bg,h4,h6,h8];rfl
 rcases acO ep X' Y' C' (aI T) (aI L) ae ag av text l h1 h2 h3 h5 h7 cV dy with⟨q,c⟩|⟨q,Z,hZ,c⟩
 ·exact .inl ⟨q,cC (L:=L7) rfl ea ef (c _) rfl rfl⟩
 ·obtain⟨g1,g2⟩:=hZ.oD ⟨[],[],0,[]⟩;refine .inr ⟨q,gJ ⟨[],[],0,[]⟩ Z,g1,cC (L:=L7) rfl ea ef (c _) rfl ?_⟩;rw[aW,bg,g2];rfl
def afm(aC z:Int):
 ∀h,W7.call 22 [.agg (cB ep X Y C),T,L,im aC,im z] h=aa (.ret (.tuple [.v (.bool (o8 ae ag ep av text l aC z).1),im (o8 ae ag ep av text l aC z).2]),h):=by
 obtain⟨X',Y',C',e1,h1,h2,h3,h4⟩:=GH ep hx hy hc;obtain⟨h5,h6⟩:=ht.hold;obtain⟨h7,h8⟩:=hp.hold;exact cC (L:=L7) rfl (by simp only[cA];rw[e1];rfl) (by simp only[bg];rw[h4,h6,h8];rfl) (afl ep X' Y' C' (aI T) (aI L) ae ag av text l h1 h2 h3 h5 h7 cV dy aC z _) rfl rfl
end
def Zo(key e s)(T)(text)(ht:BL T text)(hl:text.length<=1000000):
 ∀h,W7.call 26 [im key,T,.agg [im e,im s]] h=aa (.ret (.v (.bool (ny key text e s))),h):=by
 obtain⟨h1,h2⟩:=ht.hold;exact cC (L:=L7) (dL:=[im key,aI T,.agg [im e,im s]]) rfl (by simp only[cA];rfl) (by simp only[bg];rw[h2];rfl) (aqL key e s (aI T) text h1 hl _) rfl rfl
def aoh(key e s)(T)(text)(ht:BL T text)(hl:text.length<=1000000):
 ∀h,W7.call 39 [im key,T,.agg [im e,im s]] h=aa (.ret (.v (.bool (ny key text e s))),h):=by
 obtain⟨h1,h2⟩:=ht.hold;obtain⟨r,h',c,-,rfl⟩:=aog ⟨[],[],0,[]⟩ key e s (aI T) text h1 hl;exact cC (L:=L7) (dL:=[im key,aI T,.agg [im e,im s]]) rfl (by simp only[cA];rfl) (by simp only[bg];rw[h2];rfl) c rfl rfl
def Yk(x y)(a b)(hx:IL x a)(hy:IL y b)(fM:a.length<=1000000)(jr:b.length<=1000000):∀h,W7.call 37 [x,y] h=aa (.ret (.v (.bool (decide (a=b)))),h):=by obtain⟨h1,h2⟩:=hx.hold;obtain⟨h3,h4⟩:=hy.hold;obtain⟨r,h',c,-,rfl⟩:=aok ⟨[],[],0,[]⟩ (aI x) (aI y) a b h1 h3 fM jr;exact cC (L:=L7) (dL:=[aI x,aI y]) rfl rfl (by simp[bg,h2,h4]) c rfl rfl
def ac7:∀h,W7.call 85 [] h=aa (.ret (.agg [gJ ⟨[],[],0,[]⟩ X4,gJ ⟨[],[],0,[]⟩ Y4]),h):=cC (L:=L7) (dL:=[]) rfl rfl rfl (ac8 _) aw aw
def SU(X Y R W NV T)(ae)(ag)(bu)(bC ar N)(text)
 (hx:RL X ae) (hy:IL Y ag) (hr:IL R bC) (hw:IL W ar) (hn:IL NV N) (ht:BL T text) (ej:bC.length<=9223372036854775807) (ji:ar.length<=9223372036854775807) (pE:N.length<=9223372036854775807):
 (vN ae ag bu bC ar N text=ay/\∀h,W7.call 38 [.agg [X,Y],im bu,R,W,NV,T] h=aa (.ret (.tuple [.agg (fe 0 nl nl nl nl nl nl),.v (.bool ay),.v (.bool ai)]),h))∨
 (vN ae ag bu bC ar N text=ai/\∃X2 Y2 C2 T2 L2 Z2,RL X2 ae/\IL Y2 ag/\IL C2 (bF (bu::bC))/\BL T2 text/\PL L2 (ft ar N)/\IL Z2 (kQ ae ag (bu::bC) ar N (ft ar N) text)/\
  ∀h,W7.call 38 [.agg [X,Y],im bu,R,W,NV,T] h=aa (.ret (.tuple [.agg (fe 0 X2 Y2 C2 T2 L2 Z2),.v (.bool ai),.v (.bool ai)]),h)):=by
 obtain⟨h1,h2,h3,h4⟩:=vE hx hy;obtain⟨r1,r2⟩:=hr.hold;obtain⟨w1,w2⟩:=hw.hold;obtain⟨n1,n2⟩:=hn.hold;obtain⟨t1,t2⟩:=ht.hold;have ef:bg 0 0 0 [.agg [aI X,aI Y],im bu,aI R,aI W,aI NV,aI T]=ai:=by simp[bg,aW,h3,h4,r2,w2,n2,t2,im]
 have ea:cA [.agg [X,Y],im bu,R,W,NV,T]=[.agg [aI X,aI Y],im bu,aI R,aI W,aI NV,aI T]:=rfl;obtain⟨r,h',c,-,⟨q,rfl⟩|⟨q,C,L,Z,rfl,g1,g2,g3⟩⟩:=adE ⟨[],[],0,[]⟩ ux (aI X) (aI Y) (aI R) (aI W) (aI NV) (aI T) ae ag bu bC ar N text h1 h2 r1 w1 n1 t1 ej ji pE
 ·exact .inl ⟨q,cC (L:=L7) rfl ea ef c rfl rfl⟩
 ·obtain⟨a1,a2⟩:=h1.oD h3 h';obtain⟨b1,b2⟩:=h2.oD h';obtain⟨c1,c2⟩:=g1.oD h';obtain⟨d1,d2⟩:=t1.oD h';obtain⟨e1,e2⟩:=g2.oD h';obtain⟨f1,f2⟩:=g3.oD h';refine .inr ⟨q,_,_,_,_,_,_,a1,b1,c1,d1,e1,f1,cC (L:=L7) rfl ea ef c rfl ?_⟩;simp[aW,bg,fe,a2,b2,c2,d2,e2,f2,im]
def Ku:Tryz.f86.results.toList=[.tmp 8,.tmp 9]:=aw
def XT:Tryz.f148.results.toList=[.tmp 2]:=aw
def anF:Tryz.f87.results.toList=[.tmp 4]:=aw
def Qh:Tryz.f88.results.toList=[.tmp 6]:=aw
def Es:Tryz.f33.results.toList=[.cell 8 50,.tmp 9,.tmp 10]:=aw
section
variable {pr:bq->Option (List AV->ao->Option (AV × ao))}
def ahP(rU:pr 167=none)(g:bq)(p:Int->Bool)(h:ao)(x:AV)(l:List Int)(hx:IS h x l)(hl:l.length<=1000000)(hp:∀n∈l,(whole aj Gt pr).call g [im n] h=aa (.ret (.v (.bool (p n))),h)):
 ∃r h',(whole Tryz.prog Gt pr).call 167 [x,.func (.func g) [] []] h=some (r,h')/\h'=h/\∃i:Int,r=.ret (im i)/\decide (0<=i)=l.any p:=by
 have lnx:=hx.len;have kp:=aq.mk (ax hp hx);clear hp hx;refine ec rU Tryz.func167 rfl ?_;refine bR @uA ?_;refine de (λm e H=>∃i:Nat,i<=l.length/\m=l.length - i/\(l.take i).any p=ay/\e.get 0=x/\e.get 1=.func (.func g) [] []/\e.get 7=.v (.int .i64 (l.length:Nat))/\e.get 8=.v (.int .i64 (i:Nat))/\e.defers=[]/\H=h) ?_ l.length _ _ ?_;rotate_left 1
 ·refine⟨0,df _,rfl,by simp,?_,?_,?_,?_,?_,rfl⟩<;>exact gR
 clear lnx;rintro m e H ⟨i,hi,rfl,ha,g0,g1,g7,g8,hd,rfl⟩;have ka:=aq.mk ha;clear ha;by_cases az:i<l.length
 ·obtain⟨a,ix,ldx⟩:=kp.out.2.at az;have ld:=ldx H kp.out.2;clear ldx;have hv:l[i]?=aa (al l i):=by rw[a9 az,fx az]
  have hc:=kp.out.1 (al l i) (ez hv);have ir:(i:Int)<(l.length:Int):=by omega
  have pF:(l.take (i+1)).any p=p (al l i):=by rw[gx hv,List.any_append,ka.out];simp
  have kt:=aq.mk pF;have kh:=aq.mk hv;clear hv pF;unfold im at hc;cases fm:p (al l i) with
  |true=>rw[fm] at hc;have jS:l.any p=ai:=List.any_eq_true.2 ⟨_,ez kh.out,fm⟩;have kan:=aq.mk jS;clear jS fm;refine eg @uA @jZ.{0} @jv.{0} ?_;exact⟨_,_,rfl,rfl,(i:Int),rfl,by rw[kan.out];simp⟩
  |false=>rw[fm] at hc;have kt2:(l.take (i+1)).any p=ay:=kt.out.trans fm;clear fm;refine eg @uA @jZ.{0} @jv.{0} ?_;exact⟨l.length - (i+1),by omega,i+1,by omega,rfl,kt2,by simp⟩
 ·have:i=l.length:=by omega
  subst this;have:=ka.out;rw[gM] at this;have kan:=aq.mk this;clear this;refine bR @uA ?_;exact⟨_,_,rfl,rfl,-1,rfl,by rw[kan.out];rfl⟩
def aeh(M5:pr 167=none)(M4:pr 126=none)(g:bq)(p:Int->Bool)(h:ao)(x:AV)(l:List Int)(hx:IS h x l)(hl:l.length<=1000000)(hp:∀n∈l,(whole aj Gt pr).call g [im n] h=aa (.ret (.v (.bool (p n))),h)):
 (whole aj Gt pr).call 126 [x,.func (.func g) [] []] h=aa (.ret (.v (.bool (l.any p))),h):=by
 obtain⟨r,h',c,rfl,i,rfl,hi⟩:=ahP M5 g p h x l hx hl hp;have Jl:decide (0<=i)=l.any p:=hi;unfold im at c;refine cN M4 Tryz.func126 rfl ?_;clear hi hp hx;exact mJ @PW
end
def ajf(n)(h):W7.call 148 [im n] h=aa (.ret (.v (.bool (mP n))),h):=by
 unfold im mP;by_cases h0:n<0
 ·refine cN rfl aa6 rfl ?_;have:decide (n<0)=ai:=by simp[h0]
  exact jq @XT @Bool.true_or
 ·refine cN rfl aa6 rfl ?_;have:decide (n<0)=ay:=by simp[h0]
  exact jq @XT @Bool.false_or
def JN{H}{b}{ep}{X Y C}(hb:H.boxes[b]?=aa (cB ep X Y C)):aF aj Gt H 27 (.ptr (.box b) 0)=aa (.agg (cB ep X Y C)):=by rw[jj aw QJ hb (Nat.le_of_ble_eq_true rfl)];rfl
def mX(ae:List (List Int))(ag:List Int)(ep:Int)(av:List Int)(text:List UInt8)(l:List Pr)(z:List Int):Int × Int:=
 if dJ ae ag ep av text l≠0 then (0,dJ ae ag ep av text l) else if jV l z=ay then (0,1) else (((dR (al av 0) text l:Nat):Int),0)
def S5(h:ao)(ep:Int)(X Y C T L Z:AV)(ae:List (List Int))(ag av:List Int)(text:List UInt8)(l:List Pr)(z:List Int)
 (hx:RL X ae) (hy:IL Y ag) (hc:IL C av) (ht:BL T text) (hp:PL L l) (cV:av.length<=1000000) (dy:l.length<=1000000) (hz:IS h Z z) (oC:z.length<=1000000):
 ∃r h',W7.call 86 [.agg (cB ep X Y C),T,L,Z] h=aa (r,h')/\h'=h.push (cB ep X Y C)/\r=.ret (.tuple [im (mX ae ag ep av text l z).1,im (mX ae ag ep av text l z).2]):=by
 have bx:=yx (ep:=ep) hx hy hc;have c1:=acP ep X Y C T L ae ag av text l hx hy hc ht hp cV dy;have fO:IS (h.push (cB ep X Y C)) Z z:=hz.mono λc cs q=>aZ q;have c2:=aeh (pr:=Kb) rfl rfl 148 mP (h.push (cB ep X Y C)) Z z fO oC (λn _=>ajf n _);have lnZ:=hz.len;have lnL:=hp.dN;have l1:=JN (bp h (cB ep X Y C));have hv:(!z.any mP)=z.all cE:=Ma z;refine ec rfl Tryz.func86 rfl ?_;rcases c1 with⟨q,c1⟩|⟨q,B,hB,c1⟩
 ·have kr:aq (mX ae ag ep av text l z=(0,dJ ae ag ep av text l)):=⟨by unfold mX;rw[aD q]⟩;generalize dJ ae ag ep av text l=be at *
  clear hx hy hc ht hp hz fO hv c2;unfold im at *
  refine cq @Ku @bK ?_;exact⟨_,_,rfl,rfl,by rw[kr.out]⟩
 have kr:aq (mX ae ag ep av text l z=if jV l z=ay then (0,1) else (((dR (al av 0) text l:Nat):Int),0)):=⟨by unfold mX;rw[aG (by rw[q];simp)]⟩;have kd:aq (jV l z=(decide (z.length=l.length)&&z.all cE)):=⟨rfl⟩;clear hx hy hc ht hp hz fO q hB;generalize ((dR (al av 0) text l:Nat):Int)=ch at *
 generalize ((jX (al av 0) text l:Nat):Int)=pt at *
 unfold im at *
 by_cases bO:z.length=l.length;rotate_left 1
 ·have hI:¬((z.length:Nat):Int)=((l.length:Nat):Int):=by omega
  have dI:decide (((z.length:Nat):Int)≠((l.length:Nat):Int))=ai:=cz hI;have kr2:aq (mX ae ag ep av text l z=(0,1)):=⟨by rw[kr.out,aD (by rw[kd.out,cX bO];rfl)]⟩;clear kr kd hv c2 bO;refine cq @Ku @bK ?_;exact⟨_,_,rfl,rfl,by rw[kr2.out]⟩
 have hI:((z.length:Nat):Int)=((l.length:Nat):Int):=by omega
 have dI:decide (((z.length:Nat):Int)=((l.length:Nat):Int))=ai:=cz hI;cases ha:z.all cE with
 |true=>
  have hf:z.any mP=ay:=by rw[ha] at hv;simpa using hv
  rw[hf] at c2;have kr2:aq (mX ae ag ep av text l z=(ch,0)):=⟨by rw[kr.out,aG (by rw[kd.out,cz bO,ha];simp)]⟩;clear kr kd hv hf ha bO;refine cq @Ku @bK ?_;exact⟨_,_,rfl,rfl,by rw[kr2.out]⟩
 |false=>
  have hf:z.any mP=ai:=by rw[ha] at hv;simpa using hv
  rw[hf] at c2;have kr2:aq (mX ae ag ep av text l z=(0,1)):=⟨by rw[kr.out,aD (by rw[kd.out,ha];simp)]⟩;clear kr kd hv hf ha bO;refine cq @Ku @bK ?_;exact⟨_,_,rfl,rfl,by rw[kr2.out]⟩
def abw(a b)(h):W7.call 87 [im a,im b] h=aa (.ret (im (cS a b)),h):=by
 have c:=abv a b;unfold im at *
 refine cN rfl Tryz.func87 rfl ?_;exact mJ @anF
def afy(h:ao)(x:AV)(l:List Int)(hx:IS h x l)(hl:l.length<=1000000):
 ∃r h',W7.call 88 [x,im 0,.func (.func 87) [] []] h=aa (r,h')/\h'=h/\r=.ret (im (l.foldl cS 0)):=by
 have lnx:=hx.len;have kp:=aq.mk hx;clear hx;unfold im;refine ec rfl Tryz.func88 rfl ?_;refine bR @Qh ?_;refine de (λm e H=>∃i:Nat,i<=l.length/\m=l.length - i/\e.get 1=.v (.int .i64 (xN l i))/\e.get 2=.func (.func 87) [] []/\e.get 9=x/\e.get 10=.v (.int .i64 (l.length:Nat))/\e.get 11=.v (.int .i64 (i:Nat))/\e.defers=[]/\H=h) ?_ l.length _ _ ?_;rotate_left 1
 ·refine⟨0,df _,rfl,?_,?_,?_,?_,?_,?_,rfl⟩<;>exact gR
 clear lnx;rintro m e H ⟨i,hi,rfl,g1,g2,g9,g10,g11,hd,rfl⟩;by_cases az:i<l.length
 ·obtain⟨a,ix,ldx⟩:=kp.out.at az;have ld:=ldx H kp.out;clear ldx;have hc:=abw (xN l i) (al l i) H;rw[<-aby az] at hc;have ir:(i:Int)<(l.length:Int):=by omega
  generalize xN l i=ak at *
  generalize oU:xN l (i+1)=ak2 at *
  generalize al l i=v at *
  unfold im at hc;refine eg @Qh @jZ.{0} @jv.{0} ?_;exact⟨l.length - (i+1),by omega,i+1,by omega,rfl,by rw[oU],by simp⟩
 ·have:i=l.length:=by omega
  subst this;have wO:xN l l.length=l.foldl cS 0:=by unfold xN;rw[gM]
  rw[wO] at g1;refine bR @Qh ?_;exact⟨_,_,rfl,rfl,rfl⟩
def FE(h:ao)(ep:Int)(X Y C T L Z:AV)(ae:List (List Int))(ag av:List Int)(text:List UInt8)(l:List Pr)(z:List Int)
 (hx:RL X ae) (hy:IL Y ag) (hc:IL C av) (ht:BL T text) (hp:PL L l) (cV:av.length<=1000000) (dy:l.length<=1000000) (BW:text.length<=1000000) (hz:IS h Z z) (oC:z.length<=1000000):
 ∃r h',W7.call 33 [.agg (cB ep X Y C),T,L,Z] h=aa (r,h')/\Ext h h'/\r=.ret (.tuple [.agg [im (oh ae ag ep av text l z).1.1,im (oh ae ag ep av text l z).1.2],.v (.bool (oh ae ag ep av text l z).2.1),im (oh ae ag ep av text l z).2.2]):=by
 have bx:=yx (ep:=ep) hx hy hc;have zc:=QX;obtain⟨H0,fA⟩:∃H0,(h.push (cB ep X Y C)).push [im 0,im 0]=H0:=⟨_,rfl⟩;have iW:(h.push (cB ep X Y C)).boxes.length=h.boxes.length+1:=cH _ _;have k0:H0.boxes[h.boxes.length]?=aa (cB ep X Y C):=by rw[<-fA];exact aZ (bp _ _)
 have g0:H0.boxes[h.boxes.length+1]?=aa [im 0,im 0]:=by have:=bp (h.push (cB ep X Y C)) [im 0,im 0];rw[iW,fA] at this;exact this
 have x0:Ext h H0:=by rw[<-fA];exact(Ext.push _ _).trans (.push _ _)
 obtain⟨_,H1,c1,gu,rfl⟩:=S5 H0 ep X Y C T L Z ae ag av text l z hx hy hc ht hp cV dy (hz.mono λc cs q=>x0.box _ _ q) oC;have x1:Ext H0 H1:=by rw[gu];exact .push _ _
 have k1:=x1.box _ _ k0;have g1:=x1.box _ _ g0;have l0:=JN k0;have lG:=Ce g1;have sG:=Qx (u:=0) (v:=0) g1;rw[nt g1] at sG;have kx:=aq.mk (x0.trans x1);have kv:aq (oh ae ag ep av text l z=if dJ ae ag ep av text l≠0 then ((0,0),ay,dJ ae ag ep av text l) else if jV l z=ay then ((0,0),ay,1)
  else if ny (al av 0) text ((dR (al av 0) text l:Nat):Int) (z.foldl cS 0) then ((((dR (al av 0) text l:Nat):Int),z.foldl cS 0),ai,0) else ((0,0),ay,0)):=⟨rfl⟩
 refine ec rfl Tryz.func33 rfl ?_;by_cases hb:dJ ae ag ep av text l=0;rotate_left 1
 ·have e1:mX ae ag ep av text l z=(0,dJ ae ag ep av text l):=by unfold mX;rw[aD hb]
  rw[e1] at c1;have kr:aq (oh ae ag ep av text l z=((0,0),ay,dJ ae ag ep av text l)):=⟨by rw[kv.out,aD hb]⟩;generalize dJ ae ag ep av text l=be at *
  clear hx hy hc ht hp hz kv e1 gu x0 x1 k0 g0 k1 g1;unfold im at *
  refine bW @Es @bK @iW @fA ?_;exact⟨_,_,rfl,kx.out,by rw[kr.out]⟩
 obtain⟨p1,p2,-⟩:=Fu hb;have mq:0<av.length:=by rw[p2];exact(tY p1).1
 cases hk:jV l z with
 |false=>
  have e1:mX ae ag ep av text l z=(0,1):=by unfold mX;rw[aG (by rw[hb];simp),aD hk]
  rw[e1] at c1;have kr:aq (oh ae ag ep av text l z=((0,0),ay,1)):=⟨by rw[kv.out,aG (by rw[hb];simp),aD hk]⟩;clear hx hy hc ht hp hz kv e1 gu x0 x1 k0 g0 k1 g1 hb hk p1 p2;unfold im at *
  refine bW @Es @bK @iW @fA ?_;exact⟨_,_,rfl,kx.out,by rw[kr.out]⟩
 |true=>
  have e1:mX ae ag ep av text l z=(((dR (al av 0) text l:Nat):Int),0):=by unfold mX;rw[aG (by rw[hb];simp),aG (by rw[hk];simp)]
  rw[e1] at c1;have kr:aq (oh ae ag ep av text l z=if ny (al av 0) text ((dR (al av 0) text l:Nat):Int) (z.foldl cS 0) then ((((dR (al av 0) text l:Nat):Int),z.foldl cS 0),ai,0) else ((0,0),ay,0)):=⟨by rw[kv.out,aG (by rw[hb];simp),aG (by rw[hk];simp)]⟩;obtain⟨_,H1f,c2,e1f,rfl⟩:=afy H1 Z z (hz.mono λc cs q=>(x0.trans x1).box _ _ q) oC;rw[e1f] at c2;have c3:=Zo (al av 0) ((dR (al av 0) text l:Nat):Int) (z.foldl cS 0) T text ht BW;have ixC:dx aj 23 C (.v (.int .i64 0))=aa (.elem 1 (ints av) 0 0):=hc.ix (i:=0) mq;have ldC:∀K:ao,aF aj Gt K 3 (.elem 1 (ints av) 0 0)=aa (.v (.int .i64 (al av 0))):=λK=>fP mq;generalize z.foldl cS 0=sm at *
  generalize ((dR (al av 0) text l:Nat):Int)=ch at *
  generalize Ae:ny (al av 0) text ch sm=vv at *
  generalize al av 0=key at *
  obtain⟨H2,il⟩:∃H2,H1.push [im ch,im sm]=H2:=⟨_,rfl⟩;have x2:Ext H1 H2:=by rw[<-il];exact .push _ _
  have l1:aF aj Gt H2 23 (.ptr (.box h.boxes.length) 3)=aa C:=cI mW (x2.box _ _ k1) rfl;have s1:b8 aj (H1.push [im 0,im 0]) 50 (.ptr (.box H1.boxes.length) 0) (.agg [im ch,im sm])=aa H2:=by rw[<-il];exact jt rfl KO rfl rfl
  have t2:H2.boxes[H1.boxes.length]?=aa [im ch,im sm]:=by rw[<-il];exact bp _ _
  have l2:=Ce t2;have g2:=x2.box _ _ g1;have lG2:=Ce g2;have sG2:=Qx (u:=0) (v:=0) g2;rw[nt g2] at sG2;have sR:=Qx (u:=ch) (v:=sm) g2;have gl:=(aQ.1 g2).1;have lR:aF aj Gt (H2.put (h.boxes.length+1) [im ch,im sm]) 50 (.ptr (.box (h.boxes.length+1)) 0)=aa (.agg [im ch,im sm]):=Ce (ey gl);have bd:=acp ch sm;have kx2:=aq.mk (ax ((x0.trans x1).trans x2) (((x0.trans x1).trans x2).fI ah (b:=h.boxes.length+1) [im ch,im sm]));clear hx hy hc ht hp hz kv e1 gu x0 x1 x2 k0 g0 k1 g1 g2 t2 hb hk p1 p2 mq kx gl sG lG;cases vv with
  |true=>
   have kr2:aq (oh ae ag ep av text l z=((ch,sm),ai,0)):=⟨kr.out⟩;clear kr Ae sG2 lG2;unfold im at *
   refine bW @Es @bK @iW (ax @fA @ml) ?_;refine fQ A2 aw ?_;refine cq @Es @ml ?_;exact⟨_,_,rfl,kx2.out.2,by rw[kr2.out]⟩
  |false=>
   have kr2:aq (oh ae ag ep av text l z=((0,0),ay,0)):=⟨kr.out⟩;clear kr Ae sR lR;unfold im at *
   refine bW @Es @bK @iW (ax @fA @ml) ?_;refine fQ A2 aw ?_;refine cq @Es @ml ?_;exact⟨_,_,rfl,kx2.out.1,by rw[kr2.out]⟩
def anG:Tryz.f90.results.toList=[]:=aw
def anH:Tryz.f91.results.toList=[.tmp 4]:=aw
def Ko:Tryz.f149.results.toList=[]:=aw
def Hv:Tryz.f35.results.toList=[.cell 8 23,.cell 9 32]:=aw
def IS.zo{H}{x}{l}(h:IS H x l):x.bU=aa [x]:=by rcases h with⟨k,s,rfl,-⟩|⟨b,rfl,-⟩<;>rfl
def IX{b}:gi aj 130 (.ptr (.box b) 0) 0=aa (.ptr (.box b) 0):=aw
def abx(H)(n0 b)(t)(s)(bad)(k)(hb:H.boxes[b]?=aa [.list t s (ints bad)])(hs:s=1∨(bad=[]/\t=.nil))(hl:bad.length<1000000)(hc:dQ n0 H t):
 W7.call 90 [.ptr (.box b) 0,im k] H=aa (.ret (.tuple []),(H.app t).put b [.list (.free H.tn) 1 (ints (bad++[k]))]):=by
 have ap:=y7 (x:=k) (es:=bad) ah hs hc;have lA:=uu hb;have sA:b8 aj (H.app t) 23 (.ptr (.box b) 0) (.list (.free H.tn) 1 (ints (bad++[k])))=aa ((H.app t).put b [.list (.free H.tn) 1 (ints (bad++[k]))]):=
  fw (off:=0) (cs:=[.list t s (ints bad)]) (xs:=[.list (.free H.tn) 1 (ints (bad++[k]))]) rfl jN (by rw[eS];exact hb) rfl (aJ 1)
 have bl:=rC k;clear hb hs hc;unfold im at *
 refine cN rfl Tryz.func90 rfl ?_;exact qM @anG @IX @WK
def ajS(h)(L Z)(hL:L.bU=aa [L])(hZ:Z.bU=aa [Z]):W7.call 91 [L,Z] h=aa (.ret (.func (.func 149) [] [.ptr (.box h.boxes.length) 0,.ptr (.box (h.boxes.length+1)) 0]),(h.push [L]).push [Z]):=by refine cN rfl Tryz.func91 rfl ?_;exact qM @anH @bK @cH
def ajT(lp pb zb:Nat)(L Z:AV)(l:List Pr)(z:List Int)(Inv:Nat->ao->Prop)(hp:PL L l)(dy:l.length<=1000000)(oC:z.length=l.length)
 (h1:∀k H,Inv k H->H.boxes[pb]?=aa [L]/\H.boxes[zb]?=aa [Z]/\IS H Z z)
 (hP:∀k H cs,Inv k H->Inv k (H.push cs))
 (hR:∀k H,k<l.length->Inv k H->∃H',W7.round lp [im (oX l k),im (al z k)] H=aa (.ret (.v (.bool ai)),H')/\Inv (k+1) H')
 (H0:ao) (h0:Inv 0 H0):∃H',W7.call 149 [.yield lp,.ptr (.box pb) 0,.ptr (.box zb) 0] H0=aa (.ret (.tuple []),H')/\Inv l.length H':=by
 have kk:=aq.mk (ax h1 (ax hP (ax hR (ax h0 hp))));obtain⟨b1,-,-⟩:=h1 0 H0 h0;have l1:aF aj Gt H0 29 (.ptr (.box pb) 0)=aa L:=cI xO b1 rfl;have ln:=hp.dN;have zp:=Cz;clear h1 hP hR h0 hp b1;refine ij rfl Tryz.func149 rfl ?_;refine bR @Ko ?_;refine de (λm e H=>∃k:Nat,k<=l.length/\m=l.length - k/\aq (Inv k H)/\e.get 0=.yield lp/\e.get 2=.ptr (.box zb) 0/\e.get 6=L/\e.get 7=.v (.int .i64 (l.length:Nat))/\e.get 8=.v (.int .i64 (k:Nat))/\e.defers=[]) ?_ l.length _ _ ?_;rotate_left 1
 ·refine⟨0,df _,rfl,⟨kk.out.2.2.2.1⟩,?_,?_,?_,?_,?_,?_⟩<;>exact gR
 clear l1 ln;rintro m e H ⟨k,hk,rfl,kI,g0,g2,g6,g7,g8,hd⟩;by_cases az:k<l.length;rotate_left 1
 ·have:k=l.length:=by omega
  subst this;refine bR @Ko ?_;exact⟨_,rfl,kI.out⟩
 obtain⟨p,DL⟩:∃p,l[k]?=aa p:=⟨_,a9 az⟩;have ix:=kk.out.2.2.2.2.ix az;have Wj:=D3 (H:=H) (s:=4) DL;have sp:=AA (H:=H) p;have kI2:=aq.mk (kk.out.2.1 k H (cD p) kI.out);obtain⟨-,b2,b3⟩:=kk.out.1 k _ kI2.out;have lz:aF aj Gt (H.push (cD p)) 23 (.ptr (.box zb) 0)=aa Z:=cI mW b2 rfl;have lk:aF aj Gt (H.push (cD p)) 3 (.ptr (.box H.boxes.length) 0)=aa (.v (.int .i64 p.aC)):=cI eM (bp _ _) rfl;obtain⟨a,iz,ldz⟩:=b3.at (i:=k) ah;have lz2:=ldz _ b3;obtain⟨H',r1,r2⟩:=kk.out.2.2.1 k _ az kI2.out;rw[Wa DL] at r1;have kI3:=aq.mk r2;have ir:(k:Int)<(l.length:Int):=by omega
 clear ldz b2 b3 r2 kI kI2 DL;generalize al z k=zk at *
 unfold im at *
 generalize p.aC=pk at *
 refine eg @Ko @bK @jx ?_;refine fQ A2 aw ?_;refine eg @Ko @jx @zf ?_;exact⟨l.length - (k+1),by omega,k+1,by omega,rfl,kI3,by simp⟩
def abF:fY aj 131=aa ay:=aw
def ap7:dm aj 131=aa 1:=aw
def ard:(gy aj 23).bind AV.bU=aa [nl]:=aw
def aq8:(gy aj 130).bind AV.bU=aa [nl]:=aw
def aq9:(gy aj 131).bind AV.bU=aa [.v .nilFunc]:=aw
def acj(ae)(ag)(ep)(av)(text)(l)(z)(k):(we ae ag ep av text l z k).length<=k:=by
 induction k with
 |zero=>simp[we]|succ k ih=>
  rw[So,List.length_append];have:(y9 ae ag ep av text l z k).length<=1:=by unfold y9;split<;>simp
  omega
def yN(h h1:ao)(bl:Nat)(LP:List gZ)(bad:Nat->List Int)(k:Nat)(H:ao):Prop:=
 ∃t s,H.loops=LP/\H.boxes[bl]?=aa [.list t s (ints (bad k))]/\(s=1∨(bad k=[]/\t=.nil))/\dQ h.tn H t/\dj H=ai/\Ext h H/\h1.boxes.length<=H.boxes.length/\∀(a:Nat) (cs:List AV),h1.boxes[a]?=aa cs->a≠bl->H.boxes[a]?=aa cs
def yN.push{h h1}{bl}{LP}{bad}{k}{H}(b:yN h h1 bl LP bad k H)(cs):yN h h1 bl LP bad k (H.push cs):=by obtain⟨t,s,i1,i2,i3,i4,i5,i6,i7,i8⟩:=b;exact⟨t,s,i1,aZ i2,i3,by rw[zn];exact i4,i5,i6.trans (.push _ _),by rw[cH];omega,λa cs q bE=>aZ (i8 a cs q bE)⟩
def Fw(h:ao)(bD:dj h=ai)(ep:Int)(X Y C T L Z:AV)(ae:List (List Int))(ag av:List Int)(text:List UInt8)(l:List Pr)(z:List Int)
 (hx:RL X ae) (hy:IL Y ag) (hc:IL C av) (ht:BL T text) (hp:PL L l) (cV:av.length<=1000000) (dy:l.length<=1000000) (hz:IS h Z z) (oC:z.length<=1000000):
 ∃r h',W7.call 35 [.agg (cB ep X Y C),T,L,Z] h=aa (r,h')/\Ext h h'/\∃B,r=.ret (.tuple [B,im (rD ae ag ep av text l z).2])/\IL B (rD ae ag ep av text l z).1:=by
 have bx:=yx (ep:=ep) hx hy hc;have cT:=ht.zo;have cL:=hp.zo;have z23:=ard;have z32:=Zv;have z130:=aq8;have z131:=aq9;obtain⟨H0,fA⟩:∃H0,((((h.push (cB ep X Y C)).push [T]).push [L]).push [nl]).push [im 0]=H0:=⟨_,rfl⟩;have n1:(h.push (cB ep X Y C)).boxes.length=h.boxes.length+1:=cH _ _;have n2:((h.push (cB ep X Y C)).push [T]).boxes.length=h.boxes.length+2:=by rw[cH,n1]
 have n3:(((h.push (cB ep X Y C)).push [T]).push [L]).boxes.length=h.boxes.length+3:=by rw[cH,n2]
 have n4:((((h.push (cB ep X Y C)).push [T]).push [L]).push [nl]).boxes.length=h.boxes.length+4:=by rw[cH,n3]
 have n5:H0.boxes.length=h.boxes.length+5:=by rw[<-fA,cH,n4]
 have k0:H0.boxes[h.boxes.length]?=aa (cB ep X Y C):=by rw[<-fA];exact aZ (aZ (aZ (aZ (bp _ _))))
 have k1:H0.boxes[h.boxes.length+1]?=aa [T]:=by rw[<-fA,<-n1];exact aZ (aZ (aZ (bp _ _)))
 have k2:H0.boxes[h.boxes.length+2]?=aa [L]:=by rw[<-fA,<-n2];exact aZ (aZ (bp _ _))
 have k3:H0.boxes[h.boxes.length+3]?=aa [nl]:=by rw[<-fA,<-n3];exact aZ (bp _ _)
 have k4:H0.boxes[h.boxes.length+4]?=aa [im 0]:=by rw[<-fA,<-n4];exact bp _ _
 have x0:Ext h H0:=by rw[<-fA];exact((((Ext.push _ _).trans (.push _ _)).trans (.push _ _)).trans (.push _ _)).trans (.push _ _)
 obtain⟨_,H1,c1,gu,rfl⟩:=S5 H0 ep X Y C T L Z ae ag av text l z hx hy hc ht hp cV dy (hz.mono λc cs q=>x0.box _ _ q) oC;have x1:Ext H0 H1:=by rw[gu];exact .push _ _
 have m1:H1.boxes.length=h.boxes.length+6:=by rw[gu,cH,n5]
 obtain⟨ce,rO⟩:∃e,(mX ae ag ep av text l z).2=e:=⟨_,rfl⟩;rw[rO] at c1;have g4:=x1.box _ _ k4;have gl4:=(aQ.1 g4).1;obtain⟨H2,il⟩:∃H2,H1.put (h.boxes.length+4) [im ce]=H2:=⟨_,rfl⟩;have s1:b8 aj H1 32 (.ptr (.box (h.boxes.length+4)) 0) (im ce)=aa H2:=by rw[<-il];exact fw (off:=0) (cs:=[im 0]) (xs:=[im ce]) rfl HN g4 rfl (aJ 1)
 have x2:Ext h H2:=by rw[<-il];exact(x0.trans x1).fI ah _
 have m2:H2.boxes.length=h.boxes.length+6:=by rw[<-il,mc,m1]
 have j0:H2.boxes[h.boxes.length]?=aa (cB ep X Y C):=by rw[<-il,cP ah];exact x1.box _ _ k0
 have j1:H2.boxes[h.boxes.length+1]?=aa [T]:=by rw[<-il,cP ah];exact x1.box _ _ k1
 have j2:H2.boxes[h.boxes.length+2]?=aa [L]:=by rw[<-il,cP ah];exact x1.box _ _ k2
 have j3:H2.boxes[h.boxes.length+3]?=aa [nl]:=by rw[<-il,cP ah];exact x1.box _ _ k3
 have j4:H2.boxes[h.boxes.length+4]?=aa [im ce]:=by rw[<-il];exact ey gl4
 have l0:=JN k0;have l1:aF aj Gt H0 28 (.ptr (.box (h.boxes.length+1)) 0)=aa T:=cI IA k1 rfl;have l2:aF aj Gt H0 29 (.ptr (.box (h.boxes.length+2)) 0)=aa L:=cI xO k2 rfl;have l4:aF aj Gt H2 32 (.ptr (.box (h.boxes.length+4)) 0)=aa (im ce):=cI xP j4 rfl;have kv:aq (rD ae ag ep av text l z=if dJ ae ag ep av text l≠0 then ([],dJ ae ag ep av text l) else if jV l z=ay then ([],1) else (we ae ag ep av text l z l.length,0)):=⟨rfl⟩;refine ec rfl Tryz.func35 rfl ?_;by_cases he:ce=0;rotate_left 1
 ·have kr:aq (rD ae ag ep av text l z=([],ce)):=⟨by
   rw[kv.out];by_cases q:dJ ae ag ep av text l=0
   ·rw[aG (by simp[q])];cases hk:jV l z with|false=>rw[aD rfl,<-rO];unfold mX;rw[aG (by simp[q]),aD hk]|true=>exact absurd (by rw[<-rO];unfold mX;rw[aG (by simp[q]),aG (by simp[hk])]) he
   ·rw[aD q,<-rO];unfold mX;rw[aD q]⟩
  have sA:b8 aj H2 23 (.ptr (.box (h.boxes.length+3)) 0) nl=aa H2:=by rw[fw (off:=0) (cs:=[nl]) (xs:=[nl]) rfl jN j3 rfl (aJ 1)];exact congrArg aa (nt j3)
  have sB:b8 aj H2 32 (.ptr (.box (h.boxes.length+4)) 0) (im ce)=aa H2:=by rw[fw (off:=0) (cs:=[im ce]) (xs:=[im ce]) rfl HN j4 rfl (aJ 1)];exact congrArg aa (nt j4)
  have lA:aF aj Gt H2 23 (.ptr (.box (h.boxes.length+3)) 0)=aa nl:=cI mW j3 rfl;have kx:=aq.mk x2;have dz:decide (ce=0)=ay:=cX he;have svs:fC (im ce) (im ce)=ai:=by simp[im,fC,me]
  clear hx hy hc ht hp hz kv rO gu x0 x1 x2 k0 k1 k2 k3 k4 g4 gl4 il j0 j1 j2 j3 j4 n5 m1 m2;unfold im at *
  refine bW @Hv @bK @n1 (ax @n2 (ax @n3 (ax @n4 @fA))) ?_;refine oG [(0,1)] A2 aw (λp hp=>?_) ?_
  ·simp only[List.mem_singleton] at hp;subst hp;refine yH (x:=.ptr (.box (h.boxes.length+4)) 0) (v:=.v (.int .i64 ce)) aw rfl rfl rfl aw (svs) ?_ ?_<;>(simp only[iK,gm];exact jq @Hv @and_self)
  refine bR @Hv ?_;exact⟨_,_,rfl,kx.out,_,by rw[kr.out],by rw[kr.out];exact⟨_,_,rfl,λq=>absurd rfl q⟩⟩
 subst he;have hb:dJ ae ag ep av text l=0:=by
  by_cases q:dJ ae ag ep av text l=0
  ·exact q
  ·unfold mX at rO;rw[aD q] at rO;exact rO
 have hk:jV l z=ai:=by
  cases hk:jV l z with|true=>rfl|false=>unfold mX at rO;rw[aG (by simp[hb]),aD hk] at rO;cases rO
 obtain⟨q1,q2⟩:=Cl.1 hk;have kr:aq (rD ae ag ep av text l z=(we ae ag ep av text l z l.length,0)):=⟨by rw[kv.out,aG (by simp[hb]),aG (by simp[hk])]⟩;have kf:aq (∀k,k<l.length->∀h,W7.call 22 [.agg (cB ep X Y C),T,L,im (oX l k),im (al z k)] h=aa (.ret (.tuple [.v (.bool (o8 ae ag ep av text l (oX l k) (al z k)).1),im 0]),h)):=⟨λk zS=>by have:=afm ep X Y C T L ae ag av text l hx hy hc ht hp cV dy (oX l k) (al z k);rw[afq hb hk zS] at this;exact this⟩;obtain⟨H3,pC⟩:∃H3,H2.push [nl]=H3:=⟨_,rfl⟩;obtain⟨H4,tf⟩:∃H4,H3.push [.func (.func 90) [.ptr (.box (h.boxes.length+6)) 0] []]=H4:=⟨_,rfl⟩;have m3:H3.boxes.length=h.boxes.length+7:=by rw[<-pC,cH,m2]
 have m4:H4.boxes.length=h.boxes.length+8:=by rw[<-tf,cH,m3]
 have s4:b8 aj (H3.push [.v .nilFunc]) 131 (.ptr (.box (h.boxes.length+7)) 0) (.func (.func 90) [.ptr (.box (h.boxes.length+6)) 0] [])=aa H4:=by rw[<-tf,<-m3];exact jt rfl ap7 rfl rfl
 obtain⟨H6,tg⟩:∃H6,(H4.push [L]).push [Z]=H6:=⟨_,rfl⟩;have c2:=ajS H4 L Z cL hz.zo;rw[tg,m4] at c2;have o2:∀{b:Nat} {cs:List AV},H2.boxes[b]?=aa cs->H6.boxes[b]?=aa cs:=λq=>by rw[<-tg,<-tf,<-pC];exact aZ (aZ (aZ (aZ q)))
 have j6:H6.boxes[h.boxes.length+6]?=aa [nl]:=by rw[<-tg,<-tf,<-pC,<-m2];exact aZ (aZ (aZ (bp _ _)))
 have j7:H6.boxes[h.boxes.length+7]?=aa [.func (.func 90) [.ptr (.box (h.boxes.length+6)) 0] []]:=by rw[<-tg,<-tf,<-m3];exact aZ (aZ (bp _ _))
 have j8:H6.boxes[h.boxes.length+8]?=aa [L]:=by rw[<-tg,<-m4];exact aZ (bp _ _)
 have j9:H6.boxes[h.boxes.length+9]?=aa [Z]:=by
  rw[<-tg];have:=bp (H4.push [L]) [Z]
  rwa [cH,m4] at this
 have x6:Ext h H6:=by rw[<-tg,<-tf,<-pC];exact(((x2.trans (.push _ _)).trans (.push _ _)).trans (.push _ _)).trans (.push _ _)
 have BK:=x6.ok bD;have l3:aF aj Gt H4 29 (.ptr (.box (h.boxes.length+2)) 0)=aa L:=cI xO (by rw[<-tf,<-pC];exact aZ (aZ j2)) rfl;have y0:=o2 j0;have y1:=o2 j1;have y2:=o2 j2;have y3:=o2 j3;have y4:=o2 j4;have OB:IS H6 Z z:=hz.mono λc cs q=>x6.box _ _ q;clear x0 x1 x2 k0 k1 k2 k3 k4 g4 gl4 j0 j1 j2 j3 j4 o2 gu il tg tf rO kv hb hk;unfold im at *
 refine bW @Hv @bK @n1 (ax @n2 (ax @n3 (ax @n4 (ax @fA (ax @m2 (ax @m3 @pC)))))) ?_;refine bM.gen λe4 fV rP uk rW=>?_;have f4:e4.get 4=.ptr (.box h.boxes.length) 0:=by rw[fV];exact gS
 have f5:e4.get 5=.ptr (.box (h.boxes.length+1)) 0:=by rw[fV];simp only[gW,reduceIte,aY,aR,n1]
 have f6:e4.get 6=.ptr (.box (h.boxes.length+2)) 0:=by rw[fV];simp only[gW,reduceIte,aY,aR,n2]
 have f8:e4.get 8=.ptr (.box (h.boxes.length+3)) 0:=by rw[fV];simp only[gW,reduceIte,aY,aR,n3]
 have f9:e4.get 9=.ptr (.box (h.boxes.length+4)) 0:=by rw[fV];simp only[gW,reduceIte,aY,aR,n4]
 have f10:e4.get 10=.ptr (.box (h.boxes.length+6)) 0:=by rw[fV];simp only[gW,reduceIte,aY,aR,m2]
 have f11:e4.get 11=.ptr (.box (h.boxes.length+7)) 0:=by rw[fV];simp only[gW,reduceIte,aY,aR,m3]
 have f30:e4.get 30=.func (.func 149) [] [.ptr (.box (h.boxes.length+8)) 0,.ptr (.box (h.boxes.length+8+1)) 0]:=by rw[fV];exact gS
 have fd:e4.defers=[]:=by rw[rP];exact gS
 clear fV rP uk rW c1 c2 s1 s4 l0 l1 l2 l3 l4 bx cT cL z23 z32 z130 z131 fA n1 n2 n3 n4 n5 m1 pC m2 m3 m4;refine Ct (by rw[zw];exact f30) λrec w1 w2 w3 w4 w5 w6=>?_;obtain⟨bad,FY⟩:∃bad:Nat->List Int,bad=we ae ag ep av text l z:=⟨_,rfl⟩;have kb0:aq (bad 0=[]):=⟨by rw[FY];rfl⟩;have kbs:aq (∀k,bad (k+1)=bad k++y9 ae ag ep av text l z k):=⟨λk=>by rw[FY];exact So _ _ _ _ _ _ _ _⟩;have kbl:aq (∀k,(bad k).length<=k):=⟨λk=>by rw[FY];exact acj _ _ _ _ _ _ _ _⟩;rw[<-FY] at kr;clear FY;have gv:(H6.loop rec).loops[H6.loops.length]?=aa rec:=@Ch H6 rec;have XL:Ext h (H6.loop rec):=x6.trans ((Fr.Ai (bn:=H6.boxes.length) (l0:=H6.loops.length) (n0:=H6.tn) H6 rec).ext (aJ _) (aJ _) (aJ _));have NZ:=(aQ.1 j9).1;have feed:=ajT H6.loops.length (h.boxes.length+8) (h.boxes.length+8+1) L Z l z (yN h H6 (h.boxes.length+6) (H6.loop rec).loops bad) hp dy q1
  (λk H q=>by obtain⟨_,_,-,-,-,-,-,q6,-,q8⟩:=q;exact⟨q8 _ _ j8 ah,q8 _ _ j9 ah,hz.mono λc cs q=>q6.box _ _ q⟩)
  (λk H cs q=>q.push cs) ?_ (H6.loop rec) ⟨.nil,0,rfl,by rw[kb0.out];exact j6,.inr ⟨kb0.out,rfl⟩,.inl rfl,BK,XL,aJ _,λa cs q _=>q⟩
 rotate_left 1
 ·rintro k H hk ⟨t,s,i1,i2,i3,i4,i5,i6,i7,i8⟩;have ui:H.loops[H6.loops.length]?=aa rec:=by rw[i1];exact gv
  refine Hg (Post:=yN h H6 (h.boxes.length+6) (H6.loop rec).loops bad (k+1)) ui (by rw[w2];rfl) w5 w6 ?_;have r1:∀t,(mT H6.loops.length rec [im (oX l k),im (al z k)]).get t=if 32=t then im (al z k) else if 31=t then im (oX l k) else e4.get t:=λt=>Hd w2 w1
  have d1:(mT H6.loops.length rec [im (oX l k),im (al z k)]).defers=[]:=rfl;obtain⟨K,hK⟩:∃K,H.busy H6.loops.length rec=K:=⟨_,rfl⟩;have pX:K.boxes=H.boxes:=by rw[<-hK];rfl
  have u0:=JN (H:=K) (by rw[pX];exact i8 _ _ y0 ah);have u1:aF aj Gt K 28 (.ptr (.box (h.boxes.length+1)) 0)=aa T:=cI IA (by rw[pX];exact i8 _ _ y1 ah) rfl;have u2:aF aj Gt K 29 (.ptr (.box (h.boxes.length+2)) 0)=aa L:=cI xO (by rw[pX];exact i8 _ _ y2 ah) rfl;have u3:aF aj Gt K 131 (.ptr (.box (h.boxes.length+7)) 0)=aa (.func (.func 90) [.ptr (.box (h.boxes.length+6)) 0] []):=cI abF (by rw[pX];exact i8 _ _ j7 ah) rfl;have c1:=kf.out k hk;have kb1:K.boxes[h.boxes.length+6]?=aa [.list t s (ints (bad k))]:=by rw[pX];exact i2
  have kc1:dQ h.tn K t:=by rw[<-hK];exact i4
  have jr:=kbl.out k;have nj:=kbs.out k;unfold y9 at nj;cases nk:(o8 ae ag ep av text l (oX l k) (al z k)).1 with
  |true=>
   rw[nk] at c1 nj;rw[aD rfl,jv] at nj;have eZ:aq (yN h H6 (h.boxes.length+6) (H6.loop rec).loops bad (k+1) H):=⟨t,s,i1,by rw[nj];exact i2,by rw[nj];exact i3,i4,i5,i6,i7,i8⟩;clear i1 i2 i3 i4 i5 i6 i7 i8 nj jr kb1 kc1 nk y0 y1 y2 y3 y4 j6 j7 j8 j9 x6 XL BK gv NZ hp hz OB pX;generalize oX l k=wk at *
   generalize al z k=zk at *
   rw[hK];rw[w3,w4];unfold im at *
   refine bW @r1 @d1 @IX @jO.{0} ?_;exact⟨aT,aT,aT,(by first|trivial|rfl),by rw[<-hK];exact eZ.out⟩
  |false=>
   rw[nk] at c1 nj;rw[aG bG] at nj;have ca:=abx K h.tn (h.boxes.length+6) t s (bad k) (oX l k) kb1 i3 ah kc1;rw[<-nj] at ca;have gr:=Grown.one i4 i5 i6.tn;have eZ:aq (yN h H6 (h.boxes.length+6) (H6.loop rec).loops bad (k+1) ((H.app t).put (h.boxes.length+6) [.list (.free H.tn) 1 (ints (bad (k+1)))])):=by
    have tE:=(aQ.1 i2).1;refine⟨_,1,?_,?_,.inl rfl,by rw[A3];exact gr.can,gr.ok,(gr.ext i6 (aJ _)).fI ah _,by rw[mc,eS];exact i7,λa cs ha bE=>?_⟩
    ·show(H.app t).loops=_;rw[wc];exact i1
    ·exact ey (by rw[eS];exact tE)
    ·rw[cP bE,eS];exact i8 a cs ha bE
   have Uu:K.tn=H.tn:=(by rw[<-hK];rfl);rw[Uu] at ca;clear i1 i2 i3 i4 i5 i6 i7 i8 nj jr kb1 kc1 gr nk y0 y1 y2 y3 y4 j6 j7 j8 j9 x6 XL BK gv NZ hp hz OB pX Uu;generalize oX l k=wk at *
   generalize al z k=zk at *
   rw[hK];rw[w3,w4];unfold im at *
   refine bW @r1 @d1 @IX @jO.{0} ?_;refine⟨aT,aT,aT,?_,?_⟩
   ·show(K.app t).loops=_;rw[wc]
   ·rw[<-hK];refine(congrArg (yN h H6 (h.boxes.length+6) (H6.loop rec).loops bad (k+1)) ?_).mpr eZ.out;cases t<;>rfl
 ·obtain⟨Hf,c1,t,s,i1,i2,i3,i4,i5,i6,i7,i8⟩:=feed;refine⟨_,_,c1,rec,by rw[i1];exact gv,by rw[w5];decide,.inl ⟨w6,?_⟩⟩;have v6:(Hf.eH H6.loops.length {rec with state:=.exhausted}).boxes[h.boxes.length+6]?=aa [.list t s (ints (bad l.length))]:=i2;have v3:(Hf.eH H6.loops.length {rec with state:=.exhausted}).boxes[h.boxes.length+3]?=aa [nl]:=i8 _ _ y3 ah;have v4:(Hf.eH H6.loops.length {rec with state:=.exhausted}).boxes[h.boxes.length+4]?=aa [im 0]:=i8 _ _ y4 ah;have Dt:h.loops.length<=H6.loops.length:=x6.D5;have XF:Ext h (Hf.eH H6.loops.length {rec with state:=.exhausted}):=((Fr.Cj (bn:=h.boxes.length) (l0:=h.loops.length) (n0:=h.tn) i6 (aJ _)).trans (.eH Dt _)).ext (aJ _) (aJ _) (aJ _);generalize Hf.eH H6.loops.length {rec with state:=.exhausted}=HF at *
  have g3:=(aQ.1 v3).1;have lA:aF aj Gt HF 23 (.ptr (.box (h.boxes.length+6)) 0)=aa (.list t s (ints (bad l.length))):=cI mW v6 rfl;have sA:b8 aj HF 23 (.ptr (.box (h.boxes.length+3)) 0) (.list t s (ints (bad l.length)))=aa (HF.put (h.boxes.length+3) [.list t s (ints (bad l.length))]):=
   fw (off:=0) (cs:=[nl]) (xs:=[.list t s (ints (bad l.length))]) rfl jN v3 rfl (aJ 1)
  obtain⟨HG,FQ⟩:∃HG,HF.put (h.boxes.length+3) [.list t s (ints (bad l.length))]=HG:=⟨_,rfl⟩;have v3':HG.boxes[h.boxes.length+3]?=aa [.list t s (ints (bad l.length))]:=by rw[<-FQ];exact ey g3
  have v4':HG.boxes[h.boxes.length+4]?=aa [im 0]:=by rw[<-FQ,cP ah];exact v4
  have XG:Ext h HG:=by rw[<-FQ];exact XF.fI ah _
  rw[FQ] at sA;have sB:b8 aj HG 32 (.ptr (.box (h.boxes.length+4)) 0) (im 0)=aa HG:=by rw[fw (off:=0) (cs:=[im 0]) (xs:=[im 0]) rfl HN v4' rfl (aJ 1)];exact congrArg aa (nt v4')
  have lR:aF aj Gt HG 23 (.ptr (.box (h.boxes.length+3)) 0)=aa (.list t s (ints (bad l.length))):=cI mW v3' rfl;have lE:aF aj Gt HG 32 (.ptr (.box (h.boxes.length+4)) 0)=aa (im 0):=cI xP v4' rfl;have eZ:=aq.mk (ax XG i3);clear i1 i2 i3 i4 i5 i6 i7 i8 c1 y0 y1 y2 y3 y4 j6 j7 j8 j9 x6 XL BK gv NZ hp hz OB w1 w2 w3 w4 w5 w6 v3 v4 v6 v3' v4' XG XF FQ g3;unfold im at *
  refine cq @Hv @IX ?_;exact⟨_,_,rfl,eZ.out.1,_,by rw[kr.out],by rw[kr.out];exact⟨t,s,rfl,λq=>eZ.out.2.resolve_right λz=>q z.1⟩⟩
end Go.Proofs.YtnfciiiohoafaaaGreatDoor
end
