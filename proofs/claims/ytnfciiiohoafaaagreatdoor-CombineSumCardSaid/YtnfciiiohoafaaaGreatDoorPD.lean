/-
  The engine, part 37: new boxes beside a call that writes one box.
-/
import Derived.Test.YtnfciiiohoafaaaGreatDoorPC
open Int renaming tmod_eq_emod_of_nonneg→acF,mul_nonneg→agI,mul_le_mul→agJ,pow_succ→adS,mul_emod→aeh,emod_emod_of_dvd→adh,dvd_refl→aei,pow_mul→ae5,pow_zero→afO,one_mul→ae4,tdiv_eq_ediv_of_nonneg→afE,toNat_natCast→abB,natCast_zero→acT,natCast_one→afV,natCast_mul→acY,fdiv_eq_ediv_of_nonneg→ac3,sub_zero→aeE
open List renaming foldl_append→acs,getElem?_eq_some_iff→abm,take_succ_eq_append_getElem→afc,getElem?_eq_getElem→abo,take_length→abU,set_append_right→adr,set_eq_of_length_le→afR,ext_getElem?→acG,getElem?_set→aci,set_set→aeD,take→agn,getD_eq_getElem?_getD→abw,replicate→abt,head?_drop→aeu,getElem?_map→abF,length_map→abu,set_eq_take_append_cons_drop→acy,length_append→abx,length_replicate→ack,replicate_succ→adl,set_cons_zero→aeU,append_assoc→acI,nil_append→ab9,map_replicate→aev,getElem?_drop→acw,range→aby,zipWith→aeA,take_of_length_le→abD,drop_of_length_le→acm,append_nil→ab2,map_drop→agc,length_drop→abS,mem_cons→acd,not_mem_nil→adj,take_succ_cons→abO,take_zero→abY,drop_zero→abZ,drop_succ_cons→acZ,head?_cons→adU,mem_singleton→acg,take_append_drop→acN,length_take→abI,drop_drop→adb,drop_append_of_le_length→aex,drop_replicate→aek,map_append→acv,map_cons→abK,drop_append→adt,all_eq_true→abE,take_left'→aew,cons_append→ab3,length_set→aca,length_nil→ab7,getElem?_toArray→abP,getElem?_cons_zero→abN,getElem?_cons_succ→ace,flatten_append→acr,mem_flatten→aeG
open Nat renaming zero_le→abG,reduceEqDiff→abn,one_mul→aeb,le_refl→abq,mod_two_eq_zero_or_one→ac4,Coprime→acR,mod_lt→acK,le_of_lt→acz,add_zero→adO,mul_mod→adk,pow_mod→ae6,mul_assoc→ae8,pow_two→agw,pow_mul→aeK,mul_one→acM,mod_eq_of_lt→acn,mul_le_mul→acP,eq_of_beq_eq_true→abR,pow_succ→aeg,shiftLeft_eq→adK,shiftLeft_add_eq_or_of_lt→ads,lt_of_lt_of_le→ab8,pow_le_pow_right→afm,sub_self→adx,zero_add→acB,sub_zero→afe,min_eq_left→adD,le_trans→abT,mul_zero→agU,le_of_ble_eq_true→abX,and_two_pow_sub_one_eq_mod→afn,mul_pos→afW,pow_pos→afY,add_mul→ab4,lt_succ_of_lt→ac1
open Bool renaming and_eq_true→abr,true_and→ac2
open And renaming intro→abp
open Option renaming bind_some→acu
set_option maxHeartbeats 64000000
set_option maxRecDepth 100000
set_option linter.unusedSimpArgs false
set_option linter.unusedVariables false
set_option linter.constructorNameAsVariable false
section
namespace Go.Proofs.YtnfciiiohoafaaaGreatDoor
open Go.AE Go.NT
theorem pq(n:Int):(n.tmod 1073741789<0->fmod n=n.tmod 1073741789+1073741789)/\(¬n.tmod 1073741789<0->fmod n=n.tmod 1073741789)/\ -1073741789<n.tmod 1073741789/\n.tmod 1073741789<1073741789:=by
 unfold fmod Qi
 rcases Int.le_total 0 n with h|h
 ·rw[acF h];omega
 ·obtain⟨m,rfl⟩:∃m,n= -m:=⟨-n,by omega⟩
  rw[Int.neg_tmod,acF (by omega)];omega
theorem Qr:Tryz.f82.results.toList=[.tmp 2]:=kZq
theorem OE:Tryz.f81.results.toList=[.tmp 2]:=kZq
theorem SF:Tryz.f28.results.toList=[.tmp 4]:=kZq
theorem SG:Tryz.f29.results.toList=[.tmp 4]:=kZq
theorem ze(n:Int)(h:ae):W.call 82 [im n] h=some (.ret (im (fmod n)),h):=by
 obtain⟨m1,m2,m3,m4⟩:=pq n
 unfold im
 refine ar rfl Tryz.func82 rfl ?_
 by_cases c:n.tmod 1073741789<0
 ·have e:=m1 c
  clear m1 m2
  exact YX @Qr
 ·have e:=m2 c
  clear m1 m2
  exact YX @Qr
theorem Dk(n:Int):0<=fmod n/\fmod n<1073741789:=mJ n
theorem rC{a:Int}(h:0<=a):a.tmod 1073741789=a%1073741789:=acF h
theorem Dl(a b:Int)(h:ae):W.call 29 [im a,im b] h=some (.ret (im (cq a b)),h):=by
 have ca:=ze a
 have cb:=ze b
 obtain⟨a1,a2⟩:=Dk a
 obtain⟨b1,b2⟩:=Dk b
 have p0:0<=fmod a * fmod b:=agI a1 b1
 have p1:fmod a * fmod b<=1073741789 * 1073741789:=agJ (by omega) (by omega) b1 (by omega)
 have e:cq a b=(fmod a * fmod b).tmod 1073741789:=by rw[rC p0];rfl
 rw[e]
 unfold im at *
 refine ar rfl Tryz.func29 rfl ?_
 exact YX @SG
def tU(l:List Int):Int:=l.foldl cN 0
theorem xr(l:List Int)(x:Int):tU (l++[x])=cN (tU l) x:=by unfold tU;rw[acs];rfl
theorem Es(l:List Int):okF (tU l):=by
 rcases List.eq_nil_or_concat l with rfl|⟨l',x,rfl⟩
 ·exact iJ
 ·rw[List.concat_eq_append,xr];exact oI _ _
theorem a9{α:Type}{l:List α}{i:Nat}{x:α}(h:l[i]?=some x):l.take (i+1)=l.take i++[x]:=by
 obtain⟨hi,rfl⟩:=abm.1 h
 rw[afc hi]
theorem OF(l:List Int)(k:Tok)(hl:l.length<=9223372036854775807)(h:ae):W.call 81 [.list k 1 (ints l)] h=some (.ret (im (tU l)),h):=by
 have u23:=Tryz.underlying23
 have a3:=ag3;have s3:=sz3
 refine ar rfl Tryz.func81 rfl ?_
 refine ZM @OE @aU ?_
 refine aD (fun m e h'=>∃i:Nat,i<=l.length/\m=l.length - i/\e.get 6=.list k 1 (ints l)/\e.get 7=.v (.int .i64 (l.length:Nat))/\e.get 8=.v (.int .i64 i)/\e.get 3=.v (.int .i64 (tU (l.take i)))/\e.defers=[]/\h'=h) ?_ l.length _ _ ?_
 rotate_left 1
 ·refine⟨0,abG _,rfl,?_,?_,?_,?_,?_,rfl⟩<;>(first|assumption|(simp only[gW,reduceIte,abn,gBQ,aU]<;>rfl))
 rintro m e h' ⟨i,hi,rfl,g6,g7,g8,g3,hd,rfl⟩
 by_cases hlt:i<l.length
 ·obtain⟨x,hx⟩:∃x,l[i]?=some x:=⟨_,abo hlt⟩
  have hr:(ints l)[i]?=some (nC x):=by rw[A2,hx];rfl
  have hlt3:(i:Int)<((ints l).length:Int):=by rw[aU];omega
  have cx:=ze x
  obtain⟨x1,x2⟩:=Dk x
  obtain⟨s1,s2⟩:=Es (l.take i)
  have s2:tU (l.take i)<1073741789:=s2
  have e1:tU (l.take (i+1))=(tU (l.take i)+fmod x).tmod 1073741789:=by
   rw[a9 hx,xr,rC (by omega)]
   show(fmod (tU (l.take i))+fmod x)%Qi=_
   rw[ph (Es _)];rfl
  unfold im at cx
  generalize tU (l.take i)=s at *
  have hld:=Er (h:=h') hx
  unfold im at hld
  repeat' (first|simp(maxSteps:=999999)(disch:=first|exact dZ|fail)only[gW,reduceIte,abn,gBQ,OE,aU,al, *]|(refine dX ?_ ?_<;>(intro _;try omega))|refine aP kZq ?_)
  exact⟨l.length - (i+1),by omega,i+1,by omega,rfl,by trivial,by trivial,by simp,by rw[e1],by trivial,by trivial⟩
 ·have:i=l.length:=by omega
  subst this
  rw[abU] at g3
  repeat' (first|simp(maxSteps:=999999)(disch:=first|exact dZ|fail)only[gW,reduceIte,abn,gBQ,OE,aU,im, *]|(refine dX ?_ ?_<;>(intro _;try omega))|refine aP kZq ?_)
theorem OG(a b:Int)(h:ae):W.call 28 [im a,im b] h=some (.ret (im (cN a b)),h):=by
 have c:=OF [a,b] .tight (by simp) h
 have e:tU [a,b]=cN a b:=by
  show cN (cN 0 a) b=cN a b
  rw[jU,jU,jU,Int.zero_add,Int.emod_add_emod]
 rw[e] at c
 have bl:aN Tryz.prog 23 2 [(0,im a),(1,im b)]=some (.list .tight 1 (ints [a,b])):=kZq
 unfold im at *
 refine ar rfl Tryz.func28 rfl ?_
 exact YX @SF
theorem Dm(a:Int):∀k:Nat,(a%Qi)^k%Qi=a^k%Qi:=by
 intro k
 induction k with
 |zero=>simp
 |succ k ih=>rw[adS,adS,aeh,ih,adh _ (aei _),<-aeh]
theorem Mm(n:Int)(k:Nat):(((fmod n).toNat^k%Q:Nat):Int)=n^k%Qi:=by
 rw[Int.natCast_emod,Int.natCast_pow,mN,<-qw]
 exact Dm n k
def jI(r:Int)(l:Nat)(s x:Int):Prop:=okF x/\(x * s^l)%Qi=r
theorem jI.odd{r s x:Int}{l:Nat}(h:jI r l s x)(ho:l%2=1):jI r (l/2) (cq s s) (cq x s):=by
 refine⟨ru _ _,?_⟩
 rw[<-h.2,fR,fR,aeh,Dm,adh _ (aei _),<-aeh,Int.mul_assoc]
 congr 2
 have e:l=2 * (l/2)+1:=by omega
 rw[show s^l=s^(2 * (l/2)+1) by rw[<-e],adS,ae5,Int.mul_comm,show s * s=s^2 by rw[adS,adS,afO,ae4]]
theorem jI.even{r s x:Int}{l:Nat}(h:jI r l s x)(ho:l%2=0):jI r (l/2) (cq s s) x:=by
 refine⟨h.1,?_⟩
 rw[<-h.2,fR,aeh,Dm,<-aeh]
 congr 2
 have e:l=2 * (l/2):=by omega
 rw[show s^l=s^(2 * (l/2)) by rw[<-e],ae5,show s * s=s^2 by rw[adS,adS,afO,ae4]]
theorem jI.done{r s x:Int}(h:jI r 0 s x):x=r:=by
 rw[<-h.2,afO,Int.mul_one]
 exact(Int.emod_eq_of_lt h.1.1 h.1.2).symm
theorem jI.start(n:Int):jI (eZ n) 1073741787 n 1:=by
 refine⟨by unfold okF;decide,?_⟩
 have e:(eZ n)=(((fmod n).toNat^(Q - 2)%Q:Nat):Int):=by
  unfold eZ
  rw[nu (by decide) (by decide) (by decide),aeb]
 rw[e,Mm,ae4]
 rfl
theorem A3:Tryz.f201.results.toList=[.tmp 2,.tmp 3]:=kZq
theorem Dn(n:Int)(h:ae):W.call 201 [im n] h=some (.ret (.tuple [im (if fmod n=0 then 0 else eZ n),im (if fmod n=0 then 90 else 0)]),h):=by
 have cn:=ze n
 by_cases hz:fmod n=0
 ·rw[if_pos hz,if_pos hz]
  unfold im at *
  refine ar rfl Tryz.func201 rfl ?_
  exact YX @A3
 ·rw[if_neg hz,if_neg hz]
  have P0:=ah.mk (jI.start n)
  unfold im at *
  refine ar rfl Tryz.func201 rfl ?_
  refine Zg @A3 ?_
  refine aD (fun m e h'=>∃(s x:Int),m<=1073741787/\jI (eZ n) m s x/\e.get 4=.v (.int .i64 (m:Nat))/\e.get 5=.v (.int .i64 s)/\e.get 2=.v (.int .i64 x)/\e.defers=[]/\h'=h) ?_ 1073741787 _ _ ?_
  rotate_left 1
  ·exact⟨n,1,abq _,P0.out,by exact gR,by exact gR,by exact gR,by exact gR,rfl⟩
  rintro l e h' ⟨s,x,hl,hI,g4,g5,g2,hd,rfl⟩
  have kI:=ah.mk hI
  have c1:=Dl x s
  have c2:=Dl s s
  unfold im at c1 c2
  by_cases h0:l=0
  ·subst h0
   have hx:=hI.done
   clear hI
   exact YX @A3
  ·have hdiv:((l:Nat):Int).tdiv 2=((l/2:Nat):Int):=by rw[afE (by omega)];omega
   have hmod:((l:Nat):Int).tmod 2=((l%2:Nat):Int):=by rw[acF (by omega)];omega
   have hz2:¬((l:Nat):Int)=0:=by omega
   clear hI
   rcases ac4 l with ho|ho
   ·rw[ho] at hmod
    repeat' (first|simp(maxSteps:=999999)(disch:=first|exact dZ|fail)only[gW,reduceIte,abn,gBQ,A3, *]|(refine dX ?_ ?_<;>(intro _;try omega))|refine aP kZq ?_)
    exact⟨l/2,by omega,_,_,by omega,kI.out.even ho,by trivial,by trivial,by trivial,by trivial,by trivial⟩
   ·rw[ho] at hmod
    repeat' (first|simp(maxSteps:=999999)(disch:=first|exact dZ|fail)only[gW,reduceIte,abn,gBQ,A3, *]|(refine dX ?_ ?_<;>(intro _;try omega))|refine aP kZq ?_)
    exact⟨l/2,by omega,_,_,by omega,kI.out.odd ho,by trivial,by trivial,by trivial,by trivial,by trivial⟩
def sgn(b:Bool):Nat:=if b=true then 0 else 1
def rD(x a n:Nat)(sq:Bool):Prop:=1<=a/\n%2=1/\acR a n/\a<=P/\n<=P/\mu x P%2=(mu a n+sgn sq)%2
theorem Et(b:Bool):(sgn (!b)+1)%2=sgn b%2:=by cases b<;>rfl
theorem rD.even{x a n:Nat}{sq:Bool}(h:rD x a n sq)(he:a%2=0):rD x (a/2) n (if n%8=3∨n%8=5 then !sq else sq):=by
 obtain⟨h1,h2,h3,h4,h5,h6⟩:=h
 have e:a=2 * (a/2):=by omega
 have hc:acR (2 * (a/2)) n:=by rw[<-e];exact h3
 have hs:=F4 h2 hc
 rw[<-e] at hs
 refine⟨by omega,h2,Nat.Coprime.coprime_mul_left hc,by omega,h5,?_⟩
 rw[h6]
 have:=Et sq
 split at hs<;>rename_i q
 ·rw[if_pos q];omega
 ·rw[if_neg q];omega
theorem rD.odd{x a n:Nat}{sq:Bool}(h:rD x a n sq)(ho:a%2=1)(hg:1<a):rD x (n%a) a (if a%4=3/\n%4=3 then !sq else sq):=by
 obtain⟨h1,h2,h3,h4,h5,h6⟩:=h
 have hs:=IZ h2 ho h3
 have hl:=acK n (show 0<a by omega)
 have h0:n%a≠0:=fun q=>by
  have hd:=Nat.dvd_of_mod_eq_zero q
  have:=Nat.dvd_gcd (Nat.dvd_refl a) hd
  rw[h3] at this
  have:=Nat.le_of_dvd (by decide) this
  omega
 refine⟨by omega,ho,y6 h3,by omega,h4,?_⟩
 rw[h6]
 have:=Et sq
 split at hs<;>rename_i q
 ·rw[if_pos q];omega
 ·rw[if_neg q];omega
theorem rD.done{x n:Nat}{sq:Bool}(h0:1<=x)(hx:x<P)(h:rD x 1 n sq):elem x=sq:=by
 obtain⟨-,h2,-,-,-,h6⟩:=h
 rw[Oz (h:=n/2) (by omega)] at h6
 rw[Mj h0 hx]
 cases sq
 ·rw[decide_eq_false]
  rw[h6];decide
 ·rw[decide_eq_true]
  rw[h6];rfl
theorem rD.start{x:Nat}(h0:1<=x)(hx:x<P):rD x x P true:=⟨h0,by decide,El.coprime h0 hx,acz hx,abq _,by rw[show sgn true=0 from rfl,adO]⟩
theorem tV:Tryz.f46.results.toList=[.tmp 2]:=kZq
theorem Qs(a b:Nat):((a:Nat):Int).tdiv (b:Nat)=((a/b:Nat):Int):=by rw[afE (by omega)];simp
theorem rE(a b:Nat):((a:Nat):Int).tmod (b:Nat)=((a%b:Nat):Int):=by rw[acF (by omega)];simp
theorem xu{x:Int}(h:x<1∨2147483579<=x):aX x=false:=by
 unfold aX
 rcases h with h|h
 ·rw[decide_eq_false (by omega)];rfl
 ·have:elem x.toNat=false:=by
   rw[Bool.eq_false_iff]
   intro q
   have:=(elem_iff.1 q).2.1
   have hP:P=2147483579:=rfl
   omega
  rw[this,Bool.and_false]
theorem rF(x:Int)(h:ae):W.call 46 [im x] h=some (.ret (.v (.bool (aX x))),h):=by
 by_cases hx:x<1
 ·rw[xu (.inl hx)]
  unfold im
  refine ar rfl Tryz.func46 rfl ?_
  exact YX @tV
 by_cases hy:2147483579<=x
 ·rw[xu (.inr hy)]
  unfold im
  refine ar rfl Tryz.func46 rfl ?_
  exact YX @tV
 obtain⟨n0,rfl⟩:∃n:Nat,x=n:=⟨x.toNat,by omega⟩
 have h1:1<=n0:=by omega
 have h2:n0<P:=by have:P=2147483579:=rfl;omega
 have hfin:∀{m:Nat} {sq:Bool},rD n0 1 m sq->aX (n0:Int)=sq:=fun hh=>by
  unfold aX
  rw[decide_eq_true (by omega),abB,hh.done h1 h2];rfl
 have k0:=ah.mk (rD.start h1 h2)
 have kf:=ah.mk @hfin
 clear hfin
 unfold im
 generalize aX (n0:Int)=res at *
 have hnP:(n0:Int)<2147483579:=by omega
 clear h2
 refine ar rfl Tryz.func46 rfl ?_
 refine Zg @tV ?_
 refine aD (fun m e h'=>∃(n:Nat) (sq:Bool),rD n0 m n sq/\e.get 0=.v (.int .i64 (m:Nat))/\e.get 3=.v (.int .i64 (n:Nat))/\e.get 4=.v (.bool sq)/\e.defers=[]/\h'=h) ?_ n0 _ _ ?_
 rotate_left 1
 ·exact⟨2147483579,true,k0.out,by exact gR,by exact gR,by exact gR,by exact gR,rfl⟩
 rintro a e h' ⟨n,sq,hI,g0,g3,g4,hd,rfl⟩
 have kI:=ah.mk hI
 have ha1:=hI.1
 have ha4:a<=2147483579:=hI.2.2.2.1
 by_cases hone:a=1
 ·subst hone
  have hr:=kf.out hI
  clear hI
  exact YX @tV
 have hgt:(1:Int)<(a:Int):=by omega
 clear hI
 refine Zg @tV ?_
 refine aD (fun m e h''=>∃(sq:Bool),m<=a/\rD n0 m n sq/\e.get 0=.v (.int .i64 (m:Nat))/\e.get 3=.v (.int .i64 (n:Nat))/\e.get 4=.v (.bool sq)/\e.defers=[]/\h''=h') ?_ a _ _ ?_
 rotate_left 1
 ·exact⟨sq,abq _,kI.out,by first|assumption|(exact gA),by first|assumption|(exact gA),by first|assumption|(exact gA),by first|assumption|(exact gA),rfl⟩
 clear g0 g3 g4 hd kI sq
 rintro b e h'' ⟨sq,hba,hI,g0,g3,g4,hd,rfl⟩
 have kI:=ah.mk hI
 have hb1:=hI.1
 have hn2:=hI.2.1
 have hnP2:n<=2147483579:=hI.2.2.2.2.1
 clear hI
 have m2:((b:Nat):Int).tmod 2=((b%2:Nat):Int):=rE b 2
 have d2:((b:Nat):Int).tdiv 2=((b/2:Nat):Int):=Qs b 2
 have m8:((n:Nat):Int).tmod 8=((n%8:Nat):Int):=rE n 8
 have mb4:((b:Nat):Int).tmod 4=((b%4:Nat):Int):=rE b 4
 have mn4:((n:Nat):Int).tmod 4=((n%4:Nat):Int):=rE n 4
 have mnb:=rE n b
 rcases ac4 b with hb|hb
 ·have hE:=kI.out.even hb
  rw[hb,acT] at m2
  by_cases c3:n%8=3
  ·rw[if_pos (.inl c3)] at hE
   have m8:((n:Nat):Int).tmod 8=3:=by rw[m8,c3];rfl
   have kE:=ah.mk hE
   clear hE
   repeat' (first|simp(maxSteps:=999999)(disch:=first|exact dZ|fail)only[gW,reduceIte,abn,gBQ,tV, *]|(refine dX ?_ ?_<;>(intro _;try omega))|refine aP kZq ?_)
   exact⟨b/2,by omega,_,by omega,kE.out,(by first|exact trivial|exact rfl),(by first|exact trivial|exact rfl),(by first|exact trivial|exact rfl),(by first|exact trivial|exact rfl),(by first|exact trivial|exact rfl)⟩
  ·by_cases c5:n%8=5
   ·rw[if_pos (.inr c5)] at hE
    have m8:((n:Nat):Int).tmod 8=5:=by rw[m8,c5];rfl
    have kE:=ah.mk hE
    clear hE
    repeat' (first|simp(maxSteps:=999999)(disch:=first|exact dZ|fail)only[gW,reduceIte,abn,gBQ,tV, *]|(refine dX ?_ ?_<;>(intro _;try omega))|refine aP kZq ?_)
    exact⟨b/2,by omega,_,by omega,kE.out,(by first|exact trivial|exact rfl),(by first|exact trivial|exact rfl),(by first|exact trivial|exact rfl),(by first|exact trivial|exact rfl),(by first|exact trivial|exact rfl)⟩
   ·rw[if_neg (by omega)] at hE
    have kE:=ah.mk hE
    have c3':¬(((n%8:Nat):Int)=3):=by omega
    have c5':¬(((n%8:Nat):Int)=5):=by omega
    clear hE
    refine Zg @tV ?_
    exact⟨b/2,by omega,_,by omega,kE.out,(by first|exact trivial|exact rfl),(by first|exact trivial|exact rfl),(by first|exact trivial|exact rfl),(by first|exact trivial|exact rfl),(by first|exact trivial|exact rfl)⟩
 ·rw[hb,afV] at m2
  by_cases hb1':b=1
  ·subst hb1'
   have hr:=kf.out kI.out
   exact YX @tV
  ·have hO:=kI.out.odd hb (by omega)
   have hne:¬((b:Nat):Int)=1:=by omega
   have hnz:¬((b:Nat):Int)=0:=by omega
   have hlt:=acK n (show 0<b by omega)
   by_cases c4:b%4=3
   ·by_cases c5:n%4=3
    ·rw[if_pos ⟨c4,c5⟩] at hO
     have mb4:((b:Nat):Int).tmod 4=3:=by rw[mb4,c4];rfl
     have mn4:((n:Nat):Int).tmod 4=3:=by rw[mn4,c5];rfl
     have kO:=ah.mk hO
     clear hO
     repeat' (first|simp(maxSteps:=999999)(disch:=first|exact dZ|fail)only[gW,reduceIte,abn,gBQ,tV, *]|(refine dX ?_ ?_<;>(intro _;try omega))|refine aP kZq ?_)
     exact⟨n%b,by omega,b,_,kO.out,(by first|exact trivial|exact rfl),(by first|exact trivial|exact rfl),(by first|exact trivial|exact rfl),(by first|exact trivial|exact rfl),(by first|exact trivial|exact rfl)⟩
    ·rw[if_neg (by omega)] at hO
     have mb4:((b:Nat):Int).tmod 4=3:=by rw[mb4,c4];rfl
     have c5':¬(((n%4:Nat):Int)=3):=by omega
     have kO:=ah.mk hO
     clear hO
     repeat' (first|simp(maxSteps:=999999)(disch:=first|exact dZ|fail)only[gW,reduceIte,abn,gBQ,tV, *]|(refine dX ?_ ?_<;>(intro _;try omega))|refine aP kZq ?_)
     exact⟨n%b,by omega,b,_,kO.out,(by first|exact trivial|exact rfl),(by first|exact trivial|exact rfl),(by first|exact trivial|exact rfl),(by first|exact trivial|exact rfl),(by first|exact trivial|exact rfl)⟩
   ·rw[if_neg (by omega)] at hO
    have c4':¬(((b%4:Nat):Int)=3):=by omega
    have kO:=ah.mk hO
    clear hO
    repeat' (first|simp(maxSteps:=999999)(disch:=first|exact dZ|fail)only[gW,reduceIte,abn,gBQ,tV, *]|(refine dX ?_ ?_<;>(intro _;try omega))|refine aP kZq ?_)
    exact⟨n%b,by omega,b,_,kO.out,(by first|exact trivial|exact rfl),(by first|exact trivial|exact rfl),(by first|exact trivial|exact rfl),(by first|exact trivial|exact rfl),(by first|exact trivial|exact rfl)⟩
theorem WI:Tryz.f171.results.toList=[.tmp 2]:=kZq
theorem Vp:Tryz.f150.results.toList=[.tmp 4]:=kZq
theorem WU:Tryz.f94.results.toList=[.tmp 2]:=kZq
theorem WJ:Tryz.f132.results.toList=[.tmp 4,.tmp 5]:=kZq
theorem VN:Tryz.f140.results.toList=[.tmp 4,.tmp 5]:=kZq
theorem UU(n:Int)(h:ae):W.call 171 [im n] h=some (.ret (im (fmod n)),h):=by
 obtain⟨m1,m2,m3,m4⟩:=pq n
 unfold im
 refine ar rfl Tryz.func171 rfl ?_
 by_cases c:n.tmod 1073741789<0
 ·have e:=m1 c
  clear m1 m2
  exact YX @WI
 ·have e:=m2 c
  clear m1 m2
  exact YX @WI
def pN(r n a c:Nat):Prop:=c<P/\a<P/\c * a^n%P=r
theorem pN.odd{r n a c:Nat}(h:pN r n a c)(ho:n%2=1):pN r (n/2) (a * a%P) (c * a%P):=by
 refine⟨acK _ (by decide),acK _ (by decide),?_⟩
 rw[<-h.2.2,Nat.mod_mul_mod,adk,<-ae6,<-adk,ae8,<-agw,<-aeK,<-Nat.pow_succ',show(2 * (n/2)).succ=n by omega]
theorem pN.even{r n a c:Nat}(h:pN r n a c)(ho:n%2=0):pN r (n/2) (a * a%P) c:=by
 refine⟨h.1,acK _ (by decide),?_⟩
 rw[<-h.2.2,adk,<-ae6,<-adk,<-agw,<-aeK,show 2 * (n/2)=n by omega]
theorem pN.done{r a c:Nat}(h:pN r 0 a c):c=r:=by
 rw[<-h.2.2,Nat.pow_zero,acM,acn h.1]
theorem pN.start{a n:Nat}(ha:a<P)(hn:n<2^31):pN (y7 a n) n a 1:=⟨by decide,ha,by rw[y8 hn,aeb]⟩
theorem pN.bound{r n a c:Nat}(h:pN r n a c):c * a<=4611685722074649241/\a * a<=4611685722074649241:=by
 obtain⟨h1,h2,-⟩:=h
 have h1:c<=2147483579:=acz h1
 have h2:a<=2147483579:=acz h2
 exact⟨acP h1 h2,acP h2 h2⟩
theorem UG(r a n:Nat)(hn:n<=2147483647)(hI:pN r n a 1)(h:ae):W.call 150 [im (a:Nat),im (n:Nat)] h=some (.ret (im (r:Nat)),h):=by
 have P0:=ah.mk hI
 clear hI
 unfold im at *
 refine ar rfl Tryz.func150 rfl ?_
 refine Zg @Vp ?_
 refine aD (fun m e h'=>∃(s x:Nat),m<=2147483647/\pN r m s x/\e.get 1=.v (.int .i64 (m:Nat))/\e.get 0=.v (.int .i64 (s:Nat))/\e.get 5=.v (.int .i64 (x:Nat))/\e.defers=[]/\h'=h) ?_ n _ _ ?_
 rotate_left 1
 ·exact⟨a,1,hn,P0.out,by exact gR,by exact gR,by exact gR,by exact gR,rfl⟩
 rintro l e h' ⟨s,x,hl,hI,g1,g0,g5,hd,rfl⟩
 have kI:=ah.mk hI
 obtain⟨b1,b2⟩:=hI.bound
 by_cases h0:l=0
 ·subst h0
  have hx:=hI.done
  clear hI
  exact YX @Vp
 ·have hdiv:((l:Nat):Int).tdiv 2=((l/2:Nat):Int):=Qs l 2
  have hmod:((l:Nat):Int).tmod 2=((l%2:Nat):Int):=rE l 2
  have hz2:(0:Int)<((l:Nat):Int):=by omega
  have e1:((x:Nat):Int) * (s:Nat)=((x * s:Nat):Int):=(acY _ _).symm
  have e2:((s:Nat):Int) * (s:Nat)=((s * s:Nat):Int):=(acY _ _).symm
  have e3:((x * s:Nat):Int).tmod 2147483579=((x * s%P:Nat):Int):=rE (x * s) 2147483579
  have e4:((s * s:Nat):Int).tmod 2147483579=((s * s%P:Nat):Int):=rE (s * s) 2147483579
  clear hI
  rcases ac4 l with ho|ho
  ·rw[ho,acT] at hmod
   repeat' (first|simp(maxSteps:=999999)(disch:=first|exact dZ|fail)only[gW,reduceIte,abn,gBQ,Vp, *]|(refine dX ?_ ?_<;>(intro _;try omega))|refine aP kZq ?_)
   exact⟨l/2,by omega,_,_,by omega,kI.out.even ho,(by first|exact trivial|exact rfl),(by first|exact trivial|exact rfl),(by first|exact trivial|exact rfl),(by first|exact trivial|exact rfl),(by first|exact trivial|exact rfl)⟩
  ·rw[ho,afV] at hmod
   refine Zg @Vp ?_
   exact⟨l/2,by omega,_,_,by omega,kI.out.odd ho,(by first|exact trivial|exact rfl),(by first|exact trivial|exact rfl),(by first|exact trivial|exact rfl),(by first|exact trivial|exact rfl),(by first|exact trivial|exact rfl)⟩
def iL(a n:Int):Int:=if aX a=true then ((aY a.toNat n:Nat):Int) else 0
def lG(a:Int):Int:=if aX a=true then 0 else 100
def pO(a b:Int):Int:=if aX a=true/\aX b=true then ((a.toNat * b.toNat%P:Nat):Int) else 0
def mP(a b:Int):Int:=if aX a=true/\aX b=true then 0 else 100
theorem px{a:Int}(h:aX a=true):∃n:Nat,a=n/\elem n=true/\1<=n/\n<P:=by
 unfold aX at h
 rw[abr,decide_eq_true_eq] at h
 have:=elem_iff.1 h.2
 exact⟨a.toNat,by omega,h.2,this.1,this.2.1⟩
theorem Ul(x:Int)(h:ae):W.call 94 [im x] h=some (.ret (.v (.bool (aX x))),h):=by
 by_cases hx:x<1
 ·rw[xu (.inl hx)]
  unfold im
  refine ar rfl Tryz.func94 rfl ?_
  exact YX @WU
 by_cases hy:2147483579<=x
 ·rw[xu (.inr hy)]
  unfold im
  refine ar rfl Tryz.func94 rfl ?_
  exact YX @WU
 obtain⟨n0,rfl⟩:∃n:Nat,x=n:=⟨x.toNat,by omega⟩
 have h2:n0<P:=by have:P=2147483579:=rfl;omega
 have cp:∀h,W.call 150 [.v (.int .i64 (n0:Nat)),.v (.int .i64 1073741789)] h=some (.ret (.v (.int .i64 (y7 n0 Q:Nat))),h):=UG (y7 n0 Q) n0 1073741789 (by decide) (pN.start h2 (by decide))
 have e:aX (n0:Int)=decide (((y7 n0 Q:Nat):Int)=1):=by
  unfold aX elem
  rw[decide_eq_true (by omega),abB,decide_eq_true (by omega),decide_eq_true h2,ac2,ac2,ac2,Bool.eq_iff_iff,decide_eq_true_eq]
  constructor
  ·intro q;rw[abR q];rfl
  ·intro q
   have:y7 n0 Q=1:=by omega
   rw[this];rfl
 rw[e]
 generalize y7 n0 Q=r at *
 have hx1:(1:Int)<=(n0:Int):=by omega
 have hy1:(n0:Int)<2147483579:=by omega
 clear e h2 hx hy
 unfold im
 refine ar rfl Tryz.func94 rfl ?_
 exact YX @WU
theorem OH:Tryz.f69.results.toList=[.tmp 4,.tmp 5]:=kZq
theorem OI:Tryz.f84.results.toList=[.tmp 2]:=kZq
theorem mul_tmod{a b:Nat}(ha:a<P)(hb:b<P):((a:Nat):Int) * (b:Nat)<=4611685722074649241/\(0:Int)<=((a:Nat):Int) * (b:Nat)/\(((a:Nat):Int) * (b:Nat)).tmod 2147483579=((a * b%P:Nat):Int):=by
 have h1:a<=2147483579:=acz ha
 have h2:b<=2147483579:=acz hb
 have:=acP h1 h2
 have e:((a:Nat):Int) * (b:Nat)=((a * b:Nat):Int):=(acY _ _).symm
 rw[e]
 exact⟨by omega,by omega,rE (a * b) 2147483579⟩
theorem Mn(a b:Int)(h:ae):W.call 69 [im a,im b] h=some (.ret (.tuple [im (pO a b),im (mP a b)]),h):=by
 have ca:=rF a
 have cb:=rF b
 unfold pO mP
 by_cases ha:aX a=true
 ·by_cases hb:aX b=true
  ·rw[if_pos ⟨ha,hb⟩,if_pos ⟨ha,hb⟩]
   rw[ha] at ca
   rw[hb] at cb
   obtain⟨x,rfl,-,-,x2⟩:=px ha
   obtain⟨y,rfl,-,-,y2⟩:=px hb
   obtain⟨m1,m2,-⟩:=mul_tmod x2 y2
   simp only[abB]
   have e1:((x:Nat):Int) * (y:Nat)=((x * y:Nat):Int):=(acY _ _).symm
   have e3:((x * y:Nat):Int).tmod 2147483579=((x * y%P:Nat):Int):=rE (x * y) 2147483579
   rw[e1] at m1 m2
   have m4:x * y%P<2147483579:=acK _ (by decide)
   clear ha hb
   unfold im at *
   refine ar rfl Tryz.func69 rfl ?_
   exact YX @OH
  ·have hb':aX b=false:=by simpa using hb
   rw[if_neg (fun q=>hb q.2),if_neg (fun q=>hb q.2)]
   rw[ha] at ca
   rw[hb'] at cb
   unfold im at *
   refine ar rfl Tryz.func69 rfl ?_
   exact YX @OH
 ·have ha':aX a=false:=by simpa using ha
  rw[if_neg (fun q=>ha q.1),if_neg (fun q=>ha q.1)]
  rw[ha'] at ca
  unfold im at *
  refine ar rfl Tryz.func69 rfl ?_
  exact YX @OH
def jJ(l:List Int):Int:=l.foldl (fun a x=>(a * (x.tmod 1073741789+1073741789)).tmod 1073741789) 1
theorem A4(l:List Int)(x:Int):jJ (l++[x])=(jJ l * (x.tmod 1073741789+1073741789)).tmod 1073741789:=by unfold jJ;rw[acs];rfl
theorem Dp(n:Int):jJ [n]=fmod n:=by
 obtain⟨m1,m2,m3,m4⟩:=pq n
 show(1 * (n.tmod 1073741789+1073741789)).tmod 1073741789=fmod n
 rw[ae4,rC (by omega)]
 by_cases c:n.tmod 1073741789<0
 ·rw[m1 c];omega
 ·rw[m2 c];omega
theorem vj{a x:Int}(h:0<=a/\a<1073741789):0<=a * (x.tmod 1073741789+1073741789)/\a * (x.tmod 1073741789+1073741789)<=2305843013508661242/\0<=(a * (x.tmod 1073741789+1073741789)).tmod 1073741789/\(a * (x.tmod 1073741789+1073741789)).tmod 1073741789<1073741789:=by
 obtain⟨-,-,m3,m4⟩:=pq x
 have p0:0<=a * (x.tmod 1073741789+1073741789):=agI h.1 (by omega)
 have p1:a * (x.tmod 1073741789+1073741789)<=1073741789 * 2147483578:=agJ (by omega) (by omega) (by omega) (by omega)
 rw[rC p0]
 omega
theorem Gf(l:List Int):0<=jJ l/\jJ l<1073741789:=by
 unfold jJ
 have key:∀(l:List Int) (a:Int),0<=a/\a<1073741789->0<=l.foldl (fun a x=>(a * (x.tmod 1073741789+1073741789)).tmod 1073741789) a/\l.foldl (fun a x=>(a * (x.tmod 1073741789+1073741789)).tmod 1073741789) a<1073741789:=by
  intro l
  induction l with
  |nil=>intro a h;exact h
  |cons x l ih=>intro a h;exact ih _ (vj h).2.2
 exact key l 1 ⟨by decide,by decide⟩
theorem Je(l:List Int)(k:Tok)(hl:l.length<=9223372036854775807)(h:ae):W.call 84 [.list k 1 (ints l)] h=some (.ret (im (jJ l)),h):=by
 have u23:=Tryz.underlying23
 have a3:=ag3;have s3:=sz3
 refine ar rfl Tryz.func84 rfl ?_
 refine ZM @OI @aU ?_
 refine aD (fun m e h'=>∃i:Nat,i<=l.length/\m=l.length - i/\e.get 6=.list k 1 (ints l)/\e.get 7=.v (.int .i64 (l.length:Nat))/\e.get 8=.v (.int .i64 i)/\e.get 3=.v (.int .i64 (jJ (l.take i)))/\e.defers=[]/\h'=h) ?_ l.length _ _ ?_
 rotate_left 1
 ·refine⟨0,abG _,rfl,?_,?_,?_,?_,?_,rfl⟩<;>(first|assumption|(simp only[gW,reduceIte,abn,gBQ,aU]<;>rfl))
 rintro m e h' ⟨i,hi,rfl,g6,g7,g8,g3,hd,rfl⟩
 by_cases hlt:i<l.length
 ·obtain⟨x,hx⟩:∃x,l[i]?=some x:=⟨_,abo hlt⟩
  have hlt3:(i:Int)<((ints l).length:Int):=by rw[aU];omega
  obtain⟨-,-,x1,x2⟩:=pq x
  obtain⟨s1,s2,s3',s4⟩:=vj (x:=x) (Gf (l.take i))
  have e1:jJ (l.take (i+1))=(jJ (l.take i) * (x.tmod 1073741789+1073741789)).tmod 1073741789:=by
   rw[a9 hx,A4]
  generalize jJ (l.take i)=s at *
  have hld:=Er (h:=h') hx
  unfold im at hld
  repeat' (first|simp(maxSteps:=999999)(disch:=first|exact dZ|fail)only[gW,reduceIte,abn,gBQ,OI,aU,al, *]|(refine dX ?_ ?_<;>(intro _;try omega))|refine aP kZq ?_)
  exact⟨l.length - (i+1),by omega,i+1,by omega,rfl,by trivial,by trivial,by simp,by rw[e1],by trivial,by trivial⟩
 ·have:i=l.length:=by omega
  subst this
  rw[abU] at g3
  repeat' (first|simp(maxSteps:=999999)(disch:=first|exact dZ|fail)only[gW,reduceIte,abn,gBQ,OI,aU,im, *]|(refine dX ?_ ?_<;>(intro _;try omega))|refine aP kZq ?_)
theorem tx{h:ae}{z cs:List AV}{b:Nat}(hb:b=h.boxes.length):(h.push z).put b cs=h.push cs:=by subst hb;exact gg h z cs
theorem A5{h:ae}{z cs:List AV}{b:Nat}(hb:b≠h.boxes.length):(h.push z).put b cs=(h.put b cs).push z:=by
 unfold ae.push ae.put
 simp only
 congr 1
 rcases Nat.lt_or_ge b h.boxes.length with hlt|hge
 ·rw[List.set_append_left _ _ hlt]
 ·rw[adr _ _ hge,afR (by simp;omega),afR hge]
theorem SH:Tryz.f83.results.toList=[.tmp 4]:=kZq
theorem Jf:Tryz.f147.results.toList=[]:=kZq
theorem OJ:Tryz.f30.results.toList=[.cell 4 3,.tmp 5]:=kZq
theorem zc3:(ej Tryz.prog 3).bind AV.aC=some [im 0]:=kZq
theorem Mo{t:TypeId}{x y:Operand}{n:Nat}(hn:n<=9223372036854775807):bB Tryz.prog .and t x y (.v (.int .i64 (n:Nat))) (.v (.int .i64 1))=some (.v (.int .i64 ((n%2:Nat):Int))):=by
 rw[fQ]
 congr 3
 have e1:BitVec.ofInt IntKind.i64.bits (n:Int)=BitVec.ofNat 64 n:=by
  apply BitVec.eq_of_toNat_eq
  show(BitVec.ofInt 64 (n:Int)).toNat=(BitVec.ofNat 64 n).toNat
  rw[BitVec.toNat_ofInt,BitVec.toNat_ofNat]
  omega
 have e2:(BitVec.ofNat 64 n&&&1#64).toNat=n%2:=by
  rw[BitVec.toNat_and,BitVec.toNat_ofNat,show(1#64:BitVec 64).toNat=1 from rfl,Nat.and_one_is_mod]
  omega
 have e3:(BitVec.ofInt IntKind.i64.bits (n:Int)&&&BitVec.ofInt IntKind.i64.bits 1).toNat=n%2:=by
  rw[e1];exact e2
 rw[e3,bT (by omega) (by omega)]
theorem Mp{t:TypeId}{x y:Operand}{n:Nat}:bB Tryz.prog .shr t x y (.v (.int .i64 (n:Nat))) (.v (.int .u64 1))=some (.v (.int .i64 ((n/2:Nat):Int))):=by
 rw[nr (by decide)]
 congr 3
 show((n:Nat):Int).fdiv (2^1)=_
 rw[ac3 _ (by decide)]
 simp
theorem ec{h:ae}{b:Nat}{cs:List AV}(hb:h.boxes[b]?=some cs):h.put b cs=h:=by
 unfold ae.put
 have:h.boxes.set b cs=h.boxes:=by
  apply acG
  intro k
  rw[aci]
  split
  ·rename_i e;subst e
   rw[if_pos (abm.1 hb).1,hb]
  ·rfl
 rw[this]
theorem ld3{H:ae}{b:Nat}{x:AV}(hb:H.boxes[b]?=some [x]):ai Tryz.prog Gt H 3 (.ptr (.box b) 0)=some x:=by rw[dc ag3 hb];rfl
theorem st3{H:ae}{b:Nat}{x:AV}{n:Int}(hb:H.boxes[b]?=some [x]):aA Tryz.prog H 3 (.ptr (.box b) 0) (.v (.int .i64 n))=some (H.put b [.v (.int .i64 n)]):=aW (off:=0) (cs:=[x]) (xs:=[im n]) rfl sz3 hb rfl (abq 1)
def A6(l bc:Nat)(rec:bE):Prop:=∀(s c:Nat) (b:Bool) (H:ae),s<P->c<P->H.loops[l]?=some rec->H.boxes[bc]?=some [im (c:Nat)]->W.round l [im (s:Nat),.v (.bool b)] H=some (.ret (.v (.bool true)),H.put bc [im ((if b=true then c * s%P else c:Nat):Int)])
theorem gY{P:Program}{R:Rec}{e:Env}{h:ae}{t l:Nat}{args:Array Operand}{ts:Array TypeId}(hy:e.get t=.yield l):eI P R e h {callee:=.value (.tmp t),args,argTypes:=ts}=R.round l (args.toList.map e.eval) h:=by
 rw[Az,hy]
theorem OK(l bn ba bc:Nat)(rec:bE)(hR:A6 l bc rec)(h1:bn≠ba)(h2:bn≠bc)(h3:ba≠bc)(r n a c:Nat)(hn:n<=2147483647)(hI:pN r n a c)(h:ae)
 (hbn:h.boxes[bn]?=some [im (n:Nat)]) (hba:h.boxes[ba]?=some [im (a:Nat)]) (hbc:h.boxes[bc]?=some [im (c:Nat)]) (hl:h.loops[l]?=some rec):
 ∃h',W.call 147 [.yield l,.ptr (.box bn) 0,.ptr (.box ba) 0] h=some (.ret (.tuple []),h')/\h'.boxes[bc]?=some [im (r:Nat)]/\h'.loops=h.loops/\∀h0:ae,Ext h0 h->h0.boxes.length<=bn->h0.boxes.length<=ba->h0.boxes.length<=bc->Ext h0 h':=by
 have kR:=ah.mk hR
 have kI:=ah.mk hI
 clear hR hI
 refine dL rfl Tryz.func147 rfl ?_
 refine gx1 @Jf ?_
 refine aD (fun m e h'=>∃(a c:Nat),m<=2147483647/\pN r m a c/\e.get 0=.yield l/\e.get 1=.ptr (.box bn) 0/\e.get 2=.ptr (.box ba) 0/\e.defers=[]/\h'.boxes[bn]?=some [im (m:Nat)]/\h'.boxes[ba]?=some [im (a:Nat)]/\h'.boxes[bc]?=some [im (c:Nat)]/\h'.loops=h.loops/\∀h0:ae,Ext h0 h->h0.boxes.length<=bn->h0.boxes.length<=ba->h0.boxes.length<=bc->Ext h0 h') ?_ n _ _ ?_
 rotate_left 1
 ·exact⟨a,c,hn,kI.out,by exact gR,by exact gR,by exact gR,by exact gR,hbn,hba,hbc,rfl,fun _ x _ _ _=>x⟩
 clear hbn hba hbc kI n a c hn
 rintro m e H ⟨a,c,hm,hI,g0,g1,g2,hd,hbn,hba,hbc,hlp,hX⟩
 have kI:=ah.mk hI
 have kX:=ah.mk hX
 have ln:=ld3 hbn
 have la:=ld3 hba
 clear hX
 by_cases h0:m=0
 ·subst h0
  have hx:=hI.done
  subst hx
  unfold im at ln la
  clear hI
  repeat' (first|simp(maxSteps:=999999)(disch:=first|exact dZ|fail)only[gW,reduceIte,abn,gBQ,Jf, *]|refine dX ?_ ?_<;>(intro _;try omega))
  exact⟨_,rfl,hbc,hlp,kX.out⟩
 have hpos:(0:Int)<((m:Nat):Int):=by omega
 have q1:∀(t:TypeId) (x y:Operand),bB Tryz.prog .and t x y (.v (.int .i64 (m:Nat))) (.v (.int .i64 1))=some (.v (.int .i64 ((m%2:Nat):Int))):=fun t x y=>Mo (by omega)
 obtain⟨m1,m2,m3⟩:=mul_tmod hI.2.1 hI.2.1
 have hHl:H.loops[l]?=some rec:=by rw[hlp];exact hl
 have rd:=kR.out a c (decide ((m%2:Nat)=1)) H hI.2.1 hI.1 hHl hbc
 have hI2:pN r (m/2) (a * a%P) (if decide (m%2=1)=true then c * a%P else c):=by
  rcases ac4 m with ho|ho
  ·rw[ho];exact hI.even ho
  ·rw[ho];exact hI.odd ho
 have kI2:=ah.mk hI2
 have hdec:decide (((m%2:Nat):Int)=1)=decide (m%2=1):=by
  rw[decide_eq_decide];omega
 have hlbn:=(abm.1 hbn).1
 have hlba:=(abm.1 hba).1
 have hlbc:=(abm.1 hbc).1
 clear hI hI2 hl
 generalize (if decide (m%2=1)=true then c * a%P else c)=c2 at *
 generalize decide (m%2=1)=bt at *
 unfold im at *
 have la2:∀x,ai Tryz.prog Gt (H.put bc x) 3 (.ptr (.box ba) 0)=some (.v (.int .i64 (a:Nat))):=fun x=>ld3 (by rw[av h3];exact hba)
 have sa2:∀x n,aA Tryz.prog (H.put bc x) 3 (.ptr (.box ba) 0) (.v (.int .i64 n))=some ((H.put bc x).put ba [.v (.int .i64 n)]):=fun x n=>st3 (by rw[av h3];exact hba)
 have ln2:∀x y,ai Tryz.prog Gt ((H.put bc x).put ba y) 3 (.ptr (.box bn) 0)=some (.v (.int .i64 (m:Nat))):=fun x y=>ld3 (by rw[av h1,av h2];exact hbn)
 have sn2:∀x y n,aA Tryz.prog ((H.put bc x).put ba y) 3 (.ptr (.box bn) 0) (.v (.int .i64 n))=some (((H.put bc x).put ba y).put bn [.v (.int .i64 n)]):=fun x y n=>st3 (by rw[av h1,av h2];exact hbn)
 refine gx3 @Jf @gY @Mp ?_
 refine⟨m/2,by omega,a * a%P,c2,by omega,kI2.out,trivial,trivial,trivial,trivial,?_,?_,?_,hlp,fun h0 x p1 p2 p3=>(((kX.out h0 x p1 p2 p3).bZ p3 _).bZ p2 _).bZ p1 _⟩
 ·exact aS (by rw[dU,dU];exact hlbn)
 ·rw[av (Ne.symm h1)]
  exact aS (by rw[dU];exact hlba)
 ·rw[av (Ne.symm h2),av (Ne.symm h3)]
  exact aS hlbc
theorem jn{e:Env}{l p q t:Nat}{r:bE}{x y:AV}(hp:r.params=#[p,q])(ht:r.tmps=e.tmps):(dD l r [x,y]).get t=if q=t then y else if p=t then x else e.get t:=by
 unfold dD
 rw[hp,ht]
 have h1:=mB (e.tmps.set p x) q t y
 have h2:=mB e.tmps p t x
 show((e.tmps.set p x).set q y).get t=_
 rw[h1,h2]
 rfl
theorem Dq(a n:Int)(h:ae):W.call 83 [im a,im n] h=some (.ret (.func (.func 147) [] [.ptr (.box (h.boxes.length+1)) 0,.ptr (.box h.boxes.length) 0]),(h.push [im a]).push [im n]):=by
 have bx:∀n:Int,(AV.v (.int .i64 n)).aC=some [.v (.int .i64 n)]:=fun _=>rfl
 unfold im
 refine ar rfl Tryz.func83 rfl ?_
 exact gz3 @SH @aw @az
theorem Mq(a n:Int)(h:ae):∃h',W.call 30 [im a,im n] h=some (.ret (.tuple [im (iL a n),im (lG a)]),h')/\Ext h h':=by
 have ca:=rF a
 have z3:=zc3
 have a3:=ag3
 unfold iL lG
 by_cases ha:aX a=true
 rotate_left 1
 ·have ha':aX a=false:=by simpa using ha
  rw[if_neg ha,if_neg ha]
  rw[ha'] at ca
  unfold im at *
  refine dL rfl Tryz.func30 rfl ?_
  refine gx5 @OJ @st3 @ld3 @tx @az ?_
  exact⟨_,rfl,.push _ _⟩
 rw[if_pos ha,if_pos ha]
 rw[ha] at ca
 obtain⟨x,rfl,-,x1,x2⟩:=px ha
 clear ha
 have cl:=Je [n] .tight (by simp)
 rw[Dp] at cl
 obtain⟨m,hm⟩:∃m:Nat,fmod n=m:=⟨(fmod n).toNat,(mN n).symm⟩
 have hmQ:m<Q:=by
  have:=Ep n
  rw[hm,abB] at this;exact this
 have he:aY (x:Int).toNat n=y7 x m:=by
  unfold aY
  rw[hm,abB,abB]
 rw[he]
 rw[hm] at cl
 have bl:aN Tryz.prog 23 1 [(0,im n)]=some (.list .tight 1 (ints [n])):=kZq
 have bx:∀n:Int,(im n).aC=some [im n]:=fun _=>rfl
 have csq:=fun H=>Dq (x:Nat) (m:Nat) H
 have hstart:=pN.start (n:=m) x2 (Nat.lt_trans hmQ (by decide))
 generalize y7 x m=r at *
 clear he hm
 have kS:=ah.mk (abp hstart (abp x2 (abp hmQ x1)))
 clear hstart x2 hmQ x1
 unfold im at *
 refine dL rfl Tryz.func30 rfl ?_
 refine gx5 @OJ @st3 @ld3 @tx @az ?_
 refine Run.gen fun e he hd hp hro=>?_
 have g4:e.get 4=.ptr (.box h.boxes.length) 0:=by rw[he];exact gS
 have g15:e.get 15=.func (.func 147) [] [.ptr (.box (h.boxes.length+1+1)) 0,.ptr (.box (h.boxes.length+1)) 0]:=by rw[he];exact gS
 have hdf:e.defers=[]:=by rw[hd];exact gS
 clear he hd hp hro
 refine kD (by rw[lv];exact g15) fun rec w1 w2 w3 w4 w5 w6=>?_
 have hL:(((h.push [AV.v (.int .i64 1)]).push [AV.v (.int .i64 (x:Nat))]).push [AV.v (.int .i64 (m:Nat))]).loops.length=h.loops.length:=rfl
 rw[hL]
 have PR:A6 h.loops.length h.boxes.length rec:=by
  intro s c b H hs hc hl hb
  obtain⟨m1,m2,-⟩:=mul_tmod hc hs
  have e1:((c:Nat):Int) * (s:Nat)=((c * s:Nat):Int):=(acY _ _).symm
  have e3:((c * s:Nat):Int).tmod 2147483579=((c * s%P:Nat):Int):=rE (c * s) 2147483579
  rw[e1] at m1 m2
  have r1:∀t,(dD h.loops.length rec [im (s:Nat),.v (.bool b)]).get t=if 17=t then .v (.bool b) else if 16=t then im (s:Nat) else e.get t:=fun t=>jn w2 w1
  have hb2:(H.busy h.loops.length rec).boxes[h.boxes.length]?=some [im (c:Nat)]:=hb
  have l1:=ld3 hb2
  have hl2:=hb
  have s1:=fun n=>st3 (n:=n) hb2
  refine jT hl (by rw[w2];rfl) ?_
  rw[w3]
  unfold im at *
  refine Run.gen fun e2 he2 hd2 hp2 hro2=>?_
  have q16:e2.get 16=.v (.int .i64 (s:Nat)):=by rw[he2,r1];rfl
  have q17:e2.get 17=.v (.bool b):=by rw[he2,r1];rfl
  have q4:e2.get 4=.ptr (.box h.boxes.length) 0:=by rw[he2,r1];exact g4
  clear he2 r1 g4 g15 cl csq ca bl
  have hll:h.loops.length<H.loops.length:=(abm.1 hl).1
  have hsame:H.loops.set h.loops.length rec=H.loops:=by
   apply acG
   intro k
   rw[aci]
   split
   ·rename_i e;subst e
    exact hl.symm
   ·rfl
  have hrec:{rec with state:=LoopState.ready,pending:=none}=rec:=by
   cases rec;cases w5;cases w6;rfl
  cases b with
  |true=>
   refine gx0 ?_
   refine⟨trivial,rec,rfl,w5,?_⟩
   refine gx2 @l1 @s1 ?_
   refine⟨{rec with state:=.busy},?_,rfl,?_⟩
   ·show(H.loops.set h.loops.length _)[h.loops.length]?=_
    simp[hll]
   ·show(H.put h.boxes.length _)=_
    simp only[ae.put,ae.busy,aeD,hrec,hsame]
  |false=>
   refine gx0 ?_
   refine⟨trivial,rec,rfl,w5,{rec with state:=.busy},?_,rfl,?_⟩
   ·show(H.loops.set h.loops.length _)[h.loops.length]?=_
    simp[hll]
   ·have hq:H.put h.boxes.length [AV.v (Value.int IntKind.i64 (c:Nat))]=H:=ec hl2
    refine(show H.put h.boxes.length _=H from hq).trans ?_
    simp only[ae.busy,aeD,hrec,hsame]
 have hb0:∀{z:bE},((((h.push [AV.v (.int .i64 1)]).push [AV.v (.int .i64 (x:Nat))]).push [AV.v (.int .i64 (m:Nat))]).loop z).boxes[h.boxes.length]?=some [im ((1:Nat):Int)]:=fun{z}=>aj (aj (ak _ _))
 have hb1:∀{z:bE},((((h.push [AV.v (.int .i64 1)]).push [AV.v (.int .i64 (x:Nat))]).push [AV.v (.int .i64 (m:Nat))]).loop z).boxes[h.boxes.length+1]?=some [im (x:Nat)]:=fun{z}=>aj (cD (by rw[az]))
 have hb2:∀{z:bE},((((h.push [AV.v (.int .i64 1)]).push [AV.v (.int .i64 (x:Nat))]).push [AV.v (.int .i64 (m:Nat))]).loop z).boxes[h.boxes.length+1+1]?=some [im (m:Nat)]:=fun{z}=>cD (by rw[az,az])
 have hlr:=@kC (((h.push [AV.v (.int .i64 1)]).push [AV.v (.int .i64 (x:Nat))]).push [AV.v (.int .i64 (m:Nat))]) rec
 have hmQ:=kS.out.2.2.1
 obtain⟨h',c1,c2,c3,c4⟩:=OK h.loops.length (h.boxes.length+1+1) (h.boxes.length+1) h.boxes.length rec PR (by omega) (by omega) (by omega) r m x 1 (by unfold Q at hmQ;omega) kS.out.1 _ hb2 hb1 hb0 hlr
 refine⟨_,h',c1,rec,by rw[c3];exact hlr,by rw[w5];decide,.inl ⟨w6,?_⟩⟩
 have hX:Ext h h':=c4 h ((((Ext.push h _).trans (Ext.push _ _)).trans (Ext.push _ _)).trans ((Fr.lD (bn:=h.boxes.length+3) (l0:=h.loops.length) (n0:=h.tn) _ _).ext (by simp only[az];omega) (abq _) (abq _))) (by omega) (by omega) (abq _)
 have hlt:h.boxes.length<h'.boxes.length:=(abm.1 c2).1
 generalize hH:h'.bh h.loops.length {rec with state:=.exhausted}=H
 have hb:H.boxes[h.boxes.length]?=some [im (r:Nat)]:=by rw[<-hH];exact c2
 have hX2:Ext h H:=by
  rw[<-hH]
  exact((Fr.sF (bn:=h.boxes.length) (l0:=h.loops.length) (n0:=h.tn) hX (abq _)).trans (.bh (abq _) _)).ext (abq _) (abq _) (abq _)
 clear c1 c2 c3 c4 hH hlr hb0 hb1 hb2 PR w1 w2 w3 w4 w5 w6 hX hlt
 have l1:=ld3 hb
 unfold im at *
 have s1:=fun n=>st3 (n:=n) hb
 have l2:∀y,ai Tryz.prog Gt (H.put h.boxes.length [.v (.int .i64 y)]) 3 (.ptr (.box h.boxes.length) 0)=some (.v (.int .i64 y)):=fun y=>ld3 (aS (abm.1 hb).1)
 refine gx1 @OJ ?_
 exact⟨_,rfl,hX2.bZ (abq _) _⟩
abbrev u8s(b:List UInt8):List (List AV):=b.map dp
theorem Ns:Tryz.f220.results.toList=[.tmp 2]:=kZq
theorem p8:Tryz.f221.results.toList=[.tmp 4]:=kZq
theorem Nt:Tryz.f222.results.toList=[.tmp 8]:=kZq
theorem ag5:cZ Tryz.prog 5=some false:=kZq
theorem sz5:bF Tryz.prog 5=some 1:=kZq
theorem OL(n:Int)(h:ae):fm Tryz.prog h 5 42 (.v (.int .u8 n))=some (.v (.int .u32 (IntKind.u32.wrap n)),h):=kZq
theorem gN(n:Int)(h:ae):fm Tryz.prog h 3 179 (.v (.int .i64 n))=some (.v (.int .u64 (IntKind.u64.wrap n)),h):=kZq
def lT(b:List UInt8):Nat->Nat
 |0=>0
 |i+1=>lT b i * 256+(bAt b i).toNat
theorem A7(b:UInt8):b.toNat<256:=b.toNat_lt
theorem Eu(b:List UInt8):∀i,lT b i<256^i
 |0=>Nat.zero_lt_one
 |i+1=>by
  have:=Eu b i
  have:=A7 (bAt b i)
  unfold lT
  rw[aeg]
  omega
theorem Jg(b:List UInt8):BitVec.ofNat 32 (lT b 4)=rz b 0:=by
 unfold rz
 refine congrArg (BitVec.ofNat 32) ?_
 show(((0 * 256+(bAt b 0).toNat) * 256+(bAt b 1).toNat) * 256+(bAt b 2).toNat) * 256+(bAt b 3).toNat=((bAt b 0).toNat * 256+(bAt b 1).toNat) * 256 * 256+(bAt b 2).toNat * 256+(bAt b 3).toNat
 omega
theorem or8{t:TypeId}{x y:Operand}{n m:Nat}(hn:n<16777216)(hm:m<256):bB Tryz.prog .or t x y (w32 (BitVec.ofNat 32 n<<<8)) (.v (.int .u32 (IntKind.u32.wrap (m:Nat))))=some (w32 (BitVec.ofNat 32 (n * 256+m))):=by
 have e1:AV.v (.int .u32 (IntKind.u32.wrap (m:Nat)))=w32 (BitVec.ofNat 32 m):=by
  unfold w32
  rw[wrap32,BitVec.toNat_ofNat]
  congr 2
 rw[e1,pM]
 congr 2
 apply BitVec.eq_of_toNat_eq
 rw[BitVec.toNat_or,BitVec.toNat_shiftLeft,BitVec.toNat_ofNat,BitVec.toNat_ofNat,BitVec.toNat_ofNat]
 have:n%2^32=n:=acn (by omega)
 rw[this]
 have h1:n<<<8=n * 256:=by rw[adK]
 have h2:n<<<8%2^32=n<<<8:=acn (by omega)
 rw[h2,acn (show m<2^32 by omega),<-ads (show m<2^8 by omega),h1]
 exact(acn (by omega)).symm
theorem SI{t:TypeId}{x y:Operand}{u:BitVec 32}:bB Tryz.prog .shl t x y (w32 u) (.v (.int .u64 8))=some (w32 (u<<<8)):=oE (n:=8) (by decide)
theorem Mr(b:List UInt8)(x:AV)(h:ae)(s:b9 1 h x (u8s b))(hb:4<=b.length):W.call 220 [x] h=some (.ret (w32 (rz b 0)),h):=by
 have u28:=Tryz.underlying28
 have a5:=ag5;have s5:=sz5
 obtain⟨y,y1,y2⟩:=s.slice (t:=28) (lo:=none) (hi:=some (.v (.int .i64 4))) (l:=0) (m:=4) (by decide) u28 sz5 (.inr ⟨.i64,rfl,by simpa using hb⟩) (.inl ⟨rfl,rfl⟩) (by decide)
 have y3:=y2.len u28
 rw[show((agn 4 (u8s b)).drop 0).length=4 by simp;omega] at y3
 have kY:=ah.mk y2
 clear s y2
 refine ar rfl Tryz.func220 rfl ?_
 refine Zg @Ns ?_
 refine aD (fun m e h'=>∃i:Nat,i<=4/\m=4 - i/\e.get 6=y/\e.get 7=.v (.int .i64 (4:Nat))/\e.get 8=.v (.int .i64 i)/\e.get 2=w32 (BitVec.ofNat 32 (lT b i))/\e.defers=[]/\h'=h) ?_ 4 _ _ ?_
 rotate_left 1
 ·refine⟨0,abG _,rfl,?_,?_,?_,?_,?_,rfl⟩<;>(first|assumption|(exact gR))
 rintro m e h' ⟨i,hi,rfl,g6,g7,g8,g2,hd,rfl⟩
 by_cases hc:i=4
 ·subst hc
  rw[Jg] at g2
  exact YX @Ns
 ·have hlt:i<4:=by omega
  have hb2:i<b.length:=by omega
  obtain⟨p,p1,p2,-⟩:=kY.out.index (G:=Gt) (t:=28) (i:=i) (row:=dp (b[i])) (by decide) u28 sz5 (by simp[hlt,hb2])
  have p4:=p2 ag5
  have e1:(dp b[i]).head?=some (.v (.int .u8 (((bAt b i).toNat:Nat):Int))):=by
   unfold bAt
   rw[abw,abo hb2];rfl
  rw[e1] at p4
  have l1:=Eu b i
  have l2:lT b i<16777216:=ab8 l1 (by
   have:256^i<=256^3:=afm (by decide) (by omega)
   exact this)
  have l3:=A7 (bAt b i)
  clear p2 e1 l1
  repeat' (first|simp(maxSteps:=999999)(disch:=first|exact dZ|fail)only[gW,reduceIte,abn,gBQ,OL,or8,SI, *]|(refine dX ?_ ?_<;>(intro _;try omega))|refine aP kZq ?_)
  refine⟨4 - (i+1),by omega,i+1,by omega,rfl,trivial,trivial,?_,?_,trivial,trivial⟩
  ·rfl
  ·rfl
theorem wE(v:U32)(n:Nat)(hn:n<32):(v<<<(32 - n))|||(v>>>n)=NT.ror v n:=by unfold NT.ror;rw[BitVec.or_comm]
theorem SJ(v:U32)(h:ae):W.call 221 [w32 v,.v (.int .i64 (-2))] h=some (.ret (w32 (NT.ror v 2)),h):=by
 have c1:∀(t:TypeId) (x y:Operand),bB Tryz.prog .and t x y (.v (.int .u64 (IntKind.u64.wrap (-2)))) (.v (.int .u64 31))=some (.v (.int .u64 30)):=fun t x y=>by rw[fQ];rfl
 have c2:∀(t:TypeId) (x y:Operand),bB Tryz.prog .shl t x y (w32 v) (.v (.int .u64 30))=some (w32 (v<<<30)):=fun t x y=>oE (n:=30) (by decide)
 have c3:∀(t:TypeId) (x y:Operand),bB Tryz.prog .shr t x y (w32 v) (.v (.int .u64 (IntKind.u64.wrap (32 - 30))))=some (w32 (v>>>2)):=fun t x y=>nQ (n:=2) (by decide)
 have c4:=wE v 2 (by decide)
 refine ar rfl Tryz.func221 rfl ?_
 exact Y6 @p8 @gN @pM
theorem SK(v:U32)(h:ae):W.call 221 [w32 v,.v (.int .i64 (-6))] h=some (.ret (w32 (NT.ror v 6)),h):=by
 have c1:∀(t:TypeId) (x y:Operand),bB Tryz.prog .and t x y (.v (.int .u64 (IntKind.u64.wrap (-6)))) (.v (.int .u64 31))=some (.v (.int .u64 26)):=fun t x y=>by rw[fQ];rfl
 have c2:∀(t:TypeId) (x y:Operand),bB Tryz.prog .shl t x y (w32 v) (.v (.int .u64 26))=some (w32 (v<<<26)):=fun t x y=>oE (n:=26) (by decide)
 have c3:∀(t:TypeId) (x y:Operand),bB Tryz.prog .shr t x y (w32 v) (.v (.int .u64 (IntKind.u64.wrap (32 - 26))))=some (w32 (v>>>6)):=fun t x y=>nQ (n:=6) (by decide)
 have c4:=wE v 6 (by decide)
 refine ar rfl Tryz.func221 rfl ?_
 exact Y6 @p8 @gN @pM
theorem SM(v:U32)(h:ae):W.call 221 [w32 v,.v (.int .i64 (-7))] h=some (.ret (w32 (NT.ror v 7)),h):=by
 have c1:∀(t:TypeId) (x y:Operand),bB Tryz.prog .and t x y (.v (.int .u64 (IntKind.u64.wrap (-7)))) (.v (.int .u64 31))=some (.v (.int .u64 25)):=fun t x y=>by rw[fQ];rfl
 have c2:∀(t:TypeId) (x y:Operand),bB Tryz.prog .shl t x y (w32 v) (.v (.int .u64 25))=some (w32 (v<<<25)):=fun t x y=>oE (n:=25) (by decide)
 have c3:∀(t:TypeId) (x y:Operand),bB Tryz.prog .shr t x y (w32 v) (.v (.int .u64 (IntKind.u64.wrap (32 - 25))))=some (w32 (v>>>7)):=fun t x y=>nQ (n:=7) (by decide)
 have c4:=wE v 7 (by decide)
 refine ar rfl Tryz.func221 rfl ?_
 exact Y6 @p8 @gN @pM
theorem Qt(v:U32)(h:ae):W.call 221 [w32 v,.v (.int .i64 (-11))] h=some (.ret (w32 (NT.ror v 11)),h):=by
 have c1:∀(t:TypeId) (x y:Operand),bB Tryz.prog .and t x y (.v (.int .u64 (IntKind.u64.wrap (-11)))) (.v (.int .u64 31))=some (.v (.int .u64 21)):=fun t x y=>by rw[fQ];rfl
 have c2:∀(t:TypeId) (x y:Operand),bB Tryz.prog .shl t x y (w32 v) (.v (.int .u64 21))=some (w32 (v<<<21)):=fun t x y=>oE (n:=21) (by decide)
 have c3:∀(t:TypeId) (x y:Operand),bB Tryz.prog .shr t x y (w32 v) (.v (.int .u64 (IntKind.u64.wrap (32 - 21))))=some (w32 (v>>>11)):=fun t x y=>nQ (n:=11) (by decide)
 have c4:=wE v 11 (by decide)
 refine ar rfl Tryz.func221 rfl ?_
 exact Y6 @p8 @gN @pM
theorem Qu(v:U32)(h:ae):W.call 221 [w32 v,.v (.int .i64 (-13))] h=some (.ret (w32 (NT.ror v 13)),h):=by
 have c1:∀(t:TypeId) (x y:Operand),bB Tryz.prog .and t x y (.v (.int .u64 (IntKind.u64.wrap (-13)))) (.v (.int .u64 31))=some (.v (.int .u64 19)):=fun t x y=>by rw[fQ];rfl
 have c2:∀(t:TypeId) (x y:Operand),bB Tryz.prog .shl t x y (w32 v) (.v (.int .u64 19))=some (w32 (v<<<19)):=fun t x y=>oE (n:=19) (by decide)
 have c3:∀(t:TypeId) (x y:Operand),bB Tryz.prog .shr t x y (w32 v) (.v (.int .u64 (IntKind.u64.wrap (32 - 19))))=some (w32 (v>>>13)):=fun t x y=>nQ (n:=13) (by decide)
 have c4:=wE v 13 (by decide)
 refine ar rfl Tryz.func221 rfl ?_
 exact Y6 @p8 @gN @pM
theorem Qv(v:U32)(h:ae):W.call 221 [w32 v,.v (.int .i64 (-17))] h=some (.ret (w32 (NT.ror v 17)),h):=by
 have c1:∀(t:TypeId) (x y:Operand),bB Tryz.prog .and t x y (.v (.int .u64 (IntKind.u64.wrap (-17)))) (.v (.int .u64 31))=some (.v (.int .u64 15)):=fun t x y=>by rw[fQ];rfl
 have c2:∀(t:TypeId) (x y:Operand),bB Tryz.prog .shl t x y (w32 v) (.v (.int .u64 15))=some (w32 (v<<<15)):=fun t x y=>oE (n:=15) (by decide)
 have c3:∀(t:TypeId) (x y:Operand),bB Tryz.prog .shr t x y (w32 v) (.v (.int .u64 (IntKind.u64.wrap (32 - 15))))=some (w32 (v>>>17)):=fun t x y=>nQ (n:=17) (by decide)
 have c4:=wE v 17 (by decide)
 refine ar rfl Tryz.func221 rfl ?_
 exact Y6 @p8 @gN @pM
theorem Qw(v:U32)(h:ae):W.call 221 [w32 v,.v (.int .i64 (-18))] h=some (.ret (w32 (NT.ror v 18)),h):=by
 have c1:∀(t:TypeId) (x y:Operand),bB Tryz.prog .and t x y (.v (.int .u64 (IntKind.u64.wrap (-18)))) (.v (.int .u64 31))=some (.v (.int .u64 14)):=fun t x y=>by rw[fQ];rfl
 have c2:∀(t:TypeId) (x y:Operand),bB Tryz.prog .shl t x y (w32 v) (.v (.int .u64 14))=some (w32 (v<<<14)):=fun t x y=>oE (n:=14) (by decide)
 have c3:∀(t:TypeId) (x y:Operand),bB Tryz.prog .shr t x y (w32 v) (.v (.int .u64 (IntKind.u64.wrap (32 - 14))))=some (w32 (v>>>18)):=fun t x y=>nQ (n:=18) (by decide)
 have c4:=wE v 18 (by decide)
 refine ar rfl Tryz.func221 rfl ?_
 exact Y6 @p8 @gN @pM
theorem Qx(v:U32)(h:ae):W.call 221 [w32 v,.v (.int .i64 (-19))] h=some (.ret (w32 (NT.ror v 19)),h):=by
 have c1:∀(t:TypeId) (x y:Operand),bB Tryz.prog .and t x y (.v (.int .u64 (IntKind.u64.wrap (-19)))) (.v (.int .u64 31))=some (.v (.int .u64 13)):=fun t x y=>by rw[fQ];rfl
 have c2:∀(t:TypeId) (x y:Operand),bB Tryz.prog .shl t x y (w32 v) (.v (.int .u64 13))=some (w32 (v<<<13)):=fun t x y=>oE (n:=13) (by decide)
 have c3:∀(t:TypeId) (x y:Operand),bB Tryz.prog .shr t x y (w32 v) (.v (.int .u64 (IntKind.u64.wrap (32 - 13))))=some (w32 (v>>>19)):=fun t x y=>nQ (n:=19) (by decide)
 have c4:=wE v 19 (by decide)
 refine ar rfl Tryz.func221 rfl ?_
 exact Y6 @p8 @gN @pM
theorem Qy(v:U32)(h:ae):W.call 221 [w32 v,.v (.int .i64 (-22))] h=some (.ret (w32 (NT.ror v 22)),h):=by
 have c1:∀(t:TypeId) (x y:Operand),bB Tryz.prog .and t x y (.v (.int .u64 (IntKind.u64.wrap (-22)))) (.v (.int .u64 31))=some (.v (.int .u64 10)):=fun t x y=>by rw[fQ];rfl
 have c2:∀(t:TypeId) (x y:Operand),bB Tryz.prog .shl t x y (w32 v) (.v (.int .u64 10))=some (w32 (v<<<10)):=fun t x y=>oE (n:=10) (by decide)
 have c3:∀(t:TypeId) (x y:Operand),bB Tryz.prog .shr t x y (w32 v) (.v (.int .u64 (IntKind.u64.wrap (32 - 10))))=some (w32 (v>>>22)):=fun t x y=>nQ (n:=22) (by decide)
 have c4:=wE v 22 (by decide)
 refine ar rfl Tryz.func221 rfl ?_
 exact Y6 @p8 @gN @pM
theorem Qz(v:U32)(h:ae):W.call 221 [w32 v,.v (.int .i64 (-25))] h=some (.ret (w32 (NT.ror v 25)),h):=by
 have c1:∀(t:TypeId) (x y:Operand),bB Tryz.prog .and t x y (.v (.int .u64 (IntKind.u64.wrap (-25)))) (.v (.int .u64 31))=some (.v (.int .u64 7)):=fun t x y=>by rw[fQ];rfl
 have c2:∀(t:TypeId) (x y:Operand),bB Tryz.prog .shl t x y (w32 v) (.v (.int .u64 7))=some (w32 (v<<<7)):=fun t x y=>oE (n:=7) (by decide)
 have c3:∀(t:TypeId) (x y:Operand),bB Tryz.prog .shr t x y (w32 v) (.v (.int .u64 (IntKind.u64.wrap (32 - 7))))=some (w32 (v>>>25)):=fun t x y=>nQ (n:=25) (by decide)
 have c4:=wE v 25 (by decide)
 refine ar rfl Tryz.func221 rfl ?_
 exact Y6 @p8 @gN @pM
theorem Jh(v:U32)(h:ae):W.call 222 [w32 v,.v (.int .i64 6),.v (.int .i64 11),.v (.int .i64 25)] h=some (.ret (w32 (NT.ror v 6^^^NT.ror v 11^^^NT.ror v 25)),h):=by
 have w1:IntKind.i64.wrap (0 - 6)= -6:=by decide
 have w2:IntKind.i64.wrap (0 - 11)= -11:=by decide
 have w3:IntKind.i64.wrap (0 - 25)= -25:=by decide
 have c1:=SK v
 have c2:=Qt v
 have c3:=Qz v
 refine ar rfl Tryz.func222 rfl ?_
 exact ZN @Nt @jP
theorem Ji(v:U32)(h:ae):W.call 222 [w32 v,.v (.int .i64 2),.v (.int .i64 13),.v (.int .i64 22)] h=some (.ret (w32 (NT.ror v 2^^^NT.ror v 13^^^NT.ror v 22)),h):=by
 have w1:IntKind.i64.wrap (0 - 2)= -2:=by decide
 have w2:IntKind.i64.wrap (0 - 13)= -13:=by decide
 have w3:IntKind.i64.wrap (0 - 22)= -22:=by decide
 have c1:=SJ v
 have c2:=Qu v
 have c3:=Qy v
 refine ar rfl Tryz.func222 rfl ?_
 exact ZN @Nt @jP
theorem lH:Tryz.f204.results.toList=[]:=kZq
theorem Jj:cZ Tryz.prog 42=some false:=kZq
theorem zf:bF Tryz.prog 42=some 1:=kZq
theorem Ev:cZ Tryz.prog 230=some true:=kZq
theorem xv:bF Tryz.prog 230=some 8:=kZq
theorem QA:(ej Tryz.prog 242).bind AV.aC=some (abt 64 (w32 0#32)):=kZq
theorem Nu:(ej Tryz.prog 230).bind AV.aC=some (abt 8 (w32 0#32)):=kZq
abbrev ek(l:List U32):List AV:=l.map w32
theorem vk{b n:Nat}{k:IntKind}(hn:n<64):ay Tryz.prog 242 (.ptr (.box b) 0) (.v (.int k (n:Nat)))=some (.ptr (.box b) n):=by
 have hu:=Tryz.underlying242
 unfold ay
 rw[hu]
 simp only[zf]
 rw[if_pos ⟨by omega,by omega⟩]
 simp
theorem OM{g n:Nat}{k:IntKind}(hn:n<64):ay Tryz.prog 242 (.ptr (.dW g) 0) (.v (.int k (n:Nat)))=some (.ptr (.dW g) n):=by
 have hu:=Tryz.underlying242
 unfold ay
 rw[hu]
 simp only[zf]
 rw[if_pos ⟨by omega,by omega⟩]
 simp
theorem rG{b n:Nat}{k:IntKind}(hn:n<8):ay Tryz.prog 230 (.ptr (.box b) 0) (.v (.int k (n:Nat)))=some (.ptr (.box b) n):=by
 have hu:=Tryz.underlying230
 unfold ay
 rw[hu]
 simp only[zf]
 rw[if_pos ⟨by omega,by omega⟩]
 simp
theorem Dr{H:ae}{b n:Nat}{l:List U32}(hb:H.boxes[b]?=some (ek l))(hn:n<l.length):ai Tryz.prog Gt H 42 (.ptr (.box b) n)=some (w32 (wAt l n)):=by
 rw[dc Jj hb,aeu,wAt,abw,abF,abo hn];rfl
theorem ON{H:ae}{b n:Nat}{l:List U32}{x:U32}(hb:H.boxes[b]?=some (ek l))(hn:n<l.length):aA Tryz.prog H 42 (.ptr (.box b) n) (w32 x)=some (H.put b (ek (l.set n x))):=by
 have h1:n+1<=(ek l).length:=by rw[abu];omega
 rw[aW (xs:=[w32 x]) rfl zf hb rfl h1]
 congr 2
 unfold bI ek
 rw[acy,if_pos hn]
 simp
theorem QB{H:ae}{t:Nat}(ht:t<64):ai Tryz.prog Gt H 42 (.ptr (.dW 1) t)=some (w32 (kAt t)):=by
 have hl:t<xo.length:=ht
 unfold ai
 rw[Jj]
 show((oM.drop t).head?)=_
 rw[aeu]
 unfold oM kAt
 rw[abF,abw,abo hl]
 show some _=some (w32 (BitVec.ofNat 32 xo[t]))
 unfold w32
 rw[BitVec.toNat_ofNat]
 have:∀x∈xo,x<2^32:=by decide
 rw[acn (this _ (List.getElem_mem hl))]
theorem mQ(b:List UInt8):∀n,(eP b n).length=n
 |0=>rfl
 |n+1=>by rw[eP,abx,mQ b n];rfl
def wl(b:List UInt8)(i:Nat):List U32:=eP b i++abt (64 - i) 0#32
theorem sI{b:List UInt8}{i:Nat}(hi:i<=64):(wl b i).length=64:=by unfold wl;rw[abx,mQ,ack];omega
theorem QC{b:List UInt8}{i k:Nat}(hk:k<i):wAt (wl b i) k=wAt (eP b i) k:=by
 unfold wl wAt
 rw[abw,List.getElem?_append_left (by rw[mQ];exact hk),abw]
theorem Jk{b:List UInt8}{i:Nat}{x:U32}(hi:i<64)(hx:x=if i<16 then rz b (4 * i) else En (eP b i) i):(wl b i).set i x=wl b (i+1):=by
 subst hx
 unfold wl
 have h1:=mQ b i
 obtain⟨k,hk⟩:∃k,64 - i=k+1:=⟨63 - i,by omega⟩
 rw[adr _ _ (by omega),h1,adx,hk,adl,aeU,show 64 - (i+1)=k by omega,eP,acI]
 rfl
theorem Ms(b:List UInt8):ek (wl b 0)=abt 64 (w32 0#32):=by
 show List.map w32 ([]++abt 64 0#32)=_
 rw[ab9,aev]
theorem OO(b:List UInt8):wl b 64=eP b 64:=by unfold wl;simp
theorem Ds(b:List UInt8)(k:Nat):rz (b.drop k) 0=rz b k:=by
 unfold rz bAt
 simp only[abw,acw,adO,acB]
theorem Gg(w v:List U32)(t:Nat)(a b c d e f g i:U32)(hv:v=[a,b,c,d,e,f,g,i]):zd w v t=
 [i+(NT.ror e 6^^^NT.ror e 11^^^NT.ror e 25)+(g^^^(e&&&(f^^^g)))+kAt t+wAt w t+((NT.ror a 2^^^NT.ror a 13^^^NT.ror a 22)+((a&&&b)|||(c&&&(a|||b)))),
  a,b,c,d+(i+(NT.ror e 6^^^NT.ror e 11^^^NT.ror e 25)+(g^^^(e&&&(f^^^g)))+kAt t+wAt w t),e,f,g]:=by
 subst hv
 rw[Qq,OD]
 rfl
theorem eight{l:List U32}(h:l.length=8):∃a b c d e f g i,l=[a,b,c,d,e,f,g,i]:=by
 match l,h with
 | [a,b,c,d,e,f,g,i],_=>exact⟨a,b,c,d,e,f,g,i,rfl⟩
def vF(s:List U32)(b:List UInt8)(t:Nat):List U32:=(aby t).foldl (zd (eP b 64)) s
theorem Ew(s:List U32)(b:List UInt8)(t:Nat):vF s b (t+1)=zd (eP b 64) (vF s b t) t:=by
 unfold vF
 rw[List.range_succ,acs];rfl
theorem Dt{s:List U32}(b:List UInt8)(hs:s.length=8):∀t,(vF s b t).length=8
 |0=>hs
 |t+1=>by rw[Ew];rfl
def rH(s v:List U32)(i:Nat):List U32:=aeA (·+·) (s.take i) (v.take i)++s.drop i
theorem Gh{s v:List U32}(hs:s.length=8)(hv:v.length=8){i:Nat}(hi:i<=8):(rH s v i).length=8:=by
 unfold rH;simp;omega
theorem Jl{s v:List U32}(hs:s.length=8)(hv:v.length=8){i:Nat}(hi:i<8):wAt (rH s v i) i=wAt s i:=by
 unfold rH wAt
 rw[abw,List.getElem?_append_right (by simp;omega),acw,abw]
 congr 2
 simp;omega
theorem Gi{s v:List U32}(hs:s.length=8)(hv:v.length=8){i:Nat}(hi:i<8):(rH s v i).set i (wAt s i+wAt v i)=rH s v (i+1):=by
 obtain⟨a,b,c,d,e,f,g,j,rfl⟩:=eight hs
 obtain⟨a',b',c',d',e',f',g',j',rfl⟩:=eight hv
 have:i=0∨i=1∨i=2∨i=3∨i=4∨i=5∨i=6∨i=7:=by omega
 rcases this with rfl|rfl|rfl|rfl|rfl|rfl|rfl|rfl<;>rfl
theorem Gj{s b:List U32}(hs:s.length=8)(hv:b.length=8):rH s b 8=aeA (·+·) s b:=by
 unfold rH
 rw[abD (by omega),abD (by omega),acm (by omega),ab2]
end Go.Proofs.YtnfciiiohoafaaaGreatDoor
end
section
namespace Go.AE
section
variable {b n0:Nat} {h h':ae}
theorem Mut.bZ(m:Mut b n0 h h'){c:Nat}(hc:h.boxes.length<=c)(cs:List AV):Mut b n0 h (h'.put c cs):=by
 refine⟨fun d ds hd hb=>?_,by rw[dU];exact m.len,m.loop,m.tn,m.dead,m.ok⟩
 have hlt:d<h.boxes.length:=(abm.1 hb).1
 rw[av (by omega)]
 exact m.box d ds hd hb
theorem Mut.push(m:Mut b n0 h h')(cs:List AV):Mut b n0 h (h'.push cs):=
 ⟨fun d ds hd hb=>aj (m.box d ds hd hb),by rw[az];exact Nat.le_succ_of_le m.len,m.loop,m.tn,m.dead,m.ok⟩
end
theorem Mut.tS{b n0 n1:Nat}{h h':ae}(m:Mut b n1 h h')(hn:n0<=n1):Mut b n0 h h':=⟨m.box,m.len,m.loop,m.tn,fun k hk hd=>m.dead k (ab8 hk hn) hd,m.ok⟩
theorem bG.mut{b n0 n1:Nat}{h h':ae}{k:Tok}(hk:bG n0 h k)(m:Mut b n1 h h')(hn:h.tn<=n1):bG n0 h' k:=by
 rcases hk with q|q|⟨z,q,q2,q3⟩
 ·exact .inl q
 ·exact .inr (.inl q)
 ·refine .inr (.inr ⟨z,q,q2,?_⟩)
  unfold alive at q3 ⊢
  simp only[abr,decide_eq_true_eq,Bool.not_eq_true',List.contains_eq_mem,decide_eq_false_iff_not] at q3 ⊢
  exact⟨ab8 q3.1 m.tn,fun hd=>q3.2 (m.dead z (ab8 q3.1 hn) hd)⟩
end Go.AE
end
section
namespace Go.Proofs.YtnfciiiohoafaaaGreatDoor
open Go.AE Go.NT
theorem jX{t:TypeId}{x y:Operand}{u:BitVec 32}:bB Tryz.prog .shr t x y (w32 u) (.v (.int .u64 3))=some (w32 (u>>>3)):=nQ (n:=3) (by decide)
theorem iM{t:TypeId}{x y:Operand}{u:BitVec 32}:bB Tryz.prog .shr t x y (w32 u) (.v (.int .u64 10))=some (w32 (u>>>10)):=nQ (n:=10) (by decide)
theorem zh{s:List U32}(hs:s.length=8):(AV.agg (ek s)).aC=some (ek s):=by
 obtain⟨a,b,c,d,e,f,g,j,rfl⟩:=eight hs
 rfl
theorem xw(n:Nat):ek (abt n 0#32)=abt n (w32 0#32):=by simp[ek]
theorem gI{R:Rec}{c:Code}{e:Env}{h:ae}{I:Nat->Env->ae->Prop}{m:Nat}{Q0:Xt->Env->ae->Prop}(hq:∀Q,Run R c e h (uT I m Q)):Run R c e h (uT I m Q0):=hq Q0
theorem uj{h:ae}{b:Nat}{xs ys:List AV}:(h.put b xs).put b ys=h.put b ys:=by
 unfold ae.put
 simp only[aeD]
theorem ldp{H:ae}{b k:Nat}{cs:List AV}(hb:b<H.boxes.length):ai Tryz.prog Gt (H.put b cs) 42 (.ptr (.box b) k)=(cs.drop k).head?:=dc Jj (aS hb)
theorem stp{H:ae}{b k:Nat}{cs:List AV}{x:U32}(hb:b<H.boxes.length)(hk:k+1<=cs.length):aA Tryz.prog (H.put b cs) 42 (.ptr (.box b) k) (w32 x)=some (H.put b (cs.set k (w32 x))):=by
 rw[aW (xs:=[w32 x]) rfl zf (aS hb) rfl hk,uj]
 congr 2
 unfold bI
 rw[acy,if_pos (show k<cs.length from hk)]
 simp
theorem OP{b:Nat}:ck Tryz.prog 230 (.ptr (.box b) 0) (some (.v (.int .i64 1))) none none=some (.arr b 1 7 7):=kZq
theorem OQ{b:Nat}:ck Tryz.prog 230 (.ptr (.box b) 0) none (some (.v (.int .i64 7))) none=some (.arr b 0 7 8):=kZq
theorem QD{H:ae}{b:Nat}{a0 a1 a2 a3 a4 a5 a6 a7:AV}(hb:H.boxes[b]?=some [a0,a1,a2,a3,a4,a5,a6,a7]):oi Tryz.prog H #[43,43] (.arr b 1 7 7) (.arr b 0 7 8)=some (.v (.int .i64 7),H.put b [a0,a0,a1,a2,a3,a4,a5,a6]):=by
 have hn:eH H 1 (.arr b 0 7 8)=some [[a0],[a1],[a2],[a3],[a4],[a5],[a6]]:=by
  show rowsOf H 1 (.arr b 0 7 8)=_
  unfold rowsOf
  simp only[hb]
  rfl
 have hi:∃i,Tryz.prog.info? 42=some i/\i.size=1:=by
  have h42:=zf
  unfold bF at h42
  cases hq:Tryz.prog.info? 42 with
  |none=>rw[hq] at h42;cases h42
  |some i=>rw[hq] at h42;exact⟨i,rfl,by simpa using h42⟩
 obtain⟨i,h1,h2⟩:=hi
 have hu:((#[43,43]:Array Nat)[0]?).bind Tryz.prog.underlying=some (.slice 42):=kZq
 unfold oi
 rw[hu]
 simp only[h1,h2,hn,hb]
 rfl
theorem sJ(s:List U32)(b:List UInt8)(sb:Nat)(x:AV)(h:ae)(hs:s.length=8)(hb:64<=b.length)(hsb:h.boxes[sb]?=some (ek s))
 (hx:∀H,Mut sb h.tn h H->b9 1 H x (u8s b)):
 ∃h',W.call 204 [.ptr (.box sb) 0,x] h=some (.ret (.tuple []),h')/\h'.boxes[sb]?=some (ek (qy s b))/\Mut sb h.tn h h':=by
 have kX:=ah.mk hx
 clear hx
 have hslt:=(abm.1 hsb).1
 have kz:=ah.mk (Ms b)
 have z242:=QA
 refine dL rfl Tryz.func204 rfl ?_
 refine gx2 @lH @az ?_
 refine aD (fun m e H=>∃i:Nat,i<=16/\m=16 - i/\e.get 0=.ptr (.box sb) 0/\e.get 1=x/\e.get 4=.ptr (.box h.boxes.length) 0/\e.get 14=.v (.int .i64 i)/\e.defers=[]/\H.boxes[h.boxes.length]?=some (ek (wl b i))/\H.boxes[sb]?=some (ek s)/\Mut sb h.tn h H) ?_ 16 _ _ ?_
 rotate_left 1
 ·refine⟨0,abG _,rfl,?_,?_,?_,?_,?_,?_,aj hsb,(Mut.refl _ _ _).push _⟩
  iterate 5 (first|assumption|(exact gR))
  rw[kz.out];exact ak _ _
 clear z242 kz
 rintro m e H ⟨i,hi,rfl,g0,g1,g4,g14,hd,hw,hsb2,hM⟩
 have kM:=ah.mk hM
 have hHl:=hM.len
 clear hM
 by_cases hc:i=16
 rotate_left 1
 ·refine gI fun Q=>?_
  have hlt:i<16:=by omega
  have hx2:=kX.out H kM.out
  obtain⟨y,y1,y2⟩:=hx2.slice (t:=28) (lo:=some (.v (.int .i64 ((4 * i:Nat):Int)))) (hi:=none) (l:=4 * i) (m:=b.length) (by decide) Tryz.underlying28 sz5 (.inl ⟨rfl,by rw[abu]⟩) (.inr ⟨.i64,rfl⟩) (by omega)
  have y3:b9 1 H y (u8s (b.drop (4 * i))):=by
   have e:(agn b.length (u8s b)).drop (4 * i)=u8s (b.drop (4 * i)):=by
    rw[abD (by rw[abu];exact abq _),<-agc]
   rw[<-e];exact y2
  have cw:=Mr _ y H y3 (by rw[abS];omega)
  rw[Ds] at cw
  have e4:IntKind.i64.wrap (4 * ((i:Nat):Int))=((4 * i:Nat):Int):=by rw[bT (by omega) (by omega)];omega
  have st:=fun z=>ON (x:=z) hw (n:=i) (by rw[sI (by omega)];omega)
  have hst:=fun z hz=>Jk (b:=b) (i:=i) (x:=z) (by omega) hz
  have hst2:=hst (rz b (4 * i)) (by rw[if_pos hlt])
  have kst:=ah.mk hst2
  have hwl:=(abm.1 hw).1
  have ks:=ah.mk hsb2
  clear hst hst2 hx2 y2 y3 hw hsb2 hsb
  have ix:=vk (b:=h.boxes.length) (n:=i) (k:=.i64) (by omega)
  repeat' (first|simp(maxSteps:=999999)(disch:=first|exact dZ|fail)only[gW,reduceIte,abn,gBQ,lH, *]|refine dX ?_ ?_<;>(intro _;try omega))
  refine⟨16 - (i+1),by omega,i+1,by omega,rfl,trivial,trivial,trivial,rfl,trivial,?_,?_,kM.out.bZ (abq _) _⟩
  ·rw[kst.out]
   exact aS hwl
  ·rw[av (by omega)];exact ks.out
 subst hc
 have kw:=ah.mk hw
 have ks:=ah.mk hsb2
 clear hw hsb2 hsb
 repeat' (first|simp(maxSteps:=999999)(disch:=first|exact dZ|fail)only[gW,reduceIte,abn,gBQ,lH, *]|refine dX ?_ ?_<;>(intro _;try omega))
 refine aD (fun m e H=>∃i:Nat,16<=i/\i<=64/\m=64 - i/\e.get 0=.ptr (.box sb) 0/\e.get 4=.ptr (.box h.boxes.length) 0/\e.get 6=.v (.int .i64 i)/\e.defers=[]/\H.boxes[h.boxes.length]?=some (ek (wl b i))/\H.boxes[sb]?=some (ek s)/\Mut sb h.tn h H) ?_ 48 _ _ ?_
 rotate_left 1
 ·refine⟨16,by decide,by decide,rfl,?_,?_,?_,?_,kw.out,ks.out,kM.out⟩<;>(first|assumption|(exact gR))
 clear kw ks kM g0 g1 g4 g14 hd hHl hi
 rintro m e H ⟨i,hi16,hi,rfl,g0,g4,g6,hd,hw,hsb2,hM⟩
 have kM:=ah.mk hM
 have hHl:=hM.len
 clear hM
 by_cases hc:i=64
 rotate_left 1
 ·refine gI fun Q=>?_
  have l0:=Dr hw (n:=i - 16) (by rw[sI hi];omega)
  have l1:=Dr hw (n:=i - 15) (by rw[sI hi];omega)
  have l2:=Dr hw (n:=i - 7) (by rw[sI hi];omega)
  have l3:=Dr hw (n:=i - 2) (by rw[sI hi];omega)
  rw[QC (by omega)] at l0 l1 l2 l3
  have i0:=vk (b:=h.boxes.length) (n:=i - 16) (k:=.i64) (by omega)
  have i1:=vk (b:=h.boxes.length) (n:=i - 15) (k:=.i64) (by omega)
  have i2:=vk (b:=h.boxes.length) (n:=i - 7) (k:=.i64) (by omega)
  have i3:=vk (b:=h.boxes.length) (n:=i - 2) (k:=.i64) (by omega)
  have i4:=vk (b:=h.boxes.length) (n:=i) (k:=.i64) (by omega)
  have e0:IntKind.i64.wrap (((i:Nat):Int) - 16)=((i - 16:Nat):Int):=by rw[bT (by omega) (by omega)];omega
  have e1:IntKind.i64.wrap (((i:Nat):Int) - 15)=((i - 15:Nat):Int):=by rw[bT (by omega) (by omega)];omega
  have e2:IntKind.i64.wrap (((i:Nat):Int) - 7)=((i - 7:Nat):Int):=by rw[bT (by omega) (by omega)];omega
  have e3:IntKind.i64.wrap (((i:Nat):Int) - 2)=((i - 2:Nat):Int):=by rw[bT (by omega) (by omega)];omega
  have st:=fun z=>ON (x:=z) hw (n:=i) (by rw[sI hi];omega)
  have hst2:=Jk (b:=b) (i:=i) (x:=En (eP b i) i) (by omega) (by rw[if_neg (by omega)])
  unfold En at hst2
  have kst:=ah.mk hst2
  have r7:=fun H=>SM (wAt (eP b i) (i - 15)) H
  have r18:=fun H=>Qw (wAt (eP b i) (i - 15)) H
  have r17:=fun H=>Qv (wAt (eP b i) (i - 2)) H
  have r19:=fun H=>Qx (wAt (eP b i) (i - 2)) H
  have kw:=ah.mk hw
  have ks:=ah.mk hsb2
  clear hst2 hw hsb2
  repeat' (first|simp(maxSteps:=999999)(disch:=first|exact dZ|fail)only[gW,reduceIte,abn,gBQ,lH,jP,jQ,jX,iM, *]|refine dX ?_ ?_<;>(intro _;try omega))
  refine aP kZq ?_
  refine gx5 @lH @jP @jQ @jX @iM ?_
  refine mj [6,8,20,22] [] kZq ?_ (fun p hp=>nomatch hp) ?_
  ·intro k hk
   simp only[acd,adj,or_false] at hk
   rcases hk with rfl|rfl|rfl|rfl
   ·refine o9 (x:=w32 (NT.ror (wAt (eP b i) (i - 15)) 7)) rfl rfl ?_ ?_
    ·simp only[abO,abY]
     refine gx0 ?_
     exact⟨by trivial,fun _=>by trivial⟩
    ·exact gz4 @jP @jQ @jX @iM
   ·refine o9 (x:=w32 (NT.ror (wAt (eP b i) (i - 15)) 18)) rfl rfl ?_ ?_
    ·simp only[abO,abY]
     refine gx0 ?_
     exact⟨by trivial,fun _=>by trivial⟩
    ·exact gz4 @jP @jQ @jX @iM
   ·refine o9 (x:=w32 (NT.ror (wAt (eP b i) (i - 2)) 17)) rfl rfl ?_ ?_
    ·simp only[abO,abY]
     refine gx4 @jP @jQ @jX @iM ?_
     exact⟨by trivial,fun _=>by trivial⟩
    ·exact gz4 @jP @jQ @jX @iM
   ·refine o9 (x:=w32 (NT.ror (wAt (eP b i) (i - 2)) 19)) rfl rfl ?_ ?_
    ·simp only[abO,abY]
     refine gx4 @jP @jQ @jX @iM ?_
     exact⟨by trivial,fun _=>by trivial⟩
    ·exact gz4 @jP @jQ @jX @iM
  refine gx5 @lH @jP @jQ @jX @iM ?_
  refine⟨64 - (i+1),by omega,i+1,by omega,by omega,rfl,trivial,trivial,rfl,trivial,?_,?_,kM.out.bZ (abq _) _⟩
  ·rw[kst.out]
   exact aS (abm.1 kw.out).1
  ·rw[av (by omega)];exact ks.out
 subst hc
 rw[OO] at hw
 have a230:=Ev;have s230:=xv
 have lds:ai Tryz.prog Gt H 230 (.ptr (.box sb) 0)=some (.agg (ek s)):=by
  have h8:(ek s).length=8:=by rw[abu];exact hs
  rw[cP Ev xv hsb2 (by rw[h8];exact abq _),abZ,abD (by rw[h8];exact abq _)]
 have cs8:(AV.agg (ek s)).aC=some (ek s):=zh hs
 have zz:(ej Tryz.prog 230).bind AV.aC=some (ek (abt 8 0#32)):=by rw[xw];exact Nu
 have spz:∀H:ae,aA Tryz.prog (H.push (ek (abt 8 0#32))) 230 (.ptr (.box H.boxes.length) 0) (.agg (ek s))=some (H.push (ek s)):=fun H=>cQ (zh hs) xv (by rw[abu];exact hs) (by rw[abu];rfl)
 have hwl:=(abm.1 hw).1
 have kw:=ah.mk hw
 have ks:=ah.mk hsb2
 clear hw hsb2
 have hM:=kM.out
 repeat' (first|simp(maxSteps:=999999)(disch:=first|exact dZ|fail)only[gW,reduceIte,abn,gBQ,lH, *]|refine dX ?_ ?_<;>(intro _;try omega))
 refine aD (fun m e H2=>∃i:Nat,i<=64/\m=64 - i/\e.get 0=.ptr (.box sb) 0/\e.get 4=.ptr (.box h.boxes.length) 0/\e.get 9=.ptr (.box H.boxes.length) 0/\e.get 69=.v (.int .i64 i)/\e.defers=[]/\H2.boxes[h.boxes.length]?=some (ek (eP b 64))/\H2.boxes[sb]?=some (ek s)/\H2.boxes[H.boxes.length]?=some (ek (vF s b i))/\Mut sb h.tn h H2) ?_ 64 _ _ ?_
 rotate_left 1
 ·refine⟨0,by decide,rfl,?_,?_,?_,?_,?_,aj kw.out,aj ks.out,ak _ _,kM.out.push _⟩<;>(first|assumption|(exact gR))
 clear kw ks kM g0 g4 g6 hd lds cs8 zz spz hi hi16 hM
 have hHL:h.boxes.length<H.boxes.length:=hwl
 generalize hvb:H.boxes.length=vb at *
 clear hvb hwl hHl
 rintro m e H ⟨i,hi,rfl,g0,g4,g9,g69,hd,hw,hsb2,hv,hM⟩
 have kM:=ah.mk hM
 have hHl:=hM.len
 clear hM
 by_cases hc:i=64
 rotate_left 1
 ·refine gI fun Q=>?_
  have hlt:i<64:=by omega
  have lw:=Dr hw (n:=i) (by rw[mQ];exact hlt)
  have lk:=fun H=>QB (H:=H) hlt
  have iw:=vk (b:=h.boxes.length) (n:=i) (k:=.i64) hlt
  have ik:=OM (g:=1) (n:=i) (k:=.i64) hlt
  have kR:=ah.mk (Ew s b i)
  obtain⟨v0,v1,v2,v3,v4,v5,v6,v7,hvv⟩:=eight (Dt b hs i)
  have kE:=ah.mk (Gg (eP b 64) _ i _ _ _ _ _ _ _ _ hvv)
  rw[hvv] at hv
  have r1:=fun H=>Jh v4 H
  have r2:=fun H=>Ji v0 H
  have hv':H.boxes[vb]?=some [w32 v0,w32 v1,w32 v2,w32 v3,w32 v4,w32 v5,w32 v6,w32 v7]:=hv
  have kw:=ah.mk hw
  have ks:=ah.mk hsb2
  clear hw hsb2 hv hvv
  have j0:ay Tryz.prog 230 (.ptr (.box vb) 0) (.v (.int .i64 0))=some (.ptr (.box vb) 0):=rG (n:=0) (by decide)
  have j1:ay Tryz.prog 230 (.ptr (.box vb) 0) (.v (.int .i64 1))=some (.ptr (.box vb) 1):=rG (n:=1) (by decide)
  have j2:ay Tryz.prog 230 (.ptr (.box vb) 0) (.v (.int .i64 2))=some (.ptr (.box vb) 2):=rG (n:=2) (by decide)
  have j4:ay Tryz.prog 230 (.ptr (.box vb) 0) (.v (.int .i64 4))=some (.ptr (.box vb) 4):=rG (n:=4) (by decide)
  have j5:ay Tryz.prog 230 (.ptr (.box vb) 0) (.v (.int .i64 5))=some (.ptr (.box vb) 5):=rG (n:=5) (by decide)
  have j6:ay Tryz.prog 230 (.ptr (.box vb) 0) (.v (.int .i64 6))=some (.ptr (.box vb) 6):=rG (n:=6) (by decide)
  have j7:ay Tryz.prog 230 (.ptr (.box vb) 0) (.v (.int .i64 7))=some (.ptr (.box vb) 7):=rG (n:=7) (by decide)
  have hvl:=(abm.1 hv').1
  have a42:=Jj;have s42:=zf
  have cp:=QD hv'
  have sla:=OP (b:=vb);have slb:=OQ (b:=vb)
  repeat' (first|simp(maxSteps:=999999)(disch:=first|exact dZ|fail)only[gW,reduceIte,abn,gBQ,lH,jP,jQ,AO,pM,acZ,abZ,adU, *]|refine dX ?_ ?_<;>(intro _;try omega))
  refine mj [4] [] kZq ?_ (fun p hp=>nomatch hp) ?_
  ·intro k hk
   simp only[acg] at hk
   subst hk
   refine o9 (x:=w32 (NT.ror v4 6^^^NT.ror v4 11^^^NT.ror v4 25)) rfl rfl ?_ ?_
   ·simp only[abO,abY]
    refine gx3 @acZ.{0} @abZ.{0} @adU.{0} ?_
    exact⟨by trivial,fun _=>by trivial⟩
   ·repeat' (first|simp(maxSteps:=999999)(disch:=first|exact dZ|fail)only[gW,reduceIte,abn,gBQ,jP,jQ,AO,pM,acZ,abZ,adU, *]|refine dX ?_ ?_<;>(intro _;try omega))
  repeat' (first|simp(maxSteps:=999999)(disch:=first|exact dZ|fail)only[gW,reduceIte,abn,gBQ,lH,jP,jQ,AO,pM,acZ,abZ,adU, *]|refine dX ?_ ?_<;>(intro _;try omega))
  refine mj [2] [] kZq ?_ (fun p hp=>nomatch hp) ?_
  ·intro k hk
   simp only[acg] at hk
   subst hk
   refine o9 (x:=w32 (NT.ror v0 2^^^NT.ror v0 13^^^NT.ror v0 22)) rfl rfl ?_ ?_
   ·simp only[abO,abY]
    refine gx3 @acZ.{0} @abZ.{0} @adU.{0} ?_
    exact⟨by trivial,fun _=>by trivial⟩
   ·repeat' (first|simp(maxSteps:=999999)(disch:=first|exact dZ|fail)only[gW,reduceIte,abn,gBQ,jP,jQ,AO,pM,acZ,abZ,adU, *]|refine dX ?_ ?_<;>(intro _;try omega))
  repeat' (first|simp(maxSteps:=999999)(disch:=first|exact dZ|fail)only[gW,reduceIte,abn,gBQ,lH,jP,jQ,AO,pM,acZ,abZ,adU, *]|refine dX ?_ ?_<;>(intro _;try omega))
  refine aP kZq ?_
  clear hv'
  repeat' (first|simp(maxSteps:=999999)(disch:=first|exact dZ|fail)only[gW,reduceIte,abn,gBQ,lH,ldp,stp,uj,jQ,acZ,abZ,adU,aeU,List.set_cons_succ, *]|refine dX ?_ ?_<;>(intro _;try omega))
  refine⟨64 - (i+1),by omega,i+1,by omega,rfl,trivial,trivial,trivial,rfl,trivial,?_,?_,?_,kM.out.bZ (by omega) _⟩
  ·rw[av (by omega)];exact kw.out
  ·rw[av (by omega)];exact ks.out
  ·rw[aS hvl,kR.out,kE.out];rfl
 subst hc
 have hblk:qy s b=aeA (·+·) s (vF s b 64):=rfl
 rw[hblk]
 have h8:=Dt b hs 64
 generalize vF s b 64=v at *
 have hvl:=(abm.1 hv).1
 have ks:=ah.mk hsb2
 have kv:=ah.mk hv
 clear hw hsb2 hv hblk
 refine gx1 @lH ?_
 refine aD (fun m e H2=>∃i:Nat,i<=8/\m=8 - i/\e.get 0=.ptr (.box sb) 0/\e.get 9=.ptr (.box vb) 0/\e.get 129=.v (.int .i64 i)/\e.defers=[]/\H2.boxes[sb]?=some (ek (rH s v i))/\H2.boxes[vb]?=some (ek v)/\Mut sb h.tn h H2) ?_ 8 _ _ ?_
 rotate_left 1
 ·refine⟨0,by decide,rfl,?_,?_,?_,?_,ks.out,kv.out,kM.out⟩<;>(first|assumption|(exact gR))
 clear ks kv kM g0 g4 g9 g69 hd hHl hi
 rintro m e H ⟨i,hi,rfl,g0,g9,g129,hd,hsb2,hv,hM⟩
 have kM:=ah.mk hM
 clear hM
 by_cases hc:i=8
 rotate_left 1
 ·refine gI fun Q=>?_
  have hlt:i<8:=by omega
  have hz:=Gh hs h8 hi
  have l1:=Dr hsb2 (n:=i) (by omega)
  have l2:=Dr hv (n:=i) (by omega)
  rw[Jl hs h8 hlt] at l1
  have j1:=rG (b:=sb) (n:=i) (k:=.i64) hlt
  have j2:=rG (b:=vb) (n:=i) (k:=.i64) hlt
  have st:=ON (x:=wAt s i+wAt v i) hsb2 (n:=i) (by omega)
  rw[Gi hs h8 hlt] at st
  have hsl:=(abm.1 hsb2).1
  have kv:=ah.mk hv
  clear hsb2 hv
  repeat' (first|simp(maxSteps:=999999)(disch:=first|exact dZ|fail)only[gW,reduceIte,abn,gBQ,lH, *]|refine dX ?_ ?_<;>(intro _;try omega))
  refine aP kZq ?_
  refine gx2 @lH @jQ ?_
  refine⟨8 - (i+1),by omega,i+1,by omega,rfl,trivial,trivial,rfl,trivial,aS hsl,?_,kM.out.trans (.put _ _ _ _)⟩
  rw[av (by omega)];exact kv.out
 subst hc
 rw[Gj hs h8] at hsb2
 have ks:=ah.mk hsb2
 clear hsb2 hv
 repeat' (first|simp(maxSteps:=999999)(disch:=first|exact dZ|fail)only[gW,reduceIte,abn,gBQ,lH, *]|refine dX ?_ ?_<;>(intro _;try omega))
 exact⟨_,rfl,ks.out,kM.out⟩
theorem Jm:Tryz.f205.results.toList=[]:=kZq
theorem Jn(n:Int)(h:ae):fm Tryz.prog h 42 216 (.v (.int .u32 n))=some (.v (.int .u64 (IntKind.u64.wrap n)),h):=kZq
theorem jY(n:Int)(h:ae):fm Tryz.prog h 3 216 (.v (.int .i64 n))=some (.v (.int .u64 (IntKind.u64.wrap n)),h):=kZq
theorem zj(n:Int)(h:ae):fm Tryz.prog h 216 5 (.v (.int .u64 n))=some (.v (.int .u8 (IntKind.u8.wrap n)),h):=kZq
def u8v(b:UInt8):AV:=.v (.int .u8 b.toNat)
abbrev u8c(l:List UInt8):List AV:=l.map u8v
def beB(n k:Nat):List UInt8:=(aby k).map fun i=>UInt8.ofNat (n/256^(k - 1 - i))
theorem zk(n k:Nat):(beB n k).length=k:=by simp[beB]
def gj(cs:List AV)(off len n i:Nat):List AV:=cs.take (off+len - i)++u8c ((beB n len).drop (len - i))++cs.drop (off+len)
theorem wF{cs:List AV}{off len n:Nat}:gj cs off len n 0=cs:=by
 unfold gj
 rw[afe,afe,acm (by rw[zk];exact abq _)]
 show agn (off+len) cs++[]++_=_
 rw[ab2,acN]
theorem zl{cs:List AV}{off len n i:Nat}(hi:i<=len)(hl:off+len<=cs.length):(gj cs off len n i).length=cs.length:=by
 unfold gj
 simp only[abx,abI,abu,abS,zk]
 omega
theorem zn{cs:List AV}{off len n i:Nat}(hi:i<len)(hl:off+len<=cs.length):(gj cs off len n i).set (off+(len - 1 - i)) (u8v (UInt8.ofNat (n/256^i)))=gj cs off len n (i+1):=by
 unfold gj
 have e1:off+len - i=(off+(len - 1 - i))+1:=by omega
 have e2:off+len - (i+1)=off+(len - 1 - i):=by omega
 have hlt:off+(len - 1 - i)<cs.length:=by omega
 have e3:(beB n len).drop (len - (i+1))=UInt8.ofNat (n/256^i)::(beB n len).drop (len - i):=by
  rw[List.drop_eq_getElem_cons (by rw[zk];omega)]
  congr 1
  ·unfold beB
   rw[List.getElem_map,List.getElem_range]
   congr 3
   omega
  ·congr 1;omega
 rw[e1,e2,e3,afc hlt]
 generalize he:cs[off+(len - 1 - i)]=z
 rw[acI,acI,adr _ _ (by rw[abI];omega),abI,show off+(len - 1 - i) - min (off+(len - 1 - i)) cs.length=0 by omega]
 simp
def qA(cs:List AV)(off len n:Nat):List AV:=cs.take off++u8c (beB n len)++cs.drop (off+len)
theorem zo{cs:List AV}{off len n:Nat}:gj cs off len n len=qA cs off len n:=by
 unfold gj qA
 rw[adx,abZ,Nat.add_sub_cancel]
theorem QE{b off len cap n:Nat}{k:IntKind}(hn:n<len):ay Tryz.prog 28 (.arr b off len cap) (.v (.int k (n:Nat)))=some (.ptr (.box b) (off+n)):=by
 rw[mE Tryz.underlying28 sz5 (by omega) (by omega),abB,acM]
theorem OR{H:ae}{b k:Nat}{cs:List AV}{v:UInt8}(hb:H.boxes[b]?=some cs)(hk:k<cs.length):aA Tryz.prog H 5 (.ptr (.box b) k) (u8v v)=some (H.put b (cs.set k (u8v v))):=by
 rw[aW (xs:=[u8v v]) rfl sz5 hb rfl hk]
 congr 2
 unfold bI
 rw[acy,if_pos (show k<cs.length from hk)]
 simp
theorem OS(m:Nat):AV.v (.int .u8 (IntKind.u8.wrap ((m:Nat):Int)))=u8v (UInt8.ofNat m):=by
 unfold u8v
 rw[show(UInt8.ofNat m).toNat=m%256 from UInt8.toNat_ofNat']
 unfold IntKind.wrap
 simp[IntKind.signed,IntKind.bits]
theorem Du(b off len cap n:Nat)(cs:List AV)(h:ae)(hl:len<=8)(hn:n<18446744073709551616)(hb:h.boxes[b]?=some cs)(hc:off+len<=cs.length):
 W.call 205 [.arr b off len cap,.v (.int .u64 (n:Nat))] h=some (.ret (.tuple []),h.put b (qA cs off len n)):=by
 have u28:=Tryz.underlying28
 have hblt:=(abm.1 hb).1
 have k0:=ah.mk (ec hb)
 clear hb
 refine ar rfl Tryz.func205 rfl ?_
 refine Zg @Jm ?_
 refine aD (fun m e H=>∃i:Nat,i<=len/\m=len - i/\e.get 0=.arr b off len cap/\e.get 1=.v (.int .u64 (n:Nat))/\e.get 6=.v (.int .i64 (len:Nat))/\e.get 7=.v (.int .i64 i)/\e.defers=[]/\H=h.put b (gj cs off len n i)) ?_ len _ _ ?_
 rotate_left 1
 ·refine⟨0,abG _,rfl,?_,?_,?_,?_,?_,by rw[wF];exact k0.out.symm⟩<;>(first|assumption|(exact gR))
 rintro m e H ⟨i,hi,rfl,g0,g1,g6,g7,hd,rfl⟩
 by_cases hc2:i=len
 ·subst hc2
  rw[zo]
  exact YX @Jm
 ·refine gI fun Q=>?_
  have hlt:i<len:=by omega
  have e1:IntKind.i64.wrap (8 * ((i:Nat):Int))=((8 * i:Nat):Int):=by rw[bT (by omega) (by omega)];omega
  have e2:IntKind.i64.wrap (((len:Nat):Int) - 1)=((len - 1:Nat):Int):=by rw[bT (by omega) (by omega)];omega
  have e3:IntKind.i64.wrap (((len - 1:Nat):Int) - ((i:Nat):Int))=((len - 1 - i:Nat):Int):=by rw[bT (by omega) (by omega)];omega
  have sh:∀(t:TypeId) (x y:Operand),bB Tryz.prog .shr t x y (.v (.int .u64 (n:Nat))) (.v (.int .i64 ((8 * i:Nat):Int)))=some (.v (.int .u64 ((n/256^i:Nat):Int))):=fun t x y=>by
   rw[nr (by omega),abB,show IntKind.u64.bits=64 from rfl,adD (by omega)]
   congr 3
   rw[ac3 _ (by
    have:(0:Int)<2^(8 * i):=Int.pow_pos (by decide)
    omega)]
   have e8:(2:Int)^(8 * i)=((256^i:Nat):Int):=by rw[ae5];simp
   rw[e8];rfl
  have uv:=OS (n/256^i)
  have ix:=QE (b:=b) (off:=off) (cap:=cap) (k:=.i64) (show len - 1 - i<len by omega)
  have st:=OR (H:=h.put b (gj cs off len n i)) (v:=UInt8.ofNat (n/256^i)) (k:=off+(len - 1 - i)) (aS hblt) (by rw[zl (by omega) hc];omega)
  rw[zn hlt hc,uj] at st
  repeat' (first|simp(maxSteps:=999999)(disch:=first|exact dZ|fail)only[gW,reduceIte,abn,gBQ,Jm,zj, *]|(refine dX ?_ ?_<;>(intro _;try omega))|refine aP kZq ?_)
  refine⟨len - (i+1),by omega,i+1,by omega,rfl,trivial,trivial,trivial,rfl,trivial,rfl⟩
theorem jZ:∀(i:Nat) (s:List U32) (b:List UInt8),de (i+1) s b=qy (de i s b) ((b.drop (64 * i)).take 64)
 |0,s,b=>rfl
 |i+1,s,b=>by
  rw[de,jZ i,de,adb]
  congr 3
  omega
theorem tz:∀(i j:Nat) (s:List U32) (b:List UInt8),de (i+j) s b=de j (de i s b) (b.drop (64 * i))
 |0,j,s,b=>by rw[acB];rfl
 |i+1,j,s,b=>by
  rw[show i+1+j=(i+j)+1 by omega,de,tz i j,de,adb]
  congr 2
  omega
theorem oN:∀(i:Nat) (s:List U32) (a b:List UInt8),64 * i<=a.length->de i s (a++b)=de i s a
 |0,_,_,_,_=>rfl
 |i+1,s,a,b,h=>by
  rw[de,de,List.take_append_of_le_length (by omega),aex (by omega)]
  exact oN i _ _ b (by rw[abS];omega)
theorem Dv{s:List U32}{b:List UInt8}(hs:s.length=8):(qy s b).length=8:=by
 have:=Dt b hs 64
 unfold vF at this
 unfold qy
 simp[hs,this]
theorem fC:∀(i:Nat) (s:List U32) (b:List UInt8),s.length=8->(de i s b).length=8
 |0,_,_,h=>h
 |i+1,s,b,h=>fC i _ _ (Dv h)
def nD(r:Nat):Nat:=if r>55 then 128 else 64
def mn(rest:List UInt8)(n:Nat):List UInt8:=rest++0x80::abt (nD rest.length - 9 - rest.length) 0++Ga n
theorem A8{rest:List UInt8}{n:Nat}(hr:rest.length<64):(mn rest n).length=nD rest.length:=by
 unfold mn nD
 simp only[abx,List.length_cons,ack]
 have:(Ga n).length=8:=by simp[Ga]
 rw[this]
 split<;>omega
theorem Mt(b:List UInt8):Ml b=b.take (64 * (b.length/64))++mn (b.drop (64 * (b.length/64))) b.length:=by
 unfold Ml mn
 have e:Di b.length=nD (b.drop (64 * (b.length/64))).length - 9 - (b.drop (64 * (b.length/64))).length:=by
  unfold Di nD
  rw[abS]
  split<;>omega
 rw[e,<-acI,<-acI,acN]
theorem OT(b:List UInt8):jA b=nZ (de (nD (b.drop (64 * (b.length/64))).length/64) (de (b.length/64) NT.start b) (mn (b.drop (64 * (b.length/64))) b.length)):=by
 unfold jA
 have hr:(b.drop (64 * (b.length/64))).length<64:=by rw[abS];omega
 have hlen:(b.take (64 * (b.length/64))).length=64 * (b.length/64):=by rw[abI];omega
 rw[Mt,abx,A8 hr,hlen,show(64 * (b.length/64)+nD (b.drop (64 * (b.length/64))).length)/64=b.length/64+nD (b.drop (64 * (b.length/64))).length/64 by
  rw[Nat.mul_add_div (by decide)]]
 have h2:de (b.length/64) NT.start (b.take (64 * (b.length/64)))=de (b.length/64) NT.start b:=by
  have:=oN (b.length/64) NT.start (b.take (64 * (b.length/64))) (b.drop (64 * (b.length/64))) (by rw[hlen];exact abq _)
  rw[acN] at this
  exact this.symm
 have h1:(b.take (64 * (b.length/64))).drop (64 * (b.length/64))=[]:=acm (by rw[hlen];exact abq _)
 rw[tz,aex (by rw[hlen];exact abq _),h1,ab9]
 rw[oN _ _ _ _ (by rw[hlen];exact abq _),h2]
theorem Mu(n:Nat):beB (n * 8) 8=Ga n:=by
 unfold beB Ga
 apply List.map_congr_left
 intro i hi
 rw[List.mem_range] at hi
 congr 2
 rw[show(256:Nat)=2^8 from rfl,<-aeK]
theorem SN(x:U32):beB x.toNat 4=[UInt8.ofNat (x.toNat/16777216),UInt8.ofNat (x.toNat/65536),UInt8.ofNat (x.toNat/256),UInt8.ofNat x.toNat]:=by
 show[UInt8.ofNat (x.toNat/256^3),UInt8.ofNat (x.toNat/256^2),UInt8.ofNat (x.toNat/256^1),UInt8.ofNat (x.toNat/256^0)]=_
 simp
theorem Gk{s:List U32}{i:Nat}{x:U32}(hi:s[i]?=some x):nZ (s.take (i+1))=nZ (s.take i)++beB x.toNat 4:=by
 rw[a9 hi,SN]
 unfold nZ
 rw[List.flatMap_append]
 simp
theorem mR(s:List U32):(nZ s).length=4 * s.length:=by
 unfold nZ
 induction s with
 |nil=>rfl
 |cons a s ih=>rw[List.flatMap_cons,abx,ih];simp;omega
theorem eC(l:List UInt8):(u8c l).length=l.length:=abu _
theorem Gl{rest:List UInt8}{n:Nat}(hr:rest.length<64):
 qA ((u8c rest++(abt 128 (u8v 0)).drop rest.length).set rest.length (u8v 0x80)) (nD rest.length - 8) 8 (n * 8)=u8c (mn rest n)++abt (128 - nD rest.length) (u8v 0):=by
 have hL:nD rest.length=64∨nD rest.length=128:=by unfold nD;split<;>omega
 have hL2:rest.length+9<=nD rest.length:=by unfold nD;split<;>omega
 rw[aek]
 obtain⟨k,hk⟩:∃k,128 - rest.length=k+1:=⟨127 - rest.length,by omega⟩
 rw[hk,adl,adr _ _ (by rw[eC];exact abq _),eC,adx,aeU]
 unfold qA mn
 rw[Mu]
 generalize nD rest.length=L at *
 have e1:agn (L - 8) (u8c rest++u8v 0x80::abt k (u8v 0))=u8c (rest++0x80::abt (L - 9 - rest.length) 0):=by
  rw[List.take_append,eC,abD (by rw[eC];omega)]
  obtain⟨j,hj⟩:∃j,L - 8 - rest.length=j+1:=⟨L - 9 - rest.length,by omega⟩
  rw[hj,abO,List.take_replicate,adD (by omega)]
  unfold u8c
  rw[acv,abK,aev,show L - 9 - rest.length=j by omega]
 have e2:List.drop (L - 8+8) (u8c rest++u8v 0x80::abt k (u8v 0))=abt (128 - L) (u8v 0):=by
  rw[adt,eC,acm (by rw[eC];omega),ab9]
  obtain⟨j,hj⟩:∃j,L - 8+8 - rest.length=j+1:=⟨L - 1 - rest.length,by omega⟩
  rw[hj,acZ,aek]
  congr 1;omega
 rw[e1,e2]
 unfold u8c
 rw[<-acv]
theorem nS:Tryz.f181.results.toList=[.cell 2 177]:=kZq
theorem Jo:cZ Tryz.prog 177=some true:=kZq
theorem tA:bF Tryz.prog 177=some 32:=kZq
theorem Jp:(ej Tryz.prog 177).bind AV.aC=some (abt 32 (u8v 0)):=kZq
theorem QF(H:ae):ai Tryz.prog Gt H 229 (.ptr (.dW 0) 0)=some (.agg (ek NT.start)):=kZq
theorem rI(l:List UInt8):(AV.agg (u8c l)).aC=some (u8c l):=by
 have:(u8c l).all AV.bu=true:=by
  rw[abE]
  intro x hx
  obtain⟨b,-,rfl⟩:=List.mem_map.1 hx
  rfl
 unfold AV.aC
 simp[this]
theorem Nv(H:ae):eU Tryz.prog H 28 (.v (.int .i64 64)) (.v (.int .i64 128))=some (.arr H.boxes.length 0 64 128,H.push (abt 128 (u8v 0))):=kZq
theorem rJ(l:List UInt8):(u8s l).flatten=u8c l:=by
 rw[nk];rfl
theorem OU{H:ae}{eb len cap:Nat}{x:AV}{rest:List UInt8}{cs:List AV}(s:b9 1 H x (u8s rest))(hb:H.boxes[eb]?=some cs)(h1:len<=cs.length)(h2:len<=cap)(h3:rest.length<=len):
 oi Tryz.prog H #[28,28] (.arr eb 0 len cap) x=some (.v (.int .i64 (rest.length:Nat)),H.put eb (u8c rest++cs.drop rest.length)):=by
 have hi:∃i,Tryz.prog.info? 5=some i/\i.size=1:=by
  have h42:=sz5
  unfold bF at h42
  cases hq:Tryz.prog.info? 5 with
  |none=>rw[hq] at h42;cases h42
  |some i=>rw[hq] at h42;exact⟨i,rfl,by simpa using h42⟩
 obtain⟨i,q1,q2⟩:=hi
 have hu:((#[28,28]:Array Nat)[0]?).bind Tryz.prog.underlying=some (.slice 5):=kZq
 unfold oi
 rw[hu]
 simp only[q1,q2,s.news,hb]
 rw[if_pos ⟨by omega,h2⟩]
 have hm:Nat.min (u8s rest).length len=rest.length:=by rw[abu];exact adD h3
 rw[hm,abD (by rw[abu];exact abq _),rJ]
 have e:bI cs 0 (u8c rest)=u8c rest++cs.drop rest.length:=by
  unfold bI
  rw[abY,ab9,acB,eC]
 rw[e]
 rfl
theorem zq{R:ae->Prop}{H0:ae}{x:AV}{l:List UInt8}(hx:∀H,R H->b9 1 H x (u8s l))(h0:R H0)(hl:64<=l.length):
 ∃y z,ck Tryz.prog 28 x none (some (.v (.int .i64 64))) none=some y/\ck Tryz.prog 28 x (some (.v (.int .i64 64))) none none=some z/\
  (∀H,R H->b9 1 H y (u8s (l.take 64)))/\∀H,R H->b9 1 H z (u8s (l.drop 64)):=by
 have A:∀H,R H->∃y,ck Tryz.prog 28 x none (some (.v (.int .i64 64))) none=some y/\b9 1 H y (u8s (l.take 64)):=fun H hH=>by
  obtain⟨y,y1,y2⟩:=(hx H hH).slice (t:=28) (lo:=none) (hi:=some (.v (.int .i64 64))) (l:=0) (m:=64) (by decide) Tryz.underlying28 sz5 (.inr ⟨.i64,rfl,by rw[abu];exact hl⟩) (.inl ⟨rfl,rfl⟩) (by decide)
  rw[abZ,<-List.map_take] at y2
  exact⟨y,y1,y2⟩
 have B:∀H,R H->∃y,ck Tryz.prog 28 x (some (.v (.int .i64 64))) none none=some y/\b9 1 H y (u8s (l.drop 64)):=fun H hH=>by
  obtain⟨y,y1,y2⟩:=(hx H hH).slice (t:=28) (lo:=some (.v (.int .i64 64))) (hi:=none) (l:=64) (m:=l.length) (by decide) Tryz.underlying28 sz5 (.inl ⟨rfl,by rw[abu]⟩) (.inr ⟨.i64,rfl⟩) hl
  rw[abD (by rw[abu];exact abq _),<-agc] at y2
  exact⟨y,y1,y2⟩
 obtain⟨y,y1,-⟩:=A H0 h0
 obtain⟨z,z1,-⟩:=B H0 h0
 refine⟨y,z,y1,z1,fun H hH=>?_,fun H hH=>?_⟩
 ·obtain⟨y',q1,q2⟩:=A H hH
  rw[y1] at q1;cases q1;exact q2
 ·obtain⟨y',q1,q2⟩:=B H hH
  rw[z1] at q1;cases q1;exact q2
theorem Jq{l:List U32}{i:Nat}{k:IntKind}(hl:l.length=8)(hi:i<8):nf Tryz.prog 230 (.agg (ek l)) (.v (.int k (i:Nat)))=some (w32 (wAt l i)):=by
 have hu:=Tryz.underlying230
 unfold nf
 rw[hu]
 simp only[zf]
 rw[if_pos ⟨by omega,by omega⟩]
 unfold uq
 rw[Jj]
 simp only[zf]
 rw[abB,acM]
 have hl2:i<l.length:=by omega
 show(ek l)[i]?=_
 rw[abF,wAt,abw,abo hl2]
 rfl
theorem Nw{b i:Nat}(hi:i<8):ck Tryz.prog 177 (.ptr (.box b) 0) (some (.v (.int .i64 ((4 * i:Nat):Int)))) (some (.v (.int .i64 ((4 * i+4:Nat):Int)))) none=some (.arr b (4 * i) 4 (32 - 4 * i)):=by
 have hu:=Tryz.underlying177
 unfold ck
 rw[hu]
 have h1:bX 32 none 32=some 32:=rfl
 have h2:bX 32 (some (.v (.int .i64 ((4 * i+4:Nat):Int)))) 32=some (4 * i+4):=by
  show(if _ then _ else _)=_
  rw[if_pos ⟨by omega,by omega⟩,abB]
 have h3:bX (4 * i+4) (some (.v (.int .i64 ((4 * i:Nat):Int)))) 0=some (4 * i):=by
  show(if _ then _ else _)=_
  rw[if_pos ⟨by omega,by omega⟩,abB]
 simp only[sz5,h1,h2,h3]
 rw[if_neg (by simp),if_neg (by omega),acB,acM,show 4 * i+4 - 4 * i=4 by omega]
theorem Jr{v:U32}{H:ae}:fm Tryz.prog H 42 216 (w32 v)=some (.v (.int .u64 (v.toNat:Nat)),H):=by
 unfold w32
 rw[Jn]
 congr 4
 unfold IntKind.wrap
 simp[IntKind.signed,IntKind.bits]
 have:=v.isLt
 omega
theorem tB(cs:List AV):bI cs 0 cs=cs:=by unfold bI;simp
theorem A9{s:List U32}(hs:s.length=8){i:Nat}(hi:i<8):qA (u8c (nZ (s.take i))++abt (32 - 4 * i) (u8v 0)) (4 * i) 4 (wAt s i).toNat=u8c (nZ (s.take (i+1)))++abt (32 - 4 * (i+1)) (u8v 0):=by
 have hl:(u8c (nZ (s.take i))).length=4 * i:=by rw[eC,mR,abI];omega
 have hx:s[i]?=some (wAt s i):=by
  unfold wAt
  rw[abw,abo (by omega)];rfl
 unfold qA
 rw[Gk hx,aew hl,adt,hl,acm (by omega),ab9,aek,show 32 - 4 * i - (4 * i+4 - 4 * i)=32 - 4 * (i+1) by omega]
 unfold u8c
 rw[acv]
theorem Dw(b:List UInt8)(i:Nat):qy (de i NT.start b) ((b.drop (64 * i)).take 64)=de (i+1) NT.start b:=(jZ i _ b).symm
theorem xx(b:List UInt8)(x:AV)(h:ae)(s:b9 1 h x (u8s b))(hb:b.length<=1152921504606846975):
 ∃h',W.call 181 [x] h=some (.ret (.agg (u8c (jA b))),h')/\Ext h h':=by
 have u28:=Tryz.underlying28
 have z177:=Jp
 have zz:(ej Tryz.prog 230).bind AV.aC=some (ek (abt 8 0#32)):=by rw[xw];exact Nu
 have cs8:(AV.agg (ek NT.start)).aC=some (ek NT.start):=zh rfl
 have spz:∀H:ae,aA Tryz.prog (H.push (ek (abt 8 0#32))) 230 (.ptr (.box H.boxes.length) 0) (.agg (ek NT.start))=some (H.push (ek NT.start)):=fun H=>cQ (zh rfl) xv rfl rfl
 have spz2:∀H:ae,∀y,aA Tryz.prog ((H.push y).push (ek (abt 8 0#32))) 230 (.ptr (.box (H.boxes.length+1)) 0) (.agg (ek NT.start))=some ((H.push y).push (ek NT.start)):=fun H y=>by rw[<-az H y];exact spz _
 have lx:=s.len Tryz.underlying28
 rw[abu] at lx
 have kS:=ah.mk s
 have kSs:=ah.mk (OT b)
 clear s
 refine dL rfl Tryz.func181 rfl ?_
 refine gx3 @nS @az @QF ?_
 generalize hH0:(h.push (abt 32 (u8v 0))).push (ek NT.start)=H0
 generalize hsb:h.boxes.length+1=sb
 have kx:ah (∀H',Mut sb h.tn H0 H'->b9 1 H' x (u8s b)):=⟨fun H' m=>kS.out.mono fun c cs hc=>by
  have hlt:=(abm.1 hc).1
  refine m.box c cs (by omega) ?_
  rw[<-hH0];exact aj (aj hc)⟩
 have hd0:H0.boxes[h.boxes.length]?=some (abt 32 (u8v 0)):=by rw[<-hH0];exact aj (ak _ _)
 have hs0:H0.boxes[sb]?=some (ek (de 0 NT.start b)):=by rw[<-hH0,<-hsb];exact cD (by rw[az])
 have hE0:Ext h H0:=by rw[<-hH0];exact(Ext.push _ _).trans (.push _ _)
 have hsbl:h.boxes.length<sb:=by omega
 have hH0l:H0.boxes.length=sb+1:=by rw[<-hH0,<-hsb,az,az]
 have kd:=ah.mk hd0
 have kE:=ah.mk hE0
 have ks:=ah.mk hs0
 clear hd0 hE0 hs0 hH0 hsb z177 zz cs8 spz spz2 kS
 refine aD (fun m e H=>∃(i:Nat) (y:AV),64 * i<=b.length/\m=b.length - 64 * i/\e.get 0=x/\e.get 2=.ptr (.box h.boxes.length) 0/\e.get 3=.ptr (.box sb) 0/\e.get 4=.func (.func 204) [.ptr (.box sb) 0] []/\e.get 5=y/\e.defers=[]/\(∀H',Mut sb h.tn H0 H'->b9 1 H' y (u8s (b.drop (64 * i))))/\H.boxes[sb]?=some (ek (de i NT.start b))/\Mut sb h.tn H0 H) ?_ b.length _ _ ?_
 rotate_left 1
 ·refine⟨0,x,abG _,rfl,?_,?_,?_,?_,?_,?_,kx.out,ks.out,Mut.refl _ _ _⟩<;>(first|assumption|(exact gR))
 clear ks
 rintro m e H ⟨i,y,hi,rfl,g0,g2,g3,g4,g5,hd,hy,hsb,hM⟩
 have ly:=(hy H hM).len Tryz.underlying28
 rw[abu,abS] at ly
 by_cases hc:64<=b.length - 64 * i
 ·refine gI fun Q=>?_
  obtain⟨y1,y2,q1,q2,q3,q4⟩:=zq hy hM (by rw[abS];exact hc)
  obtain⟨H2,c1,c2,c3⟩:=sJ _ _ sb y1 H (fC i NT.start b rfl) (by rw[abI,abS];omega) hsb (fun H' m=>q3 H' (hM.trans (m.tS (abT kE.out.tn hM.tn))))
  rw[Dw] at c2
  have kM:=ah.mk (hM.trans (c3.tS (abT kE.out.tn hM.tn)))
  have kq:=ah.mk q4
  have k2:=ah.mk c2
  clear hM c2 c3 q3 q4 hy hsb
  repeat' (first|simp(maxSteps:=999999)(disch:=first|exact dZ|fail)only[gW,reduceIte,abn,gBQ,nS,ab3,ab9, *]|refine dX ?_ ?_<;>(intro _;try omega))
  refine⟨b.length - 64 * (i+1),by omega,i+1,y2,by omega,rfl,trivial,trivial,trivial,trivial,rfl,trivial,?_,k2.out,kM.out⟩
  rw[show 64 * (i+1)=64 * i+64 by omega,<-adb]
  exact kq.out
 have hi2:b.length/64=i:=by omega
 have kSh:=ah.mk kSs.out
 rw[hi2] at kSh
 have hrl:(b.drop (64 * i)).length<64:=by rw[abS];omega
 have hrl2:b.length - 64 * i=(b.drop (64 * i)).length:=by rw[abS]
 rw[hrl2] at ly hc
 have h8:=fC i NT.start b rfl
 generalize de i NT.start b=s1 at *
 generalize b.drop (64 * i)=r at *
 clear hrl2 kSs
 have kM:=ah.mk hM
 have hHl:=hM.len
 have hy2:=hy (H.push (abt 128 (u8v 0))) (hM.push _)
 have cp:=OU (len:=64) (cap:=128) hy2 (ak _ _) (by rw[ack];decide) (by decide) (by omega)
 rw[gg] at cp
 have e1:IntKind.u64.wrap ((b.length:Nat):Int)=((b.length:Nat):Int):=by
  unfold IntKind.wrap
  simp[IntKind.signed,IntKind.bits]
  omega
 have e2:IntKind.u64.wrap (((b.length:Nat):Int) * 8)=((b.length * 8:Nat):Int):=by
  unfold IntKind.wrap
  simp[IntKind.signed,IntKind.bits]
  omega
 have ix:=QE (b:=H.boxes.length) (off:=0) (cap:=128) (k:=.i64) hrl
 rw[acB] at ix
 have hC1:(u8c r++(abt 128 (u8v 0)).drop r.length).length=128:=by
  rw[abx,eC,abS,ack];omega
 have st:aA Tryz.prog (H.push (u8c r++(abt 128 (u8v 0)).drop r.length)) 5 (.ptr (.box H.boxes.length) r.length) (.v (.int .u8 128))=some (H.push ((u8c r++(abt 128 (u8v 0)).drop r.length).set r.length (u8v 0x80))):=by
  have:=OR (H:=H.push (u8c r++(abt 128 (u8v 0)).drop r.length)) (v:=0x80) (ak _ _) (k:=r.length) (by rw[hC1];omega)
  rw[gg] at this
  exact this
 have hE:=Gl (n:=b.length) hrl
 have hC2:((u8c r++(abt 128 (u8v 0)).drop r.length).set r.length (u8v 0x80)).length=128:=by rw[aca,hC1]
 generalize u8c r++(abt 128 (u8v 0)).drop r.length=C1 at *
 generalize C1.set r.length (u8v 0x80)=C2 at *
 have kEl:=ah.mk (A8 (n:=b.length) hrl)
 have pe:=fun(off cap:Nat) (ho:off+8<=128)=>Du H.boxes.length off 8 cap (b.length * 8) C2 (H.push C2) (by decide) (by omega) (ak _ _) (by rw[hC2];exact ho)
 simp only[gg] at pe
 have ks:=ah.mk hsb
 clear hy2 hy hM hsb hC1 hC2 hi hi2
 have hL:(r.length<=55/\nD r.length=64)∨(55<r.length/\nD r.length=128):=by unfold nD;split<;>omega
 rcases hL with⟨hr,hL⟩|⟨hr,hL⟩
 ·rw[hL] at hE kEl kSh
  have p1:=pe 56 72 (by decide)
  rw[hE] at p1
  have sl:ck Tryz.prog 28 (.arr H.boxes.length 0 64 128) (some (.v (.int .i64 (((64:Nat):Int) - 8)))) none none=some (.arr H.boxes.length 56 8 72):=kZq
  clear pe hE hL
  repeat' (first|simp(maxSteps:=999999)(disch:=first|exact dZ|fail)only[gW,reduceIte,abn,gBQ,nS,Nv,jY, *]|refine dX ?_ ?_<;>(intro _;try omega))
  have hlen:=kEl.out
  generalize hH1:H.push (u8c (mn r b.length)++abt (128 - 64) (u8v 0))=H1
  generalize hz:H.boxes.length=eb
  have hbe:H1.boxes[eb]?=some (u8c (mn r b.length)++abt (128 - 64) (u8v 0)):=by rw[<-hH1,<-hz];exact ak _ _
  have hM1:Mut sb h.tn H0 H1:=by rw[<-hH1];exact kM.out.push _
  have hs1:H1.boxes[sb]?=some (ek s1):=by rw[<-hH1];exact aj ks.out
  have hne:eb≠sb:=by omega
  have hR:∀H',Mut sb h.tn H1 H'->b9 1 H' (.arr eb 0 64 128) (u8s ((mn r b.length).drop (64 * 0))):=fun H' m=>by
   rw[agU,abZ]
   refine⟨ga _,.inr ⟨eb,0,128,_,by rw[abu,hlen],by rw[abu,hlen];decide,m.box _ _ hne hbe,?_,?_⟩⟩
   ·rw[rJ,abu,acM,abZ,aew (eC _)]
   ·rw[abu,abx,eC,hlen,ack];decide
  have kR:=ah.mk hR
  have kB:=ah.mk hbe
  have kM1:=ah.mk hM1
  have kS1:=ah.mk hs1
  clear hbe hM1 hs1 hR hH1 hz kM ks cp st p1 sl ix
  refine aD (fun m e H=>∃(i:Nat) (y:AV),64 * i<=64/\m=64 - 64 * i/\e.get 2=.ptr (.box h.boxes.length) 0/\e.get 3=.ptr (.box sb) 0/\e.get 4=.func (.func 204) [.ptr (.box sb) 0] []/\e.get 6=y/\e.defers=[]/\(∀H',Mut sb h.tn H1 H'->b9 1 H' y (u8s ((mn r b.length).drop (64 * i))))/\H.boxes[sb]?=some (ek (de i s1 (mn r b.length)))/\Mut sb h.tn H1 H) ?_ 64 _ _ ?_
  rotate_left 1
  ·refine⟨0,.arr eb 0 64 128,abG _,rfl,?_,?_,?_,?_,?_,kR.out,kS1.out,Mut.refl _ _ _⟩<;>(first|assumption|(exact gR))
  clear kR kS1 g0 g2 g3 g4 g5 hd ly hc
  rintro m e H ⟨i,y,hi,rfl,g2,g3,g4,g6,hd,hy,hsb,hM⟩
  have ly:=(hy H hM).len Tryz.underlying28
  rw[abu,abS,hlen] at ly
  by_cases hc:0<64 - 64 * i
  ·refine gI fun Q=>?_
   obtain⟨y1,y2,q1,q2,q3,q4⟩:=zq hy hM (by rw[abS,hlen];omega)
   obtain⟨H2,c1,c2,c3⟩:=sJ _ _ sb y1 H (fC i s1 _ h8) (by rw[abI,abS,hlen];omega) hsb (fun H' m=>q3 H' (hM.trans (m.tS (abT kE.out.tn (abT kM1.out.tn hM.tn)))))
   rw[<-jZ] at c2
   have kM:=ah.mk (hM.trans (c3.tS (abT kE.out.tn (abT kM1.out.tn hM.tn))))
   have kq:=ah.mk q4
   have k2:=ah.mk c2
   clear hM c2 c3 q3 q4 hy hsb
   repeat' (first|simp(maxSteps:=999999)(disch:=first|exact dZ|fail)only[gW,reduceIte,abn,gBQ,nS,ab3,ab9, *]|refine dX ?_ ?_<;>(intro _;try omega))
   refine⟨64 - 64 * (i+1),by omega,i+1,y2,by omega,rfl,trivial,trivial,trivial,rfl,trivial,?_,k2.out,kM.out⟩
   rw[show 64 * (i+1)=64 * i+64 by omega,<-adb]
   exact kq.out
  have hi2:i=64/64:=by omega
  subst hi2
  have h8b:=fC (64/64) s1 (mn r b.length) h8
  generalize de (64/64) s1 (mn r b.length)=s2 at *
  have hX:Ext h H:=kE.out.mut (kM1.out.trans hM) (by omega)
  have hdb:=(kM1.out.trans hM).box _ _ (by omega) kd.out
  have h8c:s2.length=8:=h8b
  have lds:ai Tryz.prog Gt H 230 (.ptr (.box sb) 0)=some (.agg (ek s2)):=by
   have hw8:(ek s2).length=8:=by rw[abu];exact h8c
   rw[cP Ev xv hsb (by rw[hw8];exact abq _),abZ,abD (by rw[hw8];exact abq _)]
  have kX:=ah.mk hX
  have kdb:=ah.mk hdb
  clear hX hdb hsb hM hy kM1 kd kB kE h8b
  have kSh2:ah (jA b=nZ s2):=⟨kSh.out⟩
  clear kSh
  repeat' (first|simp(maxSteps:=999999)(disch:=first|exact dZ|fail)only[gW,reduceIte,abn,gBQ,nS, *]|refine dX ?_ ?_<;>(intro _;try omega))
  refine aD (fun m e H=>∃(i:Nat),i<=8/\m=8 - i/\e.get 2=.ptr (.box h.boxes.length) 0/\e.get 53=.agg (ek s2)/\e.get 54=.v (.int .i64 i)/\e.defers=[]/\H.boxes[h.boxes.length]?=some (u8c (nZ (s2.take i))++abt (32 - 4 * i) (u8v 0))/\Ext h H) ?_ 8 _ _ ?_
  rotate_left 1
  ·refine⟨0,by decide,rfl,?_,?_,?_,?_,kdb.out,kX.out⟩<;>(first|assumption|(exact gR))
  clear kdb kX lds g2 g3 g4 g6 hd ly hc
  rintro m e H ⟨i,hi,rfl,g2,g53,g54,hd,hdb,hX⟩
  by_cases hc:i=8
  ·subst hc
   rw[abD (by omega)] at hdb
   have e0:u8c (nZ s2)++abt (32 - 4 * 8) (u8v 0)=u8c (nZ s2):=ab2 _
   rw[e0,<-kSh2.out] at hdb
   have hL32:(u8c (jA b)).length=32:=by rw[eC,kSh2.out,mR,h8c]
   have l177:ai Tryz.prog Gt H 177 (.ptr (.box h.boxes.length) 0)=some (.agg (u8c (jA b))):=by
    rw[cP Jo tA hdb (by rw[hL32];exact abq _),abZ,abD (by rw[hL32];exact abq _)]
   have s177:aA Tryz.prog H 177 (.ptr (.box h.boxes.length) 0) (.agg (u8c (jA b)))=some H:=by
    rw[aW (rI _) tA hdb hL32 (by rw[hL32];exact abq _),tB,ec hdb]
   have kX:=ah.mk hX
   clear hdb hX
   repeat' (first|simp(maxSteps:=999999)(disch:=first|exact dZ|fail)only[gW,reduceIte,abn,gBQ,nS, *]|refine dX ?_ ?_<;>(intro _;try omega))
   exact⟨_,rfl,kX.out⟩
  ·refine gI fun Q=>?_
   have hlt:i<8:=by omega
   have iv:=Jq (k:=.i64) h8c hlt
   have e4:IntKind.i64.wrap (4 * ((i:Nat):Int))=((4 * i:Nat):Int):=by rw[bT (by omega) (by omega)];omega
   have e5:IntKind.i64.wrap (((4 * i:Nat):Int)+4)=((4 * i+4:Nat):Int):=by rw[bT (by omega) (by omega)];omega
   have sl:=Nw (b:=h.boxes.length) hlt
   have pe:=Du h.boxes.length (4 * i) 4 (32 - 4 * i) (wAt s2 i).toNat _ H (by decide) (by have:=(wAt s2 i).isLt;omega) hdb (by
    rw[abx,eC,mR,abI,ack];omega)
   rw[A9 h8c hlt] at pe
   have hlb:=(abm.1 hdb).1
   have kX:=ah.mk hX
   clear hdb hX
   repeat' (first|simp(maxSteps:=999999)(disch:=first|exact dZ|fail)only[gW,reduceIte,abn,gBQ,nS,Jr, *]|refine dX ?_ ?_<;>(intro _;try omega))
   refine⟨8 - (i+1),by omega,i+1,by omega,rfl,trivial,trivial,rfl,trivial,aS hlb,kX.out.bZ (abq _) _⟩
 ·rw[hL] at hE kEl kSh
  have p1:=pe 120 8 (by decide)
  rw[hE] at p1
  have sl0:ck Tryz.prog 28 (.arr H.boxes.length 0 64 128) none (some (.v (.int .i64 128))) none=some (.arr H.boxes.length 0 128 128):=kZq
  have sl:ck Tryz.prog 28 (.arr H.boxes.length 0 128 128) (some (.v (.int .i64 (((128:Nat):Int) - 8)))) none none=some (.arr H.boxes.length 120 8 8):=kZq
  clear pe hE hL
  repeat' (first|simp(maxSteps:=999999)(disch:=first|exact dZ|fail)only[gW,reduceIte,abn,gBQ,nS,Nv,jY, *]|refine dX ?_ ?_<;>(intro _;try omega))
  have hlen:=kEl.out
  generalize hH1:H.push (u8c (mn r b.length)++abt (128 - 128) (u8v 0))=H1
  generalize hz:H.boxes.length=eb
  have hbe:H1.boxes[eb]?=some (u8c (mn r b.length)++abt (128 - 128) (u8v 0)):=by rw[<-hH1,<-hz];exact ak _ _
  have hM1:Mut sb h.tn H0 H1:=by rw[<-hH1];exact kM.out.push _
  have hs1:H1.boxes[sb]?=some (ek s1):=by rw[<-hH1];exact aj ks.out
  have hne:eb≠sb:=by omega
  have hR:∀H',Mut sb h.tn H1 H'->b9 1 H' (.arr eb 0 128 128) (u8s ((mn r b.length).drop (64 * 0))):=fun H' m=>by
   rw[agU,abZ]
   refine⟨ga _,.inr ⟨eb,0,128,_,by rw[abu,hlen],by rw[abu,hlen];decide,m.box _ _ hne hbe,?_,?_⟩⟩
   ·rw[rJ,abu,acM,abZ,aew (eC _)]
   ·rw[abu,abx,eC,hlen,ack];decide
  have kR:=ah.mk hR
  have kB:=ah.mk hbe
  have kM1:=ah.mk hM1
  have kS1:=ah.mk hs1
  clear hbe hM1 hs1 hR hH1 hz kM ks cp st p1 sl ix
  refine aD (fun m e H=>∃(i:Nat) (y:AV),64 * i<=128/\m=128 - 64 * i/\e.get 2=.ptr (.box h.boxes.length) 0/\e.get 3=.ptr (.box sb) 0/\e.get 4=.func (.func 204) [.ptr (.box sb) 0] []/\e.get 6=y/\e.defers=[]/\(∀H',Mut sb h.tn H1 H'->b9 1 H' y (u8s ((mn r b.length).drop (64 * i))))/\H.boxes[sb]?=some (ek (de i s1 (mn r b.length)))/\Mut sb h.tn H1 H) ?_ 128 _ _ ?_
  rotate_left 1
  ·refine⟨0,.arr eb 0 128 128,abG _,rfl,?_,?_,?_,?_,?_,kR.out,kS1.out,Mut.refl _ _ _⟩<;>(first|assumption|(exact gR))
  clear kR kS1 g0 g2 g3 g4 g5 hd ly hc
  rintro m e H ⟨i,y,hi,rfl,g2,g3,g4,g6,hd,hy,hsb,hM⟩
  have ly:=(hy H hM).len Tryz.underlying28
  rw[abu,abS,hlen] at ly
  by_cases hc:0<128 - 64 * i
  ·refine gI fun Q=>?_
   obtain⟨y1,y2,q1,q2,q3,q4⟩:=zq hy hM (by rw[abS,hlen];omega)
   obtain⟨H2,c1,c2,c3⟩:=sJ _ _ sb y1 H (fC i s1 _ h8) (by rw[abI,abS,hlen];omega) hsb (fun H' m=>q3 H' (hM.trans (m.tS (abT kE.out.tn (abT kM1.out.tn hM.tn)))))
   rw[<-jZ] at c2
   have kM:=ah.mk (hM.trans (c3.tS (abT kE.out.tn (abT kM1.out.tn hM.tn))))
   have kq:=ah.mk q4
   have k2:=ah.mk c2
   clear hM c2 c3 q3 q4 hy hsb
   repeat' (first|simp(maxSteps:=999999)(disch:=first|exact dZ|fail)only[gW,reduceIte,abn,gBQ,nS,ab3,ab9, *]|refine dX ?_ ?_<;>(intro _;try omega))
   refine⟨128 - 64 * (i+1),by omega,i+1,y2,by omega,rfl,trivial,trivial,trivial,rfl,trivial,?_,k2.out,kM.out⟩
   rw[show 64 * (i+1)=64 * i+64 by omega,<-adb]
   exact kq.out
  have hi2:i=128/64:=by omega
  subst hi2
  have h8b:=fC (128/64) s1 (mn r b.length) h8
  generalize de (128/64) s1 (mn r b.length)=s2 at *
  have hX:Ext h H:=kE.out.mut (kM1.out.trans hM) (by omega)
  have hdb:=(kM1.out.trans hM).box _ _ (by omega) kd.out
  have h8c:s2.length=8:=h8b
  have lds:ai Tryz.prog Gt H 230 (.ptr (.box sb) 0)=some (.agg (ek s2)):=by
   have hw8:(ek s2).length=8:=by rw[abu];exact h8c
   rw[cP Ev xv hsb (by rw[hw8];exact abq _),abZ,abD (by rw[hw8];exact abq _)]
  have kX:=ah.mk hX
  have kdb:=ah.mk hdb
  clear hX hdb hsb hM hy kM1 kd kB kE h8b
  have kSh2:ah (jA b=nZ s2):=⟨kSh.out⟩
  clear kSh
  repeat' (first|simp(maxSteps:=999999)(disch:=first|exact dZ|fail)only[gW,reduceIte,abn,gBQ,nS, *]|refine dX ?_ ?_<;>(intro _;try omega))
  refine aD (fun m e H=>∃(i:Nat),i<=8/\m=8 - i/\e.get 2=.ptr (.box h.boxes.length) 0/\e.get 53=.agg (ek s2)/\e.get 54=.v (.int .i64 i)/\e.defers=[]/\H.boxes[h.boxes.length]?=some (u8c (nZ (s2.take i))++abt (32 - 4 * i) (u8v 0))/\Ext h H) ?_ 8 _ _ ?_
  rotate_left 1
  ·refine⟨0,by decide,rfl,?_,?_,?_,?_,kdb.out,kX.out⟩<;>(first|assumption|(exact gR))
  clear kdb kX lds g2 g3 g4 g6 hd ly hc
  rintro m e H ⟨i,hi,rfl,g2,g53,g54,hd,hdb,hX⟩
  by_cases hc:i=8
  ·subst hc
   rw[abD (by omega)] at hdb
   have e0:u8c (nZ s2)++abt (32 - 4 * 8) (u8v 0)=u8c (nZ s2):=ab2 _
   rw[e0,<-kSh2.out] at hdb
   have hL32:(u8c (jA b)).length=32:=by rw[eC,kSh2.out,mR,h8c]
   have l177:ai Tryz.prog Gt H 177 (.ptr (.box h.boxes.length) 0)=some (.agg (u8c (jA b))):=by
    rw[cP Jo tA hdb (by rw[hL32];exact abq _),abZ,abD (by rw[hL32];exact abq _)]
   have s177:aA Tryz.prog H 177 (.ptr (.box h.boxes.length) 0) (.agg (u8c (jA b)))=some H:=by
    rw[aW (rI _) tA hdb hL32 (by rw[hL32];exact abq _),tB,ec hdb]
   have kX:=ah.mk hX
   clear hdb hX
   repeat' (first|simp(maxSteps:=999999)(disch:=first|exact dZ|fail)only[gW,reduceIte,abn,gBQ,nS, *]|refine dX ?_ ?_<;>(intro _;try omega))
   exact⟨_,rfl,kX.out⟩
  ·refine gI fun Q=>?_
   have hlt:i<8:=by omega
   have iv:=Jq (k:=.i64) h8c hlt
   have e4:IntKind.i64.wrap (4 * ((i:Nat):Int))=((4 * i:Nat):Int):=by rw[bT (by omega) (by omega)];omega
   have e5:IntKind.i64.wrap (((4 * i:Nat):Int)+4)=((4 * i+4:Nat):Int):=by rw[bT (by omega) (by omega)];omega
   have sl:=Nw (b:=h.boxes.length) hlt
   have pe:=Du h.boxes.length (4 * i) 4 (32 - 4 * i) (wAt s2 i).toNat _ H (by decide) (by have:=(wAt s2 i).isLt;omega) hdb (by
    rw[abx,eC,mR,abI,ack];omega)
   rw[A9 h8c hlt] at pe
   have hlb:=(abm.1 hdb).1
   have kX:=ah.mk hX
   clear hdb hX
   repeat' (first|simp(maxSteps:=999999)(disch:=first|exact dZ|fail)only[gW,reduceIte,abn,gBQ,nS,Jr, *]|refine dX ?_ ?_<;>(intro _;try omega))
   refine⟨8 - (i+1),by omega,i+1,by omega,rfl,trivial,trivial,rfl,trivial,aS hlb,kX.out.bZ (abq _) _⟩
theorem vm(z:AV):∀n:Nat,(abt n [z]).flatten=abt n z
 |0=>rfl
 |n+1=>by rw[adl,List.flatten_cons,vm z n,adl];rfl
theorem Ny:Tryz.f206.results.toList=[.tmp 4]:=kZq
theorem tC:Tryz.f182.results.toList=[.tmp 2]:=kZq
theorem Nz:wQ Tryz.prog 28 (.list .nil 0 [])=some (.v (.int .i64 0)):=kZq
theorem QG:ck Tryz.prog 28 (.list .nil 0 []) none (some (.v (.int .i64 0))) none=some (.list .nil 0 []):=kZq
theorem in5:∃i,Tryz.prog.info? 5=some i/\i.size=1/\i.bytes<=8/\(i.zero.map fun z=>z.cells.size)=some 1:=by
 have h:(match Tryz.prog.info? 5 with|some i=>Nat.beq i.size 1&&Nat.ble i.bytes 8&&decide ((i.zero.map fun z=>z.cells.size)=some 1)|none=>false)=true:=kZq
 split at h
 ·rename_i i hi
  simp only[abr,decide_eq_true_eq] at h
  exact⟨i,hi,abR h.1.1,abX h.1.2,h.2⟩
 ·cases h
theorem zr5:(ej Tryz.prog 5).bind AV.aC=some [u8v 0]:=kZq
theorem SO{H:ae}{n:Nat}(h0:0<n)(hn:n<=1099511627776):bP Tryz.prog H #[28,3] (.list .nil 0 []) (.v (.int .i64 (n:Nat)))=some (.arr H.boxes.length 0 n n,H.push (abt n [u8v 0]).flatten):=by
 obtain⟨i,h1,h2,h3,h4⟩:=in5
 have:=acP hn h3
 exact rp Tryz.underlying28 Tryz.underlying3 h1 zr5 h0 (by omega) (by omega) (by omega) h2.symm
theorem Gm(n:Nat)(h0:0<n)(hn:n<=1099511627776)(H:ae):W.call 206 [.list .nil 0 [],.v (.int .i64 (n:Nat))] H=some (.ret (.arr H.boxes.length 0 0 n),H.push (abt n [u8v 0]).flatten):=by
 have u28:=Tryz.underlying28
 have a:=SO (H:=H) h0 hn
 have e1:IntKind.i64.wrap ((0:Int) - 0)=0:=by rfl
 have e2:IntKind.i64.wrap (((n:Nat):Int) - 0)=((n:Nat):Int):=by rw[aeE,bT (by omega) (by omega)]
 have s2:ck Tryz.prog 28 (.arr H.boxes.length 0 n n) none (some (.v (.int .i64 (0:Nat)))) none=some (.arr H.boxes.length 0 0 n):=rn u28 sz5 (by decide) (by decide) (by omega) h0
 have s2:ck Tryz.prog 28 (.arr H.boxes.length 0 n n) none (some (.v (.int .i64 0))) none=some (.arr H.boxes.length 0 0 n):=s2
 have hlt:(0:Int)<(n:Nat):=by omega
 refine ar rfl Tryz.func206 rfl ?_
 repeat' (first|simp(maxSteps:=999999)(disch:=first|exact dZ|fail)only[gW,reduceIte,abn,gBQ,Ny,u6,Nz,QG,ab7,acT,aeE, *]|(refine dX ?_ ?_<;>(intro _;try omega))|refine aP kZq ?_)
theorem Dx(H:ae):W.call 206 [.list .nil 0 [],.v (.int .i64 (0:Nat))] H=some (.ret (.list .nil 0 []),H):=by
 have u28:=Tryz.underlying28
 refine ar rfl Tryz.func206 rfl ?_
 have e1:IntKind.i64.wrap ((0:Int) - 0)=0:=by rfl
 have e2:IntKind.i64.wrap (((0:Nat):Int) - 0)=0:=by rfl
 repeat' (first|simp(maxSteps:=999999)(disch:=first|exact dZ|fail)only[gW,reduceIte,abn,gBQ,Ny,u6,Nz,QG,ab7,acT,aeE, *]|(refine dX ?_ ?_<;>(intro _;try omega))|refine aP kZq ?_)
theorem OV:cZ Tryz.prog 28=some false:=kZq
theorem SP:bF Tryz.prog 28=some 1:=kZq
theorem SQ{H:ae}{b len cap:Nat}{cs:List AV}{new:List (List AV)}{x:AV}(s:b9 1 H x new)(hb:H.boxes[b]?=some cs)(h2:len+new.length<=cap)(h3:cap<=cs.length):
 bP Tryz.prog H #[28,28] (.arr b 0 len cap) x=some (.arr b 0 (len+new.length) cap,H.put b (bI cs len new.flatten)):=by
 obtain⟨i,h1,q2,-,h4⟩:=in5
 have:=u7 (off:=0) Tryz.underlying28 Tryz.underlying28 h1 (by omega) (by rw[q2];exact h4) (by rw[q2];exact s.news) hb h2 (by rw[q2];omega)
 rwa [q2,acM,acB] at this
theorem SR{H:ae}{x:AV}(s:b9 1 H x []):bP Tryz.prog H #[28,28] (.list .nil 0 []) x=some (.list .nil 0 [],H):=by
 obtain⟨i,h1,q2,-,h4⟩:=in5
 have hx:eH H i.size x=some []:=by rw[q2];exact s.news
 unfold bP
 simp only[abP,abN,ace,acu,Tryz.underlying28,h1,hx]
 rw[if_pos ⟨by omega,by rw[q2];exact h4⟩]
 simp
theorem Ba(k:Tok)(xs:List AV)(rss:List (List (List AV)))(hl:xs.length=rss.length)(H:ae)(hs:∀(i:Nat) x rs,xs[i]?=some x->rss[i]?=some rs->b9 1 H x rs)(hb:rss.flatten.length<=1099511627776)(hxl:xs.length<=1000):
 ∃r H',W.call 182 [.list k 1 (xs.map fun x=>[x])] H=some (r,H')/\∃y,r=.ret y/\Ext H H'/\b9 1 H' y rss.flatten:=by
 have u28:=Tryz.underlying28;have u233:=Tryz.underlying233
 have aE:=OV;have sE:=SP
 have hr:∀(i:Nat) x,xs[i]?=some x->(xs.map fun x=>[x])[i]?=some [x]:=fun i x hx=>by rw[abF,hx];rfl
 have hle:∀i,(rss.take i).flatten.length<=1099511627776:=fun i=>by
  refine abT ?_ hb
  conv=>rhs;rw[<-acN i rss,acr,abx]
  omega
 have hstep:∀(i:Nat) rs,rss[i]?=some rs->(rss.take (i+1)).flatten=(rss.take i).flatten++rs:=fun i rs hi=>by rw[a9 hi,acr];simp
 have kS:=ah.mk hs
 have kl:=ah.mk hl
 have kr:=ah.mk hr
 have kst:=ah.mk hstep
 have kle:=ah.mk hle
 have hml:(xs.map fun x=>[x]).length=xs.length:=by simp
 clear hs hr hstep hle hl
 generalize hM:(xs.map fun x=>[x])=M at *
 refine aL rfl Tryz.func182 rfl ?_
 refine gx1 @tC ?_
 refine aD (fun m e h'=>∃i:Nat,i<=xs.length/\m=xs.length - i/\e.get 0=.list k 1 M/\e.get 9=.list k 1 M/\e.get 10=.v (.int .i64 (xs.length:Nat))/\e.get 11=.v (.int .i64 i)/\e.get 3=.v (.int .i64 ((rss.take i).flatten.length:Nat))/\e.get 2=.list .nil 0 []/\e.defers=[]/\h'=H) ?_ xs.length _ _ ?_
 rotate_left 1
 ·refine⟨0,abG _,rfl,?_,?_,?_,?_,?_,?_,?_,rfl⟩<;>(first|assumption|(simp only[gW,reduceIte,abn,gBQ,hml]<;>rfl))
 rintro m e h' ⟨i,hi,rfl,g0,g9,g10,g11,g3,g2,hd,rfl⟩
 by_cases hlt:i<xs.length
 ·obtain⟨x,hx⟩:∃x,xs[i]?=some x:=⟨_,abo hlt⟩
  obtain⟨rs,hrs⟩:∃rs,rss[i]?=some rs:=⟨_,abo (by have:=kl.out;omega)⟩
  have s1:=kS.out i x rs hx hrs
  have ls:=s1.len u28
  have hmi:=kr.out i x hx
  have hlm:(i:Int)<(M.length:Int):=by omega
  have q:=kst.out i rs hrs
  have q1:=kle.out (i+1)
  rw[q,abx] at q1
  have ksum:=ah.mk (show(rss.take (i+1)).flatten.length=(rss.take i).flatten.length+rs.length by rw[q,abx])
  generalize (rss.take i).flatten.length=n1 at *
  have e1:IntKind.i64.wrap (((n1:Nat):Int)+((rs.length:Nat):Int))=((n1+rs.length:Nat):Int):=by rw[bT (by omega) (by omega)];omega
  have nn:¬(((n1+rs.length:Nat):Int)<0):=by omega
  have ld:ai Tryz.prog Gt h' 28 (.elem 1 M i 0)=some x:=by rw[ez aE hmi];rfl
  clear q q1 s1
  repeat' (first|simp(maxSteps:=999999)(disch:=first|exact dZ|fail)only[gW,reduceIte,abn,gBQ,tC,al, *]|refine dX ?_ ?_<;>(intro _;try omega))
  exact⟨xs.length - (i+1),by omega,i+1,by omega,rfl,by trivial,by trivial,by trivial,by simp,by rw[ksum.out],by trivial,by trivial,by trivial⟩
 have:i=xs.length:=by omega
 subst this
 rw[show rss.take xs.length=rss by rw[kl.out];exact abU] at g3
 have hn:=kle.out xs.length
 rw[show rss.take xs.length=rss by rw[kl.out];exact abU] at hn
 generalize hN:rss.flatten.length=n at *
 rcases Nat.eq_zero_or_pos n with h0|h0
 ·subst h0
  have gn:=Dx h'
  have hnil:rss.flatten=[]:=List.eq_nil_of_length_eq_zero hN
  repeat' (first|simp(maxSteps:=999999)(disch:=first|exact dZ|fail)only[gW,reduceIte,abn,gBQ,tC, *]|refine dX ?_ ?_<;>(intro _;try omega))
  refine aD (fun m e H1=>∃i:Nat,i<=xs.length/\m=xs.length - i/\e.get 25=.list k 1 M/\e.get 26=.v (.int .i64 (xs.length:Nat))/\e.get 27=.v (.int .i64 i)/\e.get 6=.list .nil 0 []/\e.defers=[]/\H1=h') ?_ xs.length _ _ ?_
  rotate_left 1
  ·refine⟨0,abG _,rfl,?_,?_,?_,?_,?_,rfl⟩<;>(first|assumption|(simp only[gW,reduceIte,abn,gBQ,hml]<;>rfl))
  clear g0 g9 g10 g11 g3 g2 hd gn
  rintro m e H1 ⟨i,hi,rfl,g25,g26,g27,g6,hd,rfl⟩
  by_cases hlt:i<xs.length
  ·obtain⟨x,hx⟩:∃x,xs[i]?=some x:=⟨_,abo hlt⟩
   obtain⟨rs,hrs⟩:∃rs,rss[i]?=some rs:=⟨_,abo (by have:=kl.out;omega)⟩
   have s1:=kS.out i x rs hx hrs
   have hrs0:rs=[]:=by
    have:=List.mem_of_getElem? hrs
    cases rs with
    |nil=>rfl
    |cons a l=>exact absurd (aeG.2 ⟨_,this,List.mem_cons_self⟩) (by rw[hnil];exact adj)
   subst hrs0
   have an:=SR s1
   have hmi:=kr.out i x hx
   have hlm:(i:Int)<(M.length:Int):=by omega
   have ld:ai Tryz.prog Gt H1 28 (.elem 1 M i 0)=some x:=by rw[ez aE hmi];rfl
   clear s1
   repeat' (first|simp(maxSteps:=999999)(disch:=first|exact dZ|fail)only[gW,reduceIte,abn,gBQ,tC,al, *]|refine dX ?_ ?_<;>(intro _;try omega))
   exact⟨xs.length - (i+1),by omega,i+1,by omega,rfl,by trivial,by trivial,by simp,by trivial,by trivial,by trivial⟩
  ·have:i=xs.length:=by omega
   subst this
   refine gx1 @tC ?_
   exact⟨_,_,rfl,_,rfl,Ext.refl _,by(try rw[hnil]);exact b9.list (fun r hr=>by cases hr) (fun q=>absurd rfl q)⟩
 ·have gn:=Gm n h0 hn h'
  repeat' (first|simp(maxSteps:=999999)(disch:=first|exact dZ|fail)only[gW,reduceIte,abn,gBQ,tC, *]|refine dX ?_ ?_<;>(intro _;try omega))
  rw[vm]
  have hr1:∀(i:Nat) rs,rss[i]?=some rs->∀r∈rs,r.length=1:=fun i rs hi=>by
   obtain⟨x,hx⟩:∃x,xs[i]?=some x:=⟨_,abo (by rw[kl.out];exact(abm.1 hi).1)⟩
   exact(kS.out i x rs hx hi).1
  have hr2:∀i,∀r∈(rss.take i).flatten,r.length=1:=fun i r hr=>by
   obtain⟨rs,h1,h2⟩:=aeG.1 hr
   obtain⟨j,hj⟩:=List.mem_iff_getElem?.1 (List.mem_of_mem_take h1)
   exact hr1 j rs hj r h2
  have hfl:∀i,(rss.take i).flatten.flatten.length=(rss.take i).flatten.length:=fun i=>by rw[a8 (hr2 i),acM]
  have hmono:∀i,(rss.take i).flatten.length<=n:=fun i=>by
   rw[<-hN]
   conv=>rhs;rw[<-acN i rss,acr,abx]
   omega
  have kfl:=ah.mk hfl
  have kmo:=ah.mk hmono
  have kr2:=ah.mk hr2
  clear hr1 hfl hmono hr2 gn
  refine aD (fun m e H1=>∃i:Nat,i<=xs.length/\m=xs.length - i/\e.get 25=.list k 1 M/\e.get 26=.v (.int .i64 (xs.length:Nat))/\e.get 27=.v (.int .i64 i)/\e.get 6=.arr h'.boxes.length 0 (rss.take i).flatten.length n/\e.defers=[]/\H1.boxes[h'.boxes.length]?=some ((rss.take i).flatten.flatten++abt (n - (rss.take i).flatten.length) (u8v 0))/\Ext h' H1) ?_ xs.length _ _ ?_
  rotate_left 1
  ·refine⟨0,abG _,rfl,?_,?_,?_,?_,?_,?_,Ext.push _ _⟩<;>(first|assumption|exact ak _ _|(simp only[gW,reduceIte,abn,gBQ,hml]<;>rfl))
  clear g0 g9 g10 g11 g3 g2 hd
  rintro m e H1 ⟨i,hi,rfl,g25,g26,g27,g6,hd,hB,hX⟩
  by_cases hlt:i<xs.length
  ·obtain⟨x,hx⟩:∃x,xs[i]?=some x:=⟨_,abo hlt⟩
   obtain⟨rs,hrs⟩:∃rs,rss[i]?=some rs:=⟨_,abo (by have:=kl.out;omega)⟩
   have s1:=(kS.out i x rs hx hrs).ext hX
   have q:=kst.out i rs hrs
   have m1:=kmo.out (i+1)
   have f0:=kfl.out i
   have hsum:(rss.take (i+1)).flatten.length=(rss.take i).flatten.length+rs.length:=by rw[q,abx]
   rw[hsum] at m1
   have hrsl:rs.flatten.length=rs.length:=by rw[a8 s1.1,acM]
   have ap:=SQ s1 hB m1 (by rw[abx,ack,f0];omega)
   have hsp:bI ((rss.take i).flatten.flatten++abt (n - (rss.take i).flatten.length) (u8v 0)) (rss.take i).flatten.length rs.flatten=(rss.take (i+1)).flatten.flatten++abt (n - (rss.take (i+1)).flatten.length) (u8v 0):=by
    unfold bI
    rw[aew f0,adt,acm (by rw[f0];omega),ab9,f0,aek,q,acr,abx,hrsl]
    congr 2
    omega
   rw[hsp] at ap
   have hmi:=kr.out i x hx
   have hlm:(i:Int)<(M.length:Int):=by omega
   have ld:ai Tryz.prog Gt H1 28 (.elem 1 M i 0)=some x:=by rw[ez aE hmi];rfl
   have kX:=ah.mk hX
   have hlb:=(abm.1 hB).1
   have ks:=ah.mk hsum
   clear s1 hX hB hsp q f0 hsum
   repeat' (first|simp(maxSteps:=999999)(disch:=first|exact dZ|fail)only[gW,reduceIte,abn,gBQ,tC,al, *]|refine dX ?_ ?_<;>(intro _;try omega))
   refine⟨xs.length - (i+1),by omega,i+1,by omega,rfl,by trivial,by trivial,by simp,by rw[ks.out],by trivial,?_,kX.out.bZ (abq _) _⟩
   exact aS hlb
  ·have:i=xs.length:=by omega
   subst this
   have ht:rss.take xs.length=rss:=by rw[kl.out];exact abU
   have f0:=kfl.out xs.length
   have hr2:=kr2.out xs.length
   rw[ht] at hB g6 f0 hr2
   rw[hN] at hB g6
   rw[adx,List.replicate_zero,ab2] at hB
   have kB:=ah.mk hB
   have kX:=ah.mk hX
   clear hB hX
   refine gx1 @tC ?_
   exact⟨_,_,rfl,_,rfl,kX.out,b9.box hr2 hN.symm kB.out⟩
theorem NA:Tryz.f158.results.toList=[.tmp 4]:=kZq
theorem tD:Tryz.f109.results.toList=[.tmp 2]:=kZq
theorem NB:wQ Tryz.prog 23 (.list .nil 0 [])=some (.v (.int .i64 0)):=kZq
theorem QH:ck Tryz.prog 23 (.list .nil 0 []) none (some (.v (.int .i64 0))) none=some (.list .nil 0 []):=kZq
theorem in3:∃i,Tryz.prog.info? 3=some i/\i.size=1/\i.bytes<=8/\(i.zero.map fun z=>z.cells.size)=some 1:=by
 have h:(match Tryz.prog.info? 3 with|some i=>Nat.beq i.size 1&&Nat.ble i.bytes 8&&decide ((i.zero.map fun z=>z.cells.size)=some 1)|none=>false)=true:=kZq
 split at h
 ·rename_i i hi
  simp only[abr,decide_eq_true_eq] at h
  exact⟨i,hi,abR h.1.1,abX h.1.2,h.2⟩
 ·cases h
theorem zr3:(ej Tryz.prog 3).bind AV.aC=some [im 0]:=kZq
theorem SS{H:ae}{n:Nat}(h0:0<n)(hn:n<=1099511627776):bP Tryz.prog H #[23,3] (.list .nil 0 []) (.v (.int .i64 (n:Nat)))=some (.arr H.boxes.length 0 n n,H.push (abt n [im 0]).flatten):=by
 obtain⟨i,h1,h2,h3,h4⟩:=in3
 have:=acP hn h3
 exact rp Tryz.underlying23 Tryz.underlying3 h1 zr3 h0 (by omega) (by omega) (by omega) h2.symm
theorem QI:cZ Tryz.prog 23=some false:=kZq
theorem jC:bF Tryz.prog 23=some 1:=kZq
theorem SU{H:ae}{b len cap:Nat}{cs:List AV}{new:List (List AV)}{x:AV}(s:b9 1 H x new)(hb:H.boxes[b]?=some cs)(h2:len+new.length<=cap)(h3:cap<=cs.length):
 bP Tryz.prog H #[23,23] (.arr b 0 len cap) x=some (.arr b 0 (len+new.length) cap,H.put b (bI cs len new.flatten)):=by
 obtain⟨i,h1,q2,-,h4⟩:=in3
 have:=u7 (off:=0) Tryz.underlying23 Tryz.underlying23 h1 (by omega) (by rw[q2];exact h4) (by rw[q2];exact s.news) hb h2 (by rw[q2];omega)
 rwa [q2,acM,acB] at this
theorem SV{H:ae}{x:AV}(s:b9 1 H x []):bP Tryz.prog H #[23,23] (.list .nil 0 []) x=some (.list .nil 0 [],H):=by
 obtain⟨i,h1,q2,-,h4⟩:=in3
 have hx:eH H i.size x=some []:=by rw[q2];exact s.news
 unfold bP
 simp only[abP,abN,ace,acu,Tryz.underlying23,h1,hx]
 rw[if_pos ⟨by omega,by rw[q2];exact h4⟩]
 simp
theorem QJ:Tryz.f145.results.toList=[.cell 4 177]:=kZq
theorem OW(l:List UInt8)(h:ae):fm Tryz.prog h 9 28 (.v (.string (bs l)))=some (.list (.free h.tn) 1 (u8s l),h.app .nil):=by
 have h1:Tryz.prog.underlying 9=some .string:=Tryz.underlying9
 have h2:Tryz.prog.underlying 28=some (.slice 5):=Tryz.underlying28
 have h3:Tryz.prog.underlying 5=some (.int .u8):=Tryz.underlying5
 obtain⟨i,q1,q2,-⟩:=in5
 unfold fm
 simp only[h1,h2,h3,q1,q2,if_true]
 simp[bs,ae.fresh,ae.app]
theorem QN(x y:AV)(hx:x.bu=true)(hy:y.bu=true):aN Tryz.prog 233 2 [(0,x),(1,y)]=some (.list .tight 1 [[x],[y]]):=by
 cases x<;>first|(cases hx;done)|(cases y<;>first|(cases hy;done)|kernel_rfl)
theorem b9.cell{sz:Nat}{h:ae}{x:AV}{rows:List (List AV)}(s:b9 sz h x rows):x.bu=true:=by
 rcases s.2 with⟨k,s',rfl,-⟩|⟨b,off,cap,cs,rfl,-⟩<;>rfl
theorem py(b:List UInt8):(jA b).length=32:=by
 unfold jA
 rw[mR,fC _ _ _ rfl]
theorem OX(M:Nat):ck Tryz.prog 177 (.ptr (.box M) 0) none none none=some (.arr M 0 32 32):=kZq
theorem Gp(tag b:List UInt8)(x:AV)(h:ae)(s:b9 1 h x (u8s b))(hb:b.length<=1099511620000)(ht:tag.length<=1099511620000):
 ∃h',W.call 145 [.v (.string (bs tag)),x] h=some (.ret (.agg (u8c (dV tag b))),h')/\Ext h h':=by
 have z177:=Jp
 have x0:Ext h ((h.push (abt 32 (u8v 0))).app .nil):=(Ext.push _ _).trans (Ext.app (Ext.refl _) (.inl rfl))
 have e0:((h.push (abt 32 (u8v 0))).app .nil).boxes=(h.push (abt 32 (u8v 0))).boxes:=aT _ _
 obtain⟨H2,c2,x2⟩:=xx tag (.list (.free (h.push (abt 32 (u8v 0))).tn) 1 (u8s tag)) ((h.push (abt 32 (u8v 0))).app .nil) (b9.list (ga _) fun _=>rfl) (by omega)
 have d0:H2.boxes[h.boxes.length]?=some (abt 32 (u8v 0)):=x2.box _ _ (by rw[e0];exact ak _ _)
 have tl:(u8c (jA tag)).length=32:=by rw[eC,py]
 have st1:aA Tryz.prog (H2.push (abt 32 (u8v 0))) 177 (.ptr (.box H2.boxes.length) 0) (.agg (u8c (jA tag)))=some (H2.push (u8c (jA tag))):=cQ (rI _) tA tl rfl
 have sx:b9 1 (H2.push (u8c (jA tag))) x (u8s b):=((s.ext x0).ext x2).ext (Ext.push _ _)
 have sy:b9 1 (H2.push (u8c (jA tag))) (.arr H2.boxes.length 0 32 32) (u8s (jA tag)):=b9.box (ga _) (by rw[abu,py]) (by rw[rJ];exact ak _ _)
 obtain⟨r3,H3,c3,y,rfl,x3,s3⟩:=Ba .tight [.arr H2.boxes.length 0 32 32,x] [u8s (jA tag),u8s b] rfl (H2.push (u8c (jA tag))) (fun i z rs hz hrs=>by
  rcases i with _|_|i
  ·injection hz with hz;injection hrs with hrs;subst hz;subst hrs;exact sy
  ·injection hz with hz;injection hrs with hrs;subst hz;subst hrs;exact sx
  ·cases hz) (by simp[py];omega) (by simp)
 have ef:[u8s (jA tag),u8s b].flatten=u8s (jA tag++b):=by simp[u8s]
 rw[ef] at s3
 have bl:=QN _ x (b9.cell sy) (b9.cell sx)
 obtain⟨H4,c4,x4⟩:=xx (jA tag++b) y H3 s3 (by rw[abx,py];omega)
 have hX:Ext H2 H4:=(Ext.push _ _).trans (x3.trans x4)
 have d4:H4.boxes[h.boxes.length]?=some (abt 32 (u8v 0)):=hX.box _ _ d0
 have tl2:(u8c (dV tag b)).length=32:=by rw[eC];exact py _
 have st2:aA Tryz.prog H4 177 (.ptr (.box h.boxes.length) 0) (.agg (u8c (dV tag b)))=some (H4.put h.boxes.length (u8c (dV tag b))):=by
  rw[aW (rI _) tA d4 tl2 (by simp),jc (by rw[tl2];simp)]
 have ld2:ai Tryz.prog Gt (H4.put h.boxes.length (u8c (dV tag b))) 177 (.ptr (.box h.boxes.length) 0)=some (.agg (u8c (dV tag b))):=by
  rw[cP Jo tA (aS (abm.1 d4).1) (by rw[tl2];exact abq _),abZ,abD (by rw[tl2];exact abq _)]
 replace c4:W.call 181 [y] H3=some (.ret (.agg (u8c (dV tag b))),H4):=c4
 have kX:=ah.mk (((x0.trans x2).trans hX).bZ (abq _) (u8c (dV tag b)))
 simp only[abK,List.map_nil] at c3
 clear s sx sy s3 x0 e0 x2 x3 x4 hX d0 d4 ef tl tl2
 refine dL rfl Tryz.func145 rfl ?_
 refine gx3 @QJ @OW @OX ?_
 exact⟨_,rfl,kX.out⟩
theorem OY:Tryz.f78.results.toList=[.tmp 4]:=kZq
theorem NC{b n:Nat}{k:IntKind}(hn:n<32):ay Tryz.prog 177 (.ptr (.box b) 0) (.v (.int k (n:Nat)))=some (.ptr (.box b) n):=by
 have h1:Tryz.prog.underlying 177=some (.array 32 5):=Tryz.underlying177
 unfold ay
 simp only[h1,sz5]
 rw[if_pos ⟨by omega,by omega⟩]
 simp
theorem ld5{H:ae}{b i:Nat}{l:List UInt8}(hb:H.boxes[b]?=some (u8c l))(hi:i<l.length):ai Tryz.prog Gt H 5 (.ptr (.box b) i)=some (u8v (bAt l i)):=by
 rw[dc ag5 hb,aeu,abF,abo hi]
 unfold bAt
 rw[abw,abo hi]
 rfl
theorem QP(n:Int)(h:ae):fm Tryz.prog h 5 3 (.v (.int .u8 n))=some (.v (.int .i64 (IntKind.i64.wrap n)),h):=kZq
theorem xz(b:List UInt8):∀i,i<=b.length->lT b i=(b.take i).foldl (fun n c=>n * 256+c.toNat) 0
 |0,_=>rfl
 |i+1,hi=>by
  rw[lT,xz b i (by omega)]
  have:b[i]?=some (bAt b i):=by
   unfold bAt
   rw[abw,abo (by omega)];rfl
  rw[a9 this,acs]
  rfl
def mask(b:List UInt8):List UInt8:=b.set 0 (bAt b 0&&&127)
theorem Ex{b:List UInt8}{i:Nat}(hb:0<b.length):bAt (mask b) i=if i=0 then bAt b 0&&&127 else bAt b i:=by
 unfold mask bAt
 rw[abw,aci]
 split
 ·rename_i h;subst h;simp[hb]
 ·rename_i h;rw[if_neg (fun q=>h q.symm),abw]
theorem Js(c:UInt8):(c&&&127).toNat=c.toNat%128:=by
 rw[UInt8.toNat_and]
 exact afn c.toNat 7
theorem vn{b:List UInt8}(hb:0<b.length):∀i,lT (mask b) (i+1)=lT b (i+1)%(128 * 256^i)
 |0=>by
  show 0 * 256+(bAt (mask b) 0).toNat=(0 * 256+(bAt b 0).toNat)%128
  rw[Ex hb,if_pos rfl,Js];omega
 |i+1=>by
  rw[lT,vn hb i,Ex hb,if_neg (by omega),lT.eq_2 b (i+1)]
  have:=A7 (bAt b (i+1))
  generalize lT b (i+1)=A at *
  generalize (bAt b (i+1)).toNat=r at *
  rw[aeg,<-ae8]
  have hM:0<128 * 256^i:=afW (by decide) (afY (by decide))
  generalize 128 * 256^i=M at *
  have h1:=acK A hM
  have h2:=Nat.div_add_mod A M
  have h3:A * 256+r=M * 256 * (A/M)+(A%M * 256+r):=by
   rw[Nat.mul_right_comm,<-Nat.add_assoc,<-ab4,h2]
  rw[h3,Nat.mul_add_mod,acn (a:=A%M * 256+r) (b:=M * 256) (by
   have:(A%M+1) * 256<=M * 256:=Nat.mul_le_mul_right _ h1
   rw[ab4] at this
   omega)]
theorem Mv{b:List UInt8}(hb:0<b.length){i:Nat}(hi:i<8):lT (mask b) i<36028797018963968:=by
 cases i with
 |zero=>show 0<_;decide
 |succ i=>
  rw[vn hb]
  have h1:=acK (lT b (i+1)) (show 0<128 * 256^i from afW (by decide) (afY (by decide)))
  have h2:256^i<=256^6:=afm (by decide) (by omega)
  have h3:256^6=281474976710656:=by decide
  omega
theorem hash_eq{b:List UInt8}(hb:8<=b.length):lT (mask b) 8%Q=mK b:=by
 unfold mK
 rw[vn (by omega) 7,xz b 8 hb]
theorem QQ{t:TypeId}{x y:Operand}{n:Nat}(hn:n<36028797018963968):bB Tryz.prog .shl t x y (.v (.int .i64 (n:Nat))) (.v (.int .u64 8))=some (.v (.int .i64 ((n * 256:Nat):Int))):=by
 rw[y0 (by decide)]
 congr 3
 show IntKind.i64.wrap (((n:Nat):Int) * 256)=_
 rw[bT (by omega) (by omega)];omega
theorem ori{t:TypeId}{x y:Operand}{n m:Nat}(hn:n<36028797018963968)(hm:m<256):bB Tryz.prog .or t x y (.v (.int .i64 ((n * 256:Nat):Int))) (.v (.int .i64 (m:Nat)))=some (.v (.int .i64 ((n * 256+m:Nat):Int))):=by
 rw[C8]
 congr 3
 have e1:BitVec.ofInt IntKind.i64.bits ((n * 256:Nat):Int)=BitVec.ofNat 64 (n * 256):=by
  apply BitVec.eq_of_toNat_eq
  show(BitVec.ofInt 64 ((n * 256:Nat):Int)).toNat=(BitVec.ofNat 64 (n * 256)).toNat
  rw[BitVec.toNat_ofInt,BitVec.toNat_ofNat];omega
 have e2:BitVec.ofInt IntKind.i64.bits ((m:Nat):Int)=BitVec.ofNat 64 m:=by
  apply BitVec.eq_of_toNat_eq
  show(BitVec.ofInt 64 ((m:Nat):Int)).toNat=(BitVec.ofNat 64 m).toNat
  rw[BitVec.toNat_ofInt,BitVec.toNat_ofNat];omega
 have e3:(BitVec.ofNat 64 (n * 256)|||BitVec.ofNat 64 m).toNat=n * 256+m:=by
  rw[BitVec.toNat_or,BitVec.toNat_ofNat,BitVec.toNat_ofNat,acn (show n * 256<2^64 by omega),acn (show m<2^64 by omega)]
  have h1:n<<<8=n * 256:=by rw[adK]
  rw[<-h1,<-ads (show m<2^8 by omega)]
 have e4:(BitVec.ofInt IntKind.i64.bits ((n * 256:Nat):Int)|||BitVec.ofInt IntKind.i64.bits ((m:Nat):Int)).toNat=n * 256+m:=by rw[e1,e2];exact e3
 rw[e4,bT (by omega) (by omega)]
theorem Mw{t:TypeId}{x y:Operand}(c:UInt8):bB Tryz.prog .and t x y (u8v c) (.v (.int .u8 127))=some (u8v (c&&&127)):=by
 unfold u8v
 rw[fQ]
 congr 3
 have hc:=A7 c
 have e1:BitVec.ofInt IntKind.u8.bits ((c.toNat:Nat):Int)=BitVec.ofNat 8 c.toNat:=by
  apply BitVec.eq_of_toNat_eq
  show(BitVec.ofInt 8 ((c.toNat:Nat):Int)).toNat=(BitVec.ofNat 8 c.toNat).toNat
  rw[BitVec.toNat_ofInt,BitVec.toNat_ofNat];omega
 have e3:(BitVec.ofInt IntKind.u8.bits ((c.toNat:Nat):Int)&&&BitVec.ofInt IntKind.u8.bits 127).toNat=c.toNat%128:=by
  rw[e1]
  show(BitVec.ofNat 8 c.toNat&&&127#8).toNat=_
  rw[BitVec.toNat_and,BitVec.toNat_ofNat,acn (show c.toNat<2^8 by omega)]
  exact afn c.toNat 7
 rw[e3,yU (by omega) (by omega),Js]
theorem Dy(l:List UInt8):(u8c l).set 0 (u8v (bAt l 0&&&127))=u8c (mask l):=by
 unfold mask u8c
 rw[List.map_set]
theorem Jt(tag b:List UInt8)(x:AV)(h:ae)(s:b9 1 h x (u8s b))(hb:b.length<=1099511620000)(ht:tag.length<=1099511620000):
 ∃h',W.call 78 [.v (.string (bs tag)),x] h=some (.ret (im (mK (dV tag b):Nat)),h')/\Ext h h':=by
 obtain⟨H1,c1,x1⟩:=Gp tag b x h s hb ht
 have hl:(dV tag b).length=32:=py _
 have hcl:(u8c (dV tag b)).length=32:=by rw[eC,hl]
 have he:=hash_eq (b:=dV tag b) (by omega)
 generalize dV tag b=d at *
 have hd0:0<d.length:=by omega
 have z177:=Jp
 have st1:aA Tryz.prog (H1.push (abt 32 (u8v 0))) 177 (.ptr (.box H1.boxes.length) 0) (.agg (u8c d))=some (H1.push (u8c d)):=cQ (rI _) tA hcl rfl
 have ix0:ay Tryz.prog 177 (.ptr (.box H1.boxes.length) 0) (.v (.int .i64 0))=some (.ptr (.box H1.boxes.length) 0):=NC (n:=0) (by decide)
 have l0:ai Tryz.prog Gt (H1.push (u8c d)) 5 (.ptr (.box H1.boxes.length) 0)=some (u8v (bAt d 0)):=ld5 (ak _ _) hd0
 have st2:aA Tryz.prog (H1.push (u8c d)) 5 (.ptr (.box H1.boxes.length) 0) (u8v (bAt d 0&&&127))=some (H1.push (u8c (mask d))):=by
  rw[OR (ak _ _) (by rw[hcl];decide),Dy,gg]
 have hml:(mask d).length=32:=by unfold mask;rw[aca,hl]
 have hX:=ah.mk (x1.trans (Ext.push H1 (u8c (mask d))))
 have hB:=ak H1 (u8c (mask d))
 have hlt:=fun i hi=>Mv hd0 (i:=i) hi
 have kB:=ah.mk hB
 have klt:=ah.mk hlt
 have ke:=ah.mk he
 have kml:=ah.mk hml
 clear s hcl hl hB hlt he hml x1 hd0
 unfold im
 refine dL rfl Tryz.func78 rfl ?_
 refine gx2 @OY @Mw ?_
 refine aD (fun m e H=>∃i:Nat,i<=8/\m=8 - i/\e.get 5=.ptr (.box H1.boxes.length) 0/\e.get 14=.v (.int .i64 i)/\e.get 4=.v (.int .i64 (lT (mask d) i:Nat))/\e.defers=[]/\H=H1.push (u8c (mask d))) ?_ 8 _ _ ?_
 rotate_left 1
 ·refine⟨0,by decide,rfl,?_,?_,?_,?_,rfl⟩<;>(first|assumption|(exact gR))
 clear z177 st1 ix0 l0 st2 c1
 rintro m e H ⟨i,hi,rfl,g5,g14,g4,hd,rfl⟩
 by_cases h8:i=8
 ·subst h8
  have e1:(((lT (mask d) 8:Nat):Int)).tmod 1073741789=((mK d:Nat):Int):=by rw[<-ke.out];exact rE _ _
  generalize lT (mask d) 8=A at *
  repeat' (first|simp(maxSteps:=999999)(disch:=first|exact dZ|fail)only[gW,reduceIte,abn,gBQ,OY, *]|refine dX ?_ ?_<;>(intro _;try omega))
  exact⟨_,rfl,hX.out⟩
 ·have hlt:i<8:=by omega
  have a1:=klt.out i hlt
  have u1:=A7 (bAt (mask d) i)
  have ix:=NC (b:=H1.boxes.length) (n:=i) (k:=.i64) (by omega)
  have ld:ai Tryz.prog Gt (H1.push (u8c (mask d))) 5 (.ptr (.box H1.boxes.length) i)=some (.v (.int .u8 ((bAt (mask d) i).toNat:Nat))):=ld5 kB.out (by have:=kml.out;omega)
  have ew:IntKind.i64.wrap (((bAt (mask d) i).toNat:Nat):Int)=(((bAt (mask d) i).toNat:Nat):Int):=bT (by omega) (by omega)
  have s1:=fun t x y=>QQ (t:=t) (x:=x) (y:=y) a1
  have s2:=fun t x y=>ori (t:=t) (x:=x) (y:=y) a1 u1
  have kstep:=ah.mk (show lT (mask d) (i+1)=lT (mask d) i * 256+(bAt (mask d) i).toNat from rfl)
  generalize lT (mask d) i=A at *
  generalize (bAt (mask d) i).toNat=r at *
  repeat' (first|simp(maxSteps:=999999)(disch:=first|exact dZ|fail)only[gW,reduceIte,abn,gBQ,OY,QP, *]|refine dX ?_ ?_<;>(intro _;try omega))
  exact⟨8 - (i+1),by omega,i+1,by omega,rfl,by trivial,rfl,by rw[kstep.out],by trivial,by trivial⟩
end Go.Proofs.YtnfciiiohoafaaaGreatDoor
end
section
namespace Go.AE
structure Grown(n0:Nat)(h h':ae)(t:Tok):Prop where
 box:∀(b:Nat) (cs:List AV),h.boxes[b]?=some cs->h'.boxes[b]?=some cs
 loop:∀(l:Nat) (r:bE),h.loops[l]?=some r->h'.loops[l]?=some r
 can:bG n0 h' t
 ok:aZ h'=true
 tn:h.tn<=h'.tn
 dead:∀n,n<n0->n∈h'.dead->n∈h.dead
section
variable {n0:Nat} {h0 h h' h2:ae} {t k:Tok}
theorem Grown.refl(hk:bG n0 h k)(ho:aZ h=true):Grown n0 h h k:=⟨fun _ _ q=>q,fun _ _ q=>q,hk,ho,abq _,fun _ _ q=>q⟩
theorem Grown.trans(g:Grown n0 h h' t)(g2:Grown n0 h' h2 k):Grown n0 h h2 k:=
 ⟨fun b cs q=>g2.box b cs (g.box b cs q),fun b cs q=>g2.loop b cs (g.loop b cs q),g2.can,g2.ok,abT g.tn g2.tn,fun n hn q=>g.dead n hn (g2.dead n hn q)⟩
theorem Grown.ext(g:Grown n0 h h' t)(x:Ext h0 h)(hn:h0.tn<=n0):Ext h0 h':=
 ⟨fun b cs hb=>g.box b cs (x.box b cs hb),fun l r hl=>g.loop l r (x.loop l r hl),abT x.tn g.tn,fun n q hd=>x.dead n q (g.dead n (ab8 q hn) hd),fun _=>g.ok⟩
theorem OZ(ho:aZ h=true)(hk:bG n0 h k):aZ (h.app k)=true:=by
 unfold aZ at *
 rw[abE] at *
 intro n hn
 rcases hk with rfl|rfl|⟨m,rfl,-,ha⟩
 ·exact decide_eq_true (ac1 (of_decide_eq_true (ho n hn)))
 ·exact decide_eq_true (ac1 (of_decide_eq_true (ho n hn)))
 ·rcases acd.1 hn with rfl|q
  ·exact decide_eq_true (ac1 (gG ha))
  ·exact decide_eq_true (ac1 (of_decide_eq_true (ho n q)))
theorem Grown.one(hk:bG n0 h k)(ho:aZ h=true)(hn:n0<=h.tn):Grown n0 h (h.app k) (.free h.tn):=by
 refine⟨fun b cs q=>by rw[aT];exact q,fun b cs q=>by rw[ig];exact q,hk.next ho hn,OZ ho hk,by rw[uY];omega,fun n q hd=>?_⟩
 rcases hk with rfl|rfl|⟨m,rfl,hm,ha⟩
 ·exact hd
 ·exact hd
 ·rcases acd.1 hd with rfl|hd
  ·omega
  ·exact hd
theorem Grown.push(g:Grown n0 h h' t)(cs:List AV):Grown n0 h (h'.push cs) t:=⟨fun b cs q=>aj (g.box b cs q),g.loop,g.can,g.ok,g.tn,g.dead⟩
theorem Grown.app(g:Grown n0 h h' t)(hn:n0<=h.tn):Grown n0 h (h'.app t) (.free h'.tn):=g.trans (Grown.one g.can g.ok (abT hn g.tn))
variable {P:Program} {t0 t1 elem:TypeId} {i:TypeInfo} {sz:Nat} {es new:List (List AV)} {x:AV}
theorem lI(h0:P.underlying t0=some (.slice elem))(h1:(∃e,P.underlying t1=some (.slice e))∨P.underlying t1=some .string)(hi:P.info? elem=some i)(hsz:0<i.size)(hz:(i.zero.map fun z=>z.cells.size)=some i.size)
 (hx:eH h i.size x=some new) (hnew:new≠[]) (hb:(es.length+new.length) * i.bytes<=140737488355328) (hl:es.length+new.length<=9223372036854775807) (hs:sz=i.size∨(es=[]/\k=.nil)) (hk:bG n0 h k):
 bP P h #[t0,t1] (.list k sz es) x=some (.list (.free h.tn) i.size (es++new),h.app k):=by
 unfold bP
 rcases h1 with⟨e,h1⟩|h1
 all_goals
  simp only[abP,abN,ace,acu,h0,h1,hi,hx]
  rw[if_pos ⟨hsz,hz⟩,if_pos (hs.imp_right fun q=>q.1),if_neg hnew,if_pos ⟨hb,hl⟩]
  rcases hk with rfl|rfl|⟨m,rfl,-,ha⟩
  ·rfl
  ·rfl
  ·have hs:sz=i.size:=by
    rcases hs with hs|⟨-,hs⟩
    ·exact hs
    ·cases hs
   simp only[ha,hs,decide_true,Bool.and_self,if_true]
   rfl
theorem Bb(h0:P.underlying t0=some (.slice elem))(h1:(∃e,P.underlying t1=some (.slice e))∨P.underlying t1=some .string)(hi:P.info? elem=some i)(hsz:0<i.size)(hz:(i.zero.map fun z=>z.cells.size)=some i.size)
 (hx:eH h i.size x=some []) (hs:sz=i.size∨es=[]):bP P h #[t0,t1] (.list k sz es) x=some (.list k sz es,h):=by
 unfold bP
 rcases h1 with⟨e,h1⟩|h1
 ·simp only[abP,abN,ace,acu,h0,h1,hi,hx]
  rw[if_pos ⟨hsz,hz⟩,if_pos hs,if_pos trivial]
 ·simp only[abP,abN,ace,acu,h0,h1,hi,hx]
  rw[if_pos ⟨hsz,hz⟩,if_pos hs,if_pos trivial]
end
end Go.AE
end
