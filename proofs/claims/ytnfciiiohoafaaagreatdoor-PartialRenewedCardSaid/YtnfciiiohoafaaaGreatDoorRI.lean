/-
  Part of the proof: RI.
-/
import Derived.Test.YtnfciiiohoafaaaGreatDoorRH
import Derived.Test.YtnfciiiohoafaaaGreatDoorRG
import Derived.Test.YtnfciiiohoafaaaGreatDoorRF
open List renaming getElem?_eq_some_iff→aaL,mem_singleton→abC,take_succ_cons→abd,take_zero→abn,getElem?_eq_none→abB,getElem?_eq_getElem→aaM,map_append→abF,length_map→aaR,take_length→abl,length_pos_iff→ad4,mem_cons→abx,not_mem_nil→acD,map_cons→aa8,range→aaV,range_succ→abU,filter_append→acB,filter_cons→adD,mem_map→abE,mem_range→abf,take_of_length_le→aa3,all_eq_true→aa2,length_cons→abo,getElem?_map→aa0,getElem?_range→ace,getElem_mem→abj,length_take→aa6,ext_getElem?→abZ,mem_cons_self→aba,mem_cons_of_mem→aa5,mem_of_getElem?→aaY,map_congr_left→acs
open Nat renaming le_of_ble_eq_true→abb,reduceEqDiff→aaN,zero_le→aa4,lt_or_ge→aa9,le_refl→aaP
open And renaming intro→aaO
open Int renaming toNat_natCast→aa1,emod_nonneg→acX,emod_lt_of_pos→acz,emod_eq_of_lt→acp,mul_add→ad2,mul_sub→acS
open Bool renaming and_eq_true→aaQ,and_true→ac0,not_true→ad0,false_eq_true→abm
open Option renaming map_some→aa7
set_option maxHeartbeats 64000000
set_option maxRecDepth 100000
set_option linter.unusedSimpArgs false
set_option linter.unusedVariables false
set_option linter.constructorNameAsVariable false
section
namespace Go.Proofs.YtnfciiiohoafaaaGreatDoor
open Go.AE Go.NT
theorem jk{Hx:ae}{zb eb:Nat}{x y:AV}(hz:Hx.boxes[zb]?=some [x])(he:Hx.boxes[eb]?=some [y])(hne:zb≠eb)(n m:Int):
 aA Tryz.prog Hx 3 (.ptr (.box zb) 0) (.v (.int .i64 n))=some (Hx.put zb [.v (.int .i64 n)])/\ai Tryz.prog Gt Hx 32 (.ptr (.box eb) 0)=some y/\ai Tryz.prog Gt (Hx.put zb [.v (.int .i64 n)]) 32 (.ptr (.box eb) 0)=some y/\
  aA Tryz.prog (Hx.put zb [.v (.int .i64 n)]) 32 (.ptr (.box eb) 0) (.v (.int .i64 m))=some ((Hx.put zb [.v (.int .i64 n)]).put eb [.v (.int .i64 m)])/\
  ai Tryz.prog Gt ((Hx.put zb [.v (.int .i64 n)]).put eb [.v (.int .i64 m)]) 3 (.ptr (.box zb) 0)=some (.v (.int .i64 n))/\ai Tryz.prog Gt ((Hx.put zb [.v (.int .i64 n)]).put eb [.v (.int .i64 m)]) 32 (.ptr (.box eb) 0)=some (.v (.int .i64 m)):=by
 have hz1:=(aaL.1 hz).1
 have he1:=(aaL.1 he).1
 have q:(Hx.put zb [AV.v (.int .i64 n)]).boxes[eb]?=some [y]:=by rw[av (Ne.symm hne)];exact he
 have q2:((Hx.put zb [AV.v (.int .i64 n)]).put eb [AV.v (.int .i64 m)]).boxes[zb]?=some [.v (.int .i64 n)]:=by rw[av hne];exact aS hz1
 have q3:((Hx.put zb [AV.v (.int .i64 n)]).put eb [AV.v (.int .i64 m)]).boxes[eb]?=some [.v (.int .i64 m)]:=aS (by rw[dU];exact he1)
 exact⟨K5 hz,aQ DL he rfl,aQ DL q rfl,BV q,aQ ag3 q2 rfl,aQ DL q3 rfl⟩
def fN(rows:List (List Int))(owners:List Int)(ep:Int)(aa:List Int)(text:List UInt8)(l:List Pr)(ag:Int)(s:List (Int × Int))(d f:Int):Int × Int:=
 if cd rows owners ep aa text l≠0 then (0,cd rows owners ep aa text l) else rN rows owners aa text l ag s d f
theorem HH{rows:List (List Int)}{owners aa:List Int}{text:List UInt8}{l:List Pr}{ag:Int}{s:List (Int × Int)}{d f:Int}(h:gl l ag=none∨[d,f].all inQ=false):rN rows owners aa text l ag s d f=(0,1):=by
 unfold rN
 cases hp:gl l ag with
 |none=>rfl
 |some x=>
  rcases h with q|q
  ·rw[hp] at q;cases q
  ·have:(inQ d&&inQ f)=false:=by simpa using q
   simp only[this];rfl
theorem HI{rows:List (List Int)}{owners aa:List Int}{text:List UInt8}{l:List Pr}{ag:Int}{s:List (Int × Int)}{d f:Int}{x:Pr}(h:gl l ag=some x)(hq:[d,f].all inQ=true):rN rows owners aa text l ag s d f=
 if eQ rows owners aa ag s=false then (0,340) else if ¬((aY Gn d:Nat):Int)=x.d∨¬((aY Gn f:Nat):Int)=x.e then (0,420)
 else (cN (cN d (cq f (dP (at0 aa 0) text l ag))) (cq (aG (at0 aa 0) text l) (fh (aM rows owners l) s)),0):=by
 unfold rN
 have:(inQ d&&inQ f)=true:=by simpa using hq
 rw[h]
 simp only[this]
 cases eQ rows owners aa ag s<;>rfl
theorem Na(a b:Int):aN Tryz.prog 23 2 [(0,.v (.int .i64 a)),(1,.v (.int .i64 b))]=some (.list .tight 1 (ints [a,b])):=kZq
theorem PS(h:ae)(hok:aZ h=true)(ep:Int)(X Y C T L S:AV)(rows:List (List Int))(owners aa:List Int)(text:List UInt8)(l:List Pr)(s:List (Int × Int))(ag d f:Int)
 (hx:RL X rows) (hy:IL Y owners) (hc:IL C aa) (ht:BL T text) (hp:PL L l) (hs:SL S s) (hcl:aa.length<=1000000) (hll:l.length<=1000000) (hsl:s.length<=1000000):
 ∃r h',W5.call 20 [.agg (cI ep X Y C),T,L,.v (.int .i64 ag),S,.v (.int .i64 d),.v (.int .i64 f)] h=some (r,h')/\r=.ret (.tuple [.v (.int .i64 (fN rows owners ep aa text l ag s d f).1),.v (.int .i64 (fN rows owners ep aa text l ag s d f).2)]):=by
 have bx:=hY (ep:=ep) hx hy hc
 have bS:=hs.aC
 have zc:=R6
 have zp:=zK
 have z3:=Tp
 have z32:=R8
 obtain⟨h0,hh0⟩:∃h0,(((h.push (cI ep X Y C)).push [S]).push [.v (.int .i64 0)]).push [.v (.int .i64 0)]=h0:=⟨_,rfl⟩
 obtain⟨sb,hsb⟩:∃n,(h.push (cI ep X Y C)).boxes.length=n:=⟨_,rfl⟩
 obtain⟨zb,hzb⟩:∃n,((h.push (cI ep X Y C)).push [S]).boxes.length=n:=⟨_,rfl⟩
 obtain⟨eb,heb⟩:∃n,(((h.push (cI ep X Y C)).push [S]).push [.v (.int .i64 0)]).boxes.length=n:=⟨_,rfl⟩
 obtain⟨kb,hkb⟩:∃n,h.boxes.length=n:=⟨_,rfl⟩
 have o1:kb<sb/\sb<zb/\zb<eb:=by rw[<-hkb,<-hsb,<-hzb,<-heb];simp only[az];omega
 have gk:h0.boxes[kb]?=some (cI ep X Y C):=by rw[<-hh0,<-hkb];exact aj (aj (aj (ak _ _)))
 have gs:h0.boxes[sb]?=some [S]:=by rw[<-hh0,<-hsb];exact aj (aj (ak _ _))
 have gz:h0.boxes[zb]?=some [.v (.int .i64 0)]:=by rw[<-hh0,<-hzb];exact aj (ak _ _)
 have ge:h0.boxes[eb]?=some [.v (.int .i64 0)]:=by rw[<-hh0,<-heb];exact ak _ _
 have hok0:aZ h0=true:=by rw[<-hh0];exact hok
 obtain⟨r1,h1,c1,x1,post⟩:=zO h0 hok0 ep X Y C T L rows owners aa text l hx hy hc ht hp hcl hll
 have l0:ai Tryz.prog Gt h0 27 (.ptr (.box kb) 0)=some (.agg (cI ep X Y C)):=by
  rw[cP kZq (by kernel_rfl:bF Tryz.prog 27=some 4) gk (abb rfl)];rfl
 have kE1:ah (cd rows owners ep aa text l≠0->fN rows owners ep aa text l ag s d f=(0,cd rows owners ep aa text l)):=⟨fun q=>by unfold fN;rw[if_pos q]⟩
 have kE2:ah (cd rows owners ep aa text l=0->fN rows owners ep aa text l ag s d f=rN rows owners aa text l ag s d f):=⟨fun q=>by unfold fN;rw[if_neg (by simp[q])]⟩
 have kbo:=ah.mk (fun q=>@rU rows owners aa ep text l q)
 have kwt:=ah.mk (fun q=>@vT rows owners aa ep text l q)
 have kf:=ah.mk (aaO hx (aaO hy (aaO hc (aaO hp hs))))
 have gk1:=x1.box _ _ gk
 have gs1:=x1.box _ _ gs
 have gz1:=x1.box _ _ gz
 have ge1:=x1.box _ _ ge
 have hok1:=x1.ok hok0
 have lS:=hs.cH
 generalize fN rows owners ep aa text l ag s d f=res at *
 generalize cd rows owners ep aa text l=be at *
 have hle1:=(aaL.1 ge1).1
 clear hx hy hc ht hp hs x1 gk gs gz ge hok0 hok
 refine aL rfl Tryz.func20 rfl ?_
 rcases post with⟨q,rfl⟩|⟨q,c,Wt,rfl,hWt,w⟩
 ·have kr:=ah.mk (kE1.out q)
  have stn:aA Tryz.prog (h1.push [.v (.pointer none)]) 90 (.ptr (.box h1.boxes.length) 0) (.v (.pointer none))=some (h1.push [.v (.pointer none)]):=cQ rfl kZq rfl rfl
  have ste:aA Tryz.prog (h1.push [.v (.pointer none)]) 32 (.ptr (.box eb) 0) (.v (.int .i64 be))=some ((h1.push [.v (.pointer none)]).put eb [.v (.int .i64 be)]):=BV (aj ge1)
  obtain⟨a1,a2,a3,a4,a5,a6⟩:=jk (Hx:=(h1.push [.v (.pointer none)]).put eb [.v (.int .i64 be)]) (zb:=zb) (eb:=eb) (x:=.v (.int .i64 0)) (y:=.v (.int .i64 be)) (by rw[av (by omega)];exact aj gz1) (aS (by rw[az];omega)) (by omega) 0 be
  clear kE1 kE2 kbo kwt gk1 gs1 gz1 ge1 hok1
  refine gx2 @jO @aw ?_
  refine bU [(0,1)] gM kZq (fun p hp=>?_) ?_
  ·simp only[abC] at hp
   subst hp
   refine dH (x:=.ptr (.box eb) 0) (v:=.v (.int .i64 be)) kZq rfl rfl rfl kZq (by simp[cB,gB]) ?_ ?_<;>(simp only[abd,abn];exact gz2 @jO @and_self)
  refine gx1 @jO ?_
  exact⟨_,_,rfl,by rw[kr.out]⟩
 obtain⟨p1,p2,p3,p4,p5,p6⟩:=kbo.out q
 obtain⟨y,w1,w2,w3⟩:=kwt.out q
 have hres:=kE2.out q
 have hchk:=BX p1 p2 p3
 subst q
 clear kE1 kE2 kbo kwt
 obtain⟨h2,hh2⟩:∃h2,h1.push [.ptr (.box c) 0]=h2:=⟨_,rfl⟩
 obtain⟨wb,hwb⟩:∃n,h1.boxes.length=n:=⟨_,rfl⟩
 have stn:aA Tryz.prog (h1.push [.v (.pointer none)]) 90 (.ptr (.box wb) 0) (.ptr (.box c) 0)=some h2:=by rw[<-hh2,<-hwb];exact K3 c
 have gk2:h2.boxes[kb]?=some (cI ep X Y C):=by rw[<-hh2];exact aj gk1
 have gs2:h2.boxes[sb]?=some [S]:=by rw[<-hh2];exact aj gs1
 have gz2:h2.boxes[zb]?=some [.v (.int .i64 0)]:=by rw[<-hh2];exact aj gz1
 have ge2:h2.boxes[eb]?=some [.v (.int .i64 0)]:=by rw[<-hh2];exact aj ge1
 have gw2:h2.boxes[wb]?=some [.ptr (.box c) 0]:=by rw[<-hh2,<-hwb];exact ak _ _
 have ste:aA Tryz.prog h2 32 (.ptr (.box eb) 0) (.v (.int .i64 0))=some h2:=by rw[BV ge2,ec ge2]
 have le2:ai Tryz.prog Gt h2 32 (.ptr (.box eb) 0)=some (.v (.int .i64 0)):=aQ DL ge2 rfl
 have lw2:ai Tryz.prog Gt h2 90 (.ptr (.box wb) 0)=some (.ptr (.box c) 0):=aQ wN gw2 rfl
 have W2:lQ h2 c ep X Y C T L Wt ((dA (at0 aa 0) text l:Nat):Int) ((aG (at0 aa 0) text l:Nat):Int) aa text l:=by rw[<-hh2];exact w.mono (.push _ _)
 have hok2:aZ h2=true:=by rw[<-hh2];exact hok1
 obtain⟨b,vr,w4,-⟩:=W2.dF
 obtain⟨_,h3,c2,x3,post⟩:=KW h2 c _ L l ag [d,f] (.list .tight 1 (ints [d,f])) w4 rfl kf.out.2.2.2.1 hll ⟨_,_,rfl,fun _=>rfl⟩ (by simp)
 have bl:=Na d f
 have hwbe:eb<wb:=by rw[<-hwb];exact hle1
 clear w4 w gk1 gs1 gz1 ge1 hok1 hle1
 have gz3:=x3.box _ _ gz2
 have ge3:=x3.box _ _ ge2
 rcases post with⟨q,rfl⟩|⟨x,q1,q2,rfl⟩
 ·have kr:=ah.mk (hres.trans (HH q))
  have sq:=oV (H:=h3) ⟨0,0,0,0⟩
  have se:aA Tryz.prog (h3.push (aq ⟨0,0,0,0⟩)) 32 (.ptr (.box eb) 0) (.v (.int .i64 1))=some ((h3.push (aq ⟨0,0,0,0⟩)).put eb [.v (.int .i64 1)]):=BV (aj ge3)
  obtain⟨a1,a2,a3,a4,a5,a6⟩:=jk (Hx:=(h3.push (aq ⟨0,0,0,0⟩)).put eb [.v (.int .i64 1)]) (zb:=zb) (eb:=eb) (x:=.v (.int .i64 0)) (y:=.v (.int .i64 1)) (by rw[av (by omega)];exact aj gz3) (aS (by rw[az];have:=(aaL.1 ge3).1;omega)) (by omega) 0 1
  clear hres q W2 x3 gk2 gs2 gz2 ge2 gw2 hok2 gz3 ge3 p1 p2 p3 p6 w1 w2 w3 hchk hWt
  repeat' (first|simp(maxSteps:=999999)(disch:=first|exact dZ|fail)only[gW,reduceIte,aaN,gBQ,jO,aw, *]|refine dX ?_ ?_<;>(intro _;try omega))
  refine bU [(0,1)] gM kZq (fun p hp=>?_) ?_
  ·simp only[abC] at hp
   subst hp
   refine dH (x:=.ptr (.box eb) 0) (v:=.v (.int .i64 1)) kZq rfl rfl rfl kZq (by simp[cB,gB]) ?_ ?_<;>(simp only[abd,abn];exact gz2 @jO @and_self)
  refine gx1 @jO ?_
  exact⟨_,_,rfl,by rw[kr.out]⟩
 rw[HI q1 q2] at hres
 obtain⟨hxl,hxk⟩:=EY q1
 have hm:=iy p6 x hxl
 have sq:=oV (H:=h3) x
 obtain⟨h4,hh4⟩:∃h4,h3.push (aq x)=h4:=⟨_,rfl⟩
 obtain⟨pb,hpb⟩:∃n,h3.boxes.length=n:=⟨_,rfl⟩
 rw[hh4,hpb] at sq
 have o3:wb<pb:=by
  have z1:=(aaL.1 gw2).1
  have z2:=x3.len
  omega
 have X4:Ext h2 h4:=by rw[<-hh4];exact x3.trans (.push _ _)
 have gk4:=X4.box _ _ gk2
 have gs4:=X4.box _ _ gs2
 have gz4:=X4.box _ _ gz2
 have ge4:=X4.box _ _ ge2
 have gw4:=X4.box _ _ gw2
 have gp4:h4.boxes[pb]?=some (aq x):=by rw[<-hh4,<-hpb];exact ak _ _
 have W4':=W2.mono X4
 have ste4:aA Tryz.prog h4 32 (.ptr (.box eb) 0) (.v (.int .i64 0))=some h4:=by rw[BV ge4,ec ge4]
 have le4:ai Tryz.prog Gt h4 32 (.ptr (.box eb) 0)=some (.v (.int .i64 0)):=aQ DL ge4 rfl
 obtain⟨h5,hh5⟩:∃h5,(h4.push [.v (.int .i64 0)]).push [.v (.int .i64 0)]=h5:=⟨_,rfl⟩
 obtain⟨sumb,hsumb⟩:∃n,h4.boxes.length=n:=⟨_,rfl⟩
 obtain⟨ib,hib⟩:∃n,(h4.push [.v (.int .i64 0)]).boxes.length=n:=⟨_,rfl⟩
 have o2:pb<sumb/\sumb<ib:=by
  refine⟨?_,by rw[<-hsumb,<-hib,az];omega⟩
  rw[<-hsumb];exact(aaL.1 gp4).1
 have gsum5:h5.boxes[sumb]?=some [.v (.int .i64 0)]:=by rw[<-hh5,<-hsumb];exact aj (ak _ _)
 have gib5:h5.boxes[ib]?=some [.v (.int .i64 0)]:=by rw[<-hh5,<-hib];exact ak _ _
 have X5:Ext h4 h5:=by rw[<-hh5];exact(Ext.push _ _).trans (.push _ _)
 have st5a:aA Tryz.prog h5 3 (.ptr (.box sumb) 0) (.v (.int .i64 0))=some h5:=by rw[K5 gsum5,ec gsum5]
 have st5b:aA Tryz.prog h5 3 (.ptr (.box ib) 0) (.v (.int .i64 0))=some h5:=by rw[K5 gib5,ec gib5]
 have gw5:=X5.box _ _ gw4
 have lw5:ai Tryz.prog Gt h5 90 (.ptr (.box wb) 0)=some (.ptr (.box c) 0):=aQ wN gw5 rfl
 have c3:=KX h5 c ag
 obtain⟨h6,hh6⟩:∃h6,(h5.push [.ptr (.box c) 0]).push [.v (.int .i64 ag)]=h6:=⟨_,rfl⟩
 rw[hh6] at c3
 have X6:Ext h4 h6:=by rw[<-hh6];exact X5.trans ((Ext.push _ _).trans (.push _ _))
 have gsum6:h6.boxes[sumb]?=some [.v (.int .i64 0)]:=by rw[<-hh6];exact aj (aj gsum5)
 have gib6:h6.boxes[ib]?=some [.v (.int .i64 0)]:=by rw[<-hh6];exact aj (aj gib5)
 have ga6:h6.boxes[h5.boxes.length]?=some [.ptr (.box c) 0]:=by rw[<-hh6];exact aj (ak _ _)
 have gb6:h6.boxes[h5.boxes.length+1]?=some [.v (.int .i64 ag)]:=by rw[<-hh6];exact cD (by rw[az])
 have l5:sumb<h5.boxes.length/\ib<h5.boxes.length:=⟨(aaL.1 gsum5).1,(aaL.1 gib5).1⟩
 have kall:=ah.mk (aaO hres (aaO hxk (aaO hm (aaO w2 (aaO w3 hWt)))))
 have kprog:=ah.mk (aaO p1 (aaO p3 hchk))
 have gk6:=X6.box _ _ gk4
 have gs6:=X6.box _ _ gs4
 have gz6:=X6.box _ _ gz4
 have ge6:=X6.box _ _ ge4
 have gw6:=X6.box _ _ gw4
 have gp6:=X6.box _ _ gp4
 have W6':=W4'.mono X6
 have kst:=ah.mk (aaO gk6 (aaO gs6 (aaO gz6 (aaO ge6 (aaO gw6 (aaO gp6 W6'))))))
 have sumv:sumb<h4.boxes.length+1:=by omega
 have kxl:=hxl
 clear hres hxk hm w1 w2 w3 hWt p1 p3 hchk gk6 gs6 gz6 ge6 gw6 gp6 W6' W4' W2 gk4 gs4 gz4 ge4 gw4 gp4 gk2 gs2 gz2 ge2 gw2 gz3 ge3 q1 q2 hxl x3 X4 X5 gw5 gsum5 gib5 hok2 p2 p6 sumv
 refine gx2 @jO @aw ?_
 refine Run.gen fun e4 he4 hd4 hp4 hr4=>?_
 have f5:e4.get 5=.v (.int .i64 d):=by rw[he4];exact gS
 have f6:e4.get 6=.v (.int .i64 f):=by rw[he4];exact gS
 have f7:e4.get 7=.ptr (.box kb) 0:=by rw[he4];exact gS
 have f11:e4.get 11=.ptr (.box sb) 0:=by rw[he4];exact gS
 have f14:e4.get 14=.ptr (.box zb) 0:=by rw[he4];exact gS
 have f15:e4.get 15=.ptr (.box eb) 0:=by rw[he4];exact gS
 have f16:e4.get 16=.ptr (.box wb) 0:=by rw[he4];exact gS
 have f17:e4.get 17=.ptr (.box pb) 0:=by rw[he4];exact gS
 have f18:e4.get 18=.ptr (.box sumb) 0:=by rw[he4];exact gS
 have f19:e4.get 19=.ptr (.box ib) 0:=by rw[he4];exact gS
 have f47:e4.get 47=.func (.func 128) [] [.ptr (.box h5.boxes.length) 0,.ptr (.box (h5.boxes.length+1)) 0]:=by rw[he4];exact gS
 have fd:e4.defers=[]:=by rw[hd4];exact gS
 clear he4 hd4 hp4 hr4 c1 c2 c3 l0 lS bl stn ste le2 lw2 sq ste4 le4 st5a st5b lw5 zc zp z3 z32 bx bS hh0 hsb hzb heb hkb hh2 hwb hh4 hpb hh5 hsumb hib hh6
 obtain⟨gk6,gs6,gz6,ge6,gw6,gp6,W6⟩:=kst.out
 obtain⟨p1,p3,hchk⟩:=kprog.out
 obtain⟨hres,hxk,hm,w2,w3,hWt⟩:=kall.out
 have kW:=ah.mk W6
 clear kst kprog kall W6
 obtain⟨og1,og2,og3,og4⟩:=fk p1
 have hxr:aZ h6=aZ h6:=rfl
 refine kD (by rw[lv];exact f47) fun rec v1 v2 v3 v4 v5 v6=>?_
 have hlr:(h6.loop rec).loops[h6.loops.length]?=some rec:=@kC h6 rec
 have feed:=yd h6.loops.length h5.boxes.length (h5.boxes.length+1) c Y owners ag (K6 (h6.loop rec) h6.loops.length rec sumb ib zb eb rows owners aa (aM rows owners l) ag s)
  (fun H=>BW h6.loops.length rec zb eb H/\eQ rows owners aa ag s=false) kf.out.2.1 (by omega)
  (fun k H q=>by
   obtain⟨b6,vr6,z1,-⟩:=kW.out.dF
   refine⟨q.old _ _ ga6 (by omega) (by omega),q.old _ _ gb6 (by omega) (by omega),_,q.old _ _ z1 (fun e=>?_) (fun e=>?_),rfl⟩
   ·rw[e] at z1;rw[gsum6] at z1;unfold dQ at z1;simp at z1
   ·rw[e] at z1;rw[gib6] at z1;unfold dQ at z1;simp at z1)
  ?_
  (fun k H hk hc q=>⟨q.lp,q.old,by rw[lR hc];exact q.sum,by rw[lR hc];exact q.ix,by rw[lR hc];exact q.le,by rw[lR hc];exact q.same,by rw[lR hc];exact q.ok⟩)
  (h6.loop rec) ⟨hlr,fun a cs ha _ _=>ha,gsum6,gib6,aa4 _,by simp[cA],by simp[cA]⟩
 rotate_left 1
 ·intro k H hk hc q
  have hlH:=q.lp
  suffices hs:∃b H',W5.round h6.loops.length [.v (.int .i64 (k:Nat))] H=some (.ret (.v (.bool b)),H')/\if b=true then K6 (h6.loop rec) h6.loops.length rec sumb ib zb eb rows owners aa (aM rows owners l) ag s (k+1) H' else (BW h6.loops.length rec zb eb H'/\eQ rows owners aa ag s=false) by
   obtain⟨b,H',q1,q2⟩:=hs
   cases b with
   |true=>exact .inl ⟨H',q1,q2⟩
   |false=>exact .inr ⟨H',q1,q2⟩
  refine Hw (Post:=fun b H'=>if b=true then K6 (h6.loop rec) h6.loops.length rec sumb ib zb eb rows owners aa (aM rows owners l) ag s (k+1) H' else (BW h6.loops.length rec zb eb H'/\eQ rows owners aa ag s=false)) hlH (by rw[v2];rfl) v5 v6 ?_
  have r1:∀t,(dD h6.loops.length rec [.v (.int .i64 (k:Nat))]).get t=if 48=t then .v (.int .i64 (k:Nat)) else e4.get t:=fun t=>rm v2 v1
  have d1:(dD h6.loops.length rec [.v (.int .i64 (k:Nat))]).defers=[]:=rfl
  obtain⟨K,hK⟩:∃K,H.busy h6.loops.length rec=K:=⟨_,rfl⟩
  have hKb:∀a:Nat,K.boxes[a]?=H.boxes[a]?:=fun a=>by rw[<-hK];rfl
  have hKl:K.loops[h6.loops.length]?=some {rec with state:=.busy}:=by
   rw[<-hK]
   have:=(aaL.1 hlH).1
   show(H.loops.set _ _)[_]?=_
   simp[this]
  have og:∀(a:Nat) (cs:List AV),h6.boxes[a]?=some cs->a≠sumb->a≠ib->K.boxes[a]?=some cs:=fun a cs ha n1 n2=>by rw[hKb];exact q.old a cs ha n1 n2
  have hkK:=og _ _ gk6 (by omega) (by omega)
  have hsK:=og _ _ gs6 (by omega) (by omega)
  have hzK:=og _ _ gz6 (by omega) (by omega)
  have heK:=og _ _ ge6 (by omega) (by omega)
  have hwK:=og _ _ gw6 (by omega) (by omega)
  have hsumK:=(hKb sumb).trans q.sum
  have hibK:=(hKb ib).trans q.ix
  have hle:=q.le
  have lib:ai Tryz.prog Gt K 3 (.ptr (.box ib) 0)=some (.v (.int .i64 ((cA owners ag k).length:Nat))):=aQ ag3 hibK rfl
  have lsb:ai Tryz.prog Gt K 36 (.ptr (.box sb) 0)=some S:=aQ M9 hsK rfl
  have lSn:=kf.out.2.2.2.2.cH
  obtain⟨a1,a2,a3,a4,a5,a6⟩:=jk hzK heK (by omega) 0 340
  have hzl:=(aaL.1 hzK).1
  have hel:=(aaL.1 heK).1
  have kstop:ah (∀(K2:ae),K2.loops[h6.loops.length]?=some {rec with state:=.busy}->zb<K2.boxes.length->eb<K2.boxes.length->BW h6.loops.length rec zb eb (((K2.put zb [.v (.int .i64 0)]).put eb [.v (.int .i64 340)]).bh h6.loops.length {rec with state:=.done,pending:=some .ret})):=⟨fun K2 q1 q2 q3=>by
   have hll:=(aaL.1 q1).1
   refine⟨rl hll,?_,?_⟩
   ·show((K2.put zb [.v (.int .i64 0)]).put eb [.v (.int .i64 340)]).boxes[zb]?=_
    rw[av (by omega)];exact aS q2
   ·show((K2.put zb [.v (.int .i64 0)]).put eb [.v (.int .i64 340)]).boxes[eb]?=_
    exact aS (by rw[dU];exact q3)⟩
  have kown:=ah.mk (fun q=>@K4 rows owners aa ag s q k hk hc)
  have kq:=ah.mk q
  have kog:=ah.mk og
  obtain⟨Q,hQ⟩:∃Q:Xt->ae->Prop,Q=fun o h2=>h2.loops[h6.loops.length]?=some {rec with state:=.busy}/\
   ((o=.normal/\K6 (h6.loop rec) h6.loops.length rec sumb ib zb eb rows owners aa (aM rows owners l) ag s (k+1) (h2.bh h6.loops.length rec))∨(o=.ret/\BW h6.loops.length rec zb eb (h2.bh h6.loops.length {rec with state:=.done,pending:=some .ret})/\eQ rows owners aa ag s=false)):=⟨_,rfl⟩
  have kQs:ah (∀(K2:ae),K2.loops[h6.loops.length]?=some {rec with state:=.busy}->zb<K2.boxes.length->eb<K2.boxes.length->eQ rows owners aa ag s=false->Q .ret ((K2.put zb [.v (.int .i64 0)]).put eb [.v (.int .i64 340)])):=⟨fun K2 z1 z2 z3 z4=>by
   rw[hQ];exact⟨z1,.inr ⟨rfl,kstop.out K2 z1 z2 z3,z4⟩⟩⟩
  have kQn:ah (∀(K2:ae),K2.loops[h6.loops.length]?=some {rec with state:=.busy}->K6 (h6.loop rec) h6.loops.length rec sumb ib zb eb rows owners aa (aM rows owners l) ag s (k+1) (K2.bh h6.loops.length rec)->Q .normal K2):=⟨fun K2 z1 z2=>by
   rw[hQ];exact⟨z1,.inl ⟨rfl,z2⟩⟩⟩
  rw[hK]
  suffices hrun:Run W5 rec.assign (dD h6.loops.length rec [.v (.int .i64 (k:Nat))]) H (fun o e1 h1=>o=.normal/\h1=H/\Run W5 rec.body e1 K (fun o _ h2=>Q o h2)) by
   obtain⟨o,e1,hh,z1,z2,z3,o',e2,h2',z4,z5⟩:=hrun
   refine⟨o,e1,hh,z1,z2,z3,o',e2,h2',z4,?_⟩
   rw[hQ] at z5
   obtain⟨z5,z6⟩:=z5
   refine⟨z5,?_⟩
   rcases z6 with⟨y1,y2⟩|⟨y1,y2⟩
   ·exact .inl ⟨y1,y2⟩
   ·exact .inr ⟨y1,y2⟩
  clear hQ kstop
  rw[v3,v4]
  rcases aa9 (cA owners ag k).length s.length with hlt|hge
  rotate_left 1
  ·have hie:(cA owners ag k).length=s.length:=by omega
   have hno:eQ rows owners aa ag s=false:=by
    cases ho:eQ rows owners aa ag s with
    |false=>rfl
    |true=>
     obtain⟨p,z1,-⟩:=kown.out ho
     rw[abB (by omega)] at z1;cases z1
   have dd:decide ((((cA owners ag k).length:Nat):Int)=(s.length:Int))=true:=decide_eq_true (by omega)
   have kfin:=ah.mk (kQs.out K hKl hzl hel hno)
   clear hie hno hge hle q og hlH hK hKb hKl hkK hsK hzK heK hwK hsumK hibK v1 v2 v3 v4 v5 v6 kQs kQn
   generalize (cA owners ag k).length=i at *
   refine gx0 ?_
   exact⟨trivial,trivial,kfin.out⟩
  obtain⟨p,hp⟩:∃p,s[(cA owners ag k).length]?=some p:=⟨_,aaM hlt⟩
  have dd:decide ((((cA owners ag k).length:Nat):Int)=(s.length:Int))=false:=decide_eq_false (by omega)
  have ixS:=kf.out.2.2.2.2.ix hlt
  have ls0:=NR (H:=K) (s:=2) hp
  by_cases hrow:p.1=((k:Nat):Int)
  rotate_left 1
  ·have hno:eQ rows owners aa ag s=false:=by
    cases ho:eQ rows owners aa ag s with
    |false=>rfl
    |true=>
     obtain⟨p',z1,z2,-⟩:=kown.out ho
     rw[hp] at z1;injection z1 with z1;subst z1
     exact absurd z2 hrow
   have dr:decide (p.1=((k:Nat):Int))=false:=decide_eq_false hrow
   have kfin:=ah.mk (kQs.out K hKl hzl hel hno)
   clear hno hlt hle q og hlH hK hKb hKl hkK hsK hzK heK hwK hsumK hibK v1 v2 v3 v4 v5 v6 kQs kQn hp hrow
   generalize (cA owners ag k).length=i at *
   refine gx1 @wM ?_
   exact⟨trivial,trivial,kfin.out⟩
  have hkr:k<rows.length:=by omega
  have dr:decide (((k:Nat):Int)=((k:Nat):Int))=true:=decide_eq_true rfl
  obtain⟨pr,pv⟩:=p
  simp only at hrow
  subst hrow
  obtain⟨_,K2,cf,rfl,xf⟩:=PF K X Y C rows owners aa kf.out.1 kf.out.2.1 kf.out.2.2.1 hcl ((k:Nat):Int) pv
  have lk1:ai Tryz.prog Gt K 25 (.ptr (.box kb) 1)=some (.agg [X,Y]):=by
   rw[cP G9 (by kernel_rfl:bF Tryz.prog 25=some 2) hkK (abb rfl)];rfl
  have lk3:ai Tryz.prog Gt K 23 (.ptr (.box kb) 3)=some C:=aQ mo hkK rfl
  have ls81:=PI (H:=K) (s:=2) hp
  have hK2l:=xf.loop _ _ hKl
  have hz2:=xf.box _ _ hzK
  have he2:=xf.box _ _ heK
  rcases DZ (v:=pv) hchk hkr with⟨so,fo⟩|⟨so,fo⟩
  rotate_left 1
  ·have hno:eQ rows owners aa ag s=false:=by
    cases ho:eQ rows owners aa ag s with
    |false=>rfl
    |true=>
     obtain⟨p',z1,z2,z3⟩:=kown.out ho
     rw[hp] at z1;injection z1 with z1;subst z1
     rw[so] at z3;cases z3
   have kfin:=ah.mk (kQs.out K2 hK2l (aaL.1 hz2).1 (aaL.1 he2).1 hno)
   obtain⟨t1,t2,t3,t4,t5,t6⟩:=jk hz2 he2 (by omega) 0 340
   clear hno hlt hle q og hlH hK hKb hKl hkK hsK hzK heK hwK hsumK hibK v1 v2 v3 v4 v5 v6 kQs kQn hp a1 a2 a3 a4 a5 a6 xf hz2 he2 hK2l so
   unfold im at cf
   rcases fo with fo|fo
   ·rw[fo] at cf
    clear fo
    generalize (cA owners ag k).length=i at *
    refine gx3 @wM @dS @fF ?_
    refine⟨trivial,trivial,?_⟩
    refine bf gM kZq ?_
    repeat' (first|simp(maxSteps:=999999)(disch:=first|exact dZ|fail)only[gW,reduceIte,aaN,gBQ,wM,dS,fF, *]|refine dX ?_ ?_<;>(intro _;try omega))
    exact kfin.out
   ·rw[fo] at cf
    clear fo
    generalize (cA owners ag k).length=i at *
    refine gx3 @wM @dS @fF ?_
    refine⟨trivial,trivial,?_⟩
    refine bf gM kZq ?_
    refine gx3 @wM @dS @fF ?_
    exact kfin.out
  rw[fo] at cf
  have hw2:=xf.box _ _ hwK
  have hs2:=xf.box _ _ hsK
  have hsum2:=xf.box _ _ hsumK
  have hib2:=xf.box _ _ hibK
  obtain⟨b6,vr6,z1,-⟩:=kW.out.dF
  have hcs:c≠sumb:=fun e=>by rw[e] at z1;rw[gsum6] at z1;unfold dQ at z1;simp at z1
  have hci:c≠ib:=fun e=>by rw[e] at z1;rw[gib6] at z1;unfold dQ at z1;simp at z1
  have hcK:=xf.box _ _ (og _ _ z1 hcs hci)
  have lwb:ai Tryz.prog Gt K2 90 (.ptr (.box wb) 0)=some (.ptr (.box c) 0):=aQ wN hw2 rfl
  have lWt:ai Tryz.prog Gt K2 23 (.ptr (.box c) 6)=some Wt:=aQ mo hcK rfl
  have ixW:=hWt.ix (i:=k) (by rw[w2,w3];exact hkr)
  have lWk:=ldi (H:=K2) (l:=aM rows owners l) (i:=k) (s:=1) (by rw[w2,w3];exact hkr)
  have lsb2:ai Tryz.prog Gt K2 36 (.ptr (.box sb) 0)=some S:=aQ M9 hs2 rfl
  have lib2:ai Tryz.prog Gt K2 3 (.ptr (.box ib) 0)=some (.v (.int .i64 ((cA owners ag k).length:Nat))):=aQ ag3 hib2 rfl
  have lsum2:ai Tryz.prog Gt K2 3 (.ptr (.box sumb) 0)=some (.v (.int .i64 (fh (aM rows owners l) (s.take (cA owners ag k).length)))):=aQ ag3 hsum2 rfl
  have ls1:=RV (H:=K2) (s:=2) hp
  have cm:=KH (at0 (aM rows owners l) k) pv
  have ca:=MT (fh (aM rows owners l) (s.take (cA owners ag k).length)) (cq (at0 (aM rows owners l) k) pv)
  have hst:=HG (y:=aM rows owners l) hp
  simp only[aa1] at hst
  rw[<-hst] at ca
  have stS:=K5 (n:=fh (aM rows owners l) (s.take ((cA owners ag k).length+1))) hsum2
  have hib3:(K2.put sumb [.v (.int .i64 (fh (aM rows owners l) (s.take ((cA owners ag k).length+1))))]).boxes[ib]?=some [.v (.int .i64 ((cA owners ag k).length:Nat))]:=by rw[av (by omega)];exact hib2
  have lib3:ai Tryz.prog Gt (K2.put sumb [.v (.int .i64 (fh (aM rows owners l) (s.take ((cA owners ag k).length+1))))]) 3 (.ptr (.box ib) 0)=some (.v (.int .i64 ((cA owners ag k).length:Nat))):=aQ ag3 hib3 rfl
  have stI:=K5 (n:=(((cA owners ag k).length+1:Nat):Int)) hib3
  have hcast:(((cA owners ag k).length+1:Nat):Int)=((cA owners ag k).length:Int)+1:=by omega
  have kfin:=ah.mk (kQn.out ((K2.put sumb [.v (.int .i64 (fh (aM rows owners l) (s.take ((cA owners ag k).length+1))))]).put ib [.v (.int .i64 (((cA owners ag k).length+1:Nat):Int))]) hK2l (by
   have hll:=(aaL.1 hK2l).1
   have hsl2:=(aaL.1 hsum2).1
   have hil2:=(aaL.1 hib2).1
   have hlen:(cA owners ag (k+1)).length=(cA owners ag k).length+1:=by rw[mZ hc];simp
   refine⟨rl hll,fun a cs ha n1 n2=>?_,?_,?_,by omega,?_,?_⟩
   ·show((K2.put sumb _).put ib _).boxes[a]?=_
    rw[av n2,av n1]
    exact xf.box _ _ (by rw[hKb];exact q.old a cs ha n1 n2)
   ·show((K2.put sumb _).put ib _).boxes[sumb]?=_
    rw[av (by omega),hlen];exact aS hsl2
   ·show((K2.put sumb _).put ib _).boxes[ib]?=_
    rw[hlen];exact aS (by rw[dU];exact hil2)
   ·rw[hlen,a9 hp,abF,q.same,mZ hc,abF];rfl
   ·rw[hlen,a9 hp,List.all_append,q.ok,Bool.true_and];simp[so]))
  clear hle q og hlH hK hKb hKl hkK hsK hzK heK hwK hsumK hibK v1 v2 v3 v4 v5 v6 kQs kQn hp a1 a2 a3 a4 a5 a6 xf hz2 he2 hK2l so fo hw2 hs2 hsum2 hib2 hib3 hcK z1 hst w2 w3
  unfold im at *
  generalize (cA owners ag k).length=i at *
  generalize fh (aM rows owners l) (s.take i)=sv at *
  generalize fh (aM rows owners l) (s.take (i+1))=sv2 at *
  generalize cq (at0 (aM rows owners l) k) pv=mv at *
  generalize at0 (aM rows owners l) k=wv at *
  rw[hcast] at stI kfin
  refine gx3 @wM @dS @fF ?_
  refine⟨trivial,trivial,?_⟩
  refine bf gM kZq ?_
  refine gx4 @wM @RW @dS @fF ?_
  refine bf gM kZq ?_
  refine gx3 @wM @RW @qH ?_
  exact kfin.out
 ·obtain⟨Hf,cF,hF⟩:=feed
  rcases hF with q|⟨q,hno⟩
  rotate_left 1
  ·have hres2:res=(0,340):=by rw[hres,if_pos hno]
   have kr:=ah.mk hres2
   refine⟨_,_,cF,_,q.lp,(show LoopState.done≠ .busy by decide),.inr ⟨rfl,?_⟩⟩
   have qz:(Hf.bh h6.loops.length {rec with state:=.exhausted,pending:=some .ret}).boxes[zb]?=some [.v (.int .i64 0)]:=q.z
   have qe:(Hf.bh h6.loops.length {rec with state:=.exhausted,pending:=some .ret}).boxes[eb]?=some [.v (.int .i64 340)]:=q.e
   have lz:ai Tryz.prog Gt (Hf.bh h6.loops.length {rec with state:=.exhausted,pending:=some .ret}) 3 (.ptr (.box zb) 0)=some (.v (.int .i64 0)):=aQ ag3 qz rfl
   have le:ai Tryz.prog Gt (Hf.bh h6.loops.length {rec with state:=.exhausted,pending:=some .ret}) 32 (.ptr (.box eb) 0)=some (.v (.int .i64 340)):=aQ DL qe rfl
   clear cF q hno hres hres2 kf kW gk6 gs6 gz6 ge6 gw6 gp6 ga6 gb6 gsum6 gib6 hm w2 w3 hWt p1 p3 hchk og1 og2 og3 og4 hlr v1 v2 v3 v4 v5 v6 qz qe hxk
   refine gx1 @jO ?_
   exact⟨_,_,rfl,by rw[kr.out]⟩
  refine⟨_,_,cF,_,q.lp,by rw[v5];decide,.inl ⟨v6,?_⟩⟩
  obtain⟨HF,hHF⟩:∃HF,Hf.bh h6.loops.length {rec with state:=.exhausted}=HF:=⟨_,rfl⟩
  have hbx:∀a:Nat,HF.boxes[a]?=Hf.boxes[a]?:=fun a=>by rw[<-hHF];rfl
  have og:∀(a:Nat) (cs:List AV),h6.boxes[a]?=some cs->a≠sumb->a≠ib->HF.boxes[a]?=some cs:=fun a cs ha n1 n2=>by rw[hbx];exact q.old a cs ha n1 n2
  have hsF:=og _ _ gs6 (by omega) (by omega)
  have hzF:=og _ _ gz6 (by omega) (by omega)
  have heF:=og _ _ ge6 (by omega) (by omega)
  have hwF:=og _ _ gw6 (by omega) (by omega)
  have hpF:=og _ _ gp6 (by omega) (by omega)
  have hsumF:=(hbx sumb).trans q.sum
  have hibF:=(hbx ib).trans q.ix
  have hle:=q.le
  have hsame:=q.same
  have hokk:=q.ok
  rw[pH] at hsumF hibF hle hsame hokk
  rw[hHF]
  have lib:ai Tryz.prog Gt HF 3 (.ptr (.box ib) 0)=some (.v (.int .i64 ((cT owners ag).length:Nat))):=aQ ag3 hibF rfl
  have lsb:ai Tryz.prog Gt HF 36 (.ptr (.box sb) 0)=some S:=aQ M9 hsF rfl
  have lSn:=kf.out.2.2.2.2.cH
  rcases aa9 (cT owners ag).length s.length with hlt|hge
  ·have hno:eQ rows owners aa ag s=false:=by
    cases ho:eQ rows owners aa ag s with
    |false=>rfl
    |true=>
     unfold eQ at ho
     rw[aaQ,decide_eq_true_eq] at ho
     have:=congrArg List.length ho.1
     rw[aaR,aaR] at this
     omega
   have hres2:res=(0,340):=by rw[hres,if_pos hno]
   have kr:=ah.mk hres2
   obtain⟨a1,a2,a3,a4,a5,a6⟩:=jk hzF heF (by omega) 0 340
   have dd:decide ((((cT owners ag).length:Nat):Int)<(s.length:Int))=true:=decide_eq_true (by omega)
   clear cF q hno hres hres2 kf kW gk6 gs6 gz6 ge6 gw6 gp6 ga6 gb6 gsum6 gib6 hm w2 w3 hWt p1 p3 hchk og1 og2 og3 og4 hlr v1 v2 v3 v4 v5 v6 hxk hHF hbx og hsF hzF heF hwF hpF hsumF hibF hle hsame hokk hlt
   refine gx1 @jO ?_
   exact⟨_,_,rfl,by rw[kr.out]⟩
  have hne:(cT owners ag).length=s.length:=by omega
  have hyes:eQ rows owners aa ag s=true:=by
   unfold eQ
   rw[hne,abl] at hsame hokk
   rw[hsame,hokk]
   simp
  have dd:decide ((((cT owners ag).length:Nat):Int)<(s.length:Int))=false:=decide_eq_false (by omega)
  rw[hne,abl] at hsumF
  rw[if_neg (by rw[hyes];simp)] at hres
  have c8:=mV 4 d
  have c9:=mV 4 f
  have hG:(4:Int).toNat=Gn:=rfl
  rw[iS oU,hG] at c8 c9
  have lpD:ai Tryz.prog Gt HF 3 (.ptr (.box pb) 2)=some (.v (.int .i64 x.d)):=aQ ag3 hpF rfl
  have lpE:ai Tryz.prog Gt HF 3 (.ptr (.box pb) 3)=some (.v (.int .i64 x.e)):=aQ ag3 hpF rfl
  obtain⟨a1,a2,a3,a4,a5,a6⟩:=jk hzF heF (by omega) 0 420
  by_cases hd1:((aY Gn d:Nat):Int)=x.d
  rotate_left 1
  ·have kr:=ah.mk (hres.trans (if_pos (.inl hd1)))
   have dq:decide (((aY Gn d:Nat):Int)=x.d)=false:=decide_eq_false hd1
   clear cF q hyes hres kf kW gk6 gs6 gz6 ge6 gw6 gp6 ga6 gb6 gsum6 gib6 hm w2 w3 hWt p1 p3 hchk og1 og2 og3 og4 hlr v1 v2 v3 v4 v5 v6 hxk hHF hbx og hsF hzF heF hwF hpF hsumF hibF hle hsame hokk hge hne hG hd1
   generalize ((aY Gn d:Nat):Int)=pd at *
   unfold im at *
   refine gx1 @jO ?_
   refine bU [(7,9)] gM kZq (fun p hp=>?_) ?_
   ·simp only[abC] at hp
    subst hp
    refine DY kZq rfl rfl kZq ?_ ?_
    ·simp only[abd,abn]
     refine gx2 @jO @jj ?_
     refine⟨by trivial,?_⟩
     simp[bg,yy]
    ·simp only[abd,abn]
     exact gz2 @jO @jj
   refine gx2 @jO @jj ?_
   exact⟨_,_,rfl,by rw[kr.out]⟩
  have dq:decide (((aY Gn d:Nat):Int)=x.d)=true:=decide_eq_true hd1
  by_cases hd2:((aY Gn f:Nat):Int)=x.e
  rotate_left 1
  ·have kr:=ah.mk (hres.trans (if_pos (.inr hd2)))
   have dq2:decide (((aY Gn f:Nat):Int)=x.e)=false:=decide_eq_false hd2
   clear cF q hyes hres kf kW gk6 gs6 gz6 ge6 gw6 gp6 ga6 gb6 gsum6 gib6 hm w2 w3 hWt p1 p3 hchk og1 og2 og3 og4 hlr v1 v2 v3 v4 v5 v6 hxk hHF hbx og hsF hzF heF hwF hpF hsumF hibF hle hsame hokk hge hne hG hd1 hd2
   generalize ((aY Gn d:Nat):Int)=pd at *
   generalize ((aY Gn f:Nat):Int)=pf at *
   unfold im at *
   refine gx1 @jO ?_
   refine bU [(7,9)] gM kZq (fun p hp=>?_) ?_
   ·simp only[abC] at hp
    subst hp
    refine nU (x:=.ptr (.box pb) 3) (v:=.v (.int .i64 x.e)) kZq rfl rfl kZq (by simp[cB,gB]) ?_ ?_
    ·simp only[abd,abn]
     refine gx2 @jO @jj ?_
     refine⟨by trivial,?_,by trivial,by trivial⟩
     simp[bg,yy]
    ·simp only[abd,abn]
     exact gz3 @jO @jj @and_self
   refine gx2 @jO @jj ?_
   exact⟨_,_,rfl,by rw[kr.out]⟩
  have dq2:decide (((aY Gn f:Nat):Int)=x.e)=true:=decide_eq_true hd2
  rw[if_neg (by simp[hd1,hd2])] at hres
  have kr:=ah.mk hres
  obtain⟨b6,vr6,z1,z2,z3⟩:=kW.out.dF
  have hcs:c≠sumb:=fun e=>by rw[e] at z1;rw[gsum6] at z1;unfold dQ at z1;simp at z1
  have hci:c≠ib:=fun e=>by rw[e] at z1;rw[gib6] at z1;unfold dQ at z1;simp at z1
  have hvl:=z3.1
  have hfl:=a8 z3.four
  rw[aaR] at hvl
  have hlpos:0<l.length:=ad4.2 (fun e=>by rw[e] at kxl;simp at kxl)
  have hbs:b6≠sumb:=fun e=>by
   rw[e] at z2;rw[gsum6] at z2;injection z2 with z2;rw[<-z2] at hfl;simp at hfl;omega
  have hbi:b6≠ib:=fun e=>by
   rw[e] at z2;rw[gib6] at z2;injection z2 with z2;rw[<-z2] at hfl;simp at hfl;omega
  have WF:lQ HF c ep X Y C T L Wt ((dA (at0 aa 0) text l:Nat):Int) ((aG (at0 aa 0) text l:Nat):Int) aa text l:=
   ⟨⟨b6,vr6,og _ _ z1 hcs hci,og _ _ z2 hbs hbi,z3⟩,kW.out.com,kW.out.pos,kW.out.c0,kW.out.txt,kW.out.tl,kW.out.ll⟩
  obtain⟨_,_,cb,rfl,rfl⟩:=DX HF c ep X Y C T L Wt _ _ aa text l WF x ⟨by omega,by omega⟩
  rw[hxk] at cb
  have hcF:=og _ _ z1 hcs hci
  have lwb:ai Tryz.prog Gt HF 90 (.ptr (.box wb) 0)=some (.ptr (.box c) 0):=aQ wN hwF rfl
  have lwb2:ai Tryz.prog Gt (HF.push (aq x)) 90 (.ptr (.box wb) 0)=some (.ptr (.box c) 0):=aQ wN (aj hwF) rfl
  have lch:ai Tryz.prog Gt HF 3 (.ptr (.box c) 12)=some (.v (.int .i64 ((aG (at0 aa 0) text l:Nat):Int))):=aQ ag3 hcF rfl
  have lch2:ai Tryz.prog Gt (HF.push (aq x)) 3 (.ptr (.box c) 12)=some (.v (.int .i64 ((aG (at0 aa 0) text l:Nat):Int))):=aQ ag3 (aj hcF) rfl
  have lsu:ai Tryz.prog Gt HF 3 (.ptr (.box sumb) 0)=some (.v (.int .i64 (fh (aM rows owners l) s))):=aQ ag3 hsumF rfl
  have lsu2:ai Tryz.prog Gt (HF.push (aq x)) 3 (.ptr (.box sumb) 0)=some (.v (.int .i64 (fh (aM rows owners l) s))):=aQ ag3 (aj hsumF) rfl
  have lpp:=oW hpF
  have m1:=KH f ((dP (at0 aa 0) text l ag:Nat):Int)
  have m2:=MT d (cq f ((dP (at0 aa 0) text l ag:Nat):Int))
  have m3:=KH ((aG (at0 aa 0) text l:Nat):Int) (fh (aM rows owners l) s)
  have m4:=MT (cN d (cq f ((dP (at0 aa 0) text l ag:Nat):Int))) (cq ((aG (at0 aa 0) text l:Nat):Int) (fh (aM rows owners l) s))
  obtain⟨t1,t2,t3,t4,t5,t6⟩:=jk (Hx:=HF.push (aq x)) (aj hzF) (aj heF) (by omega) (cN (cN d (cq f ((dP (at0 aa 0) text l ag:Nat):Int))) (cq ((aG (at0 aa 0) text l:Nat):Int) (fh (aM rows owners l) s))) 0
  clear cF q hyes hres kf kW gk6 gs6 gz6 ge6 gw6 gp6 ga6 gb6 gsum6 gib6 hm w2 w3 hWt p1 p3 hchk og1 og2 og3 og4 hlr v1 v2 v3 v4 v5 v6 hxk hHF hbx og hsF hzF heF hwF hpF hsumF hibF hle hsame hokk hge hne hG hd1 hd2 a1 a2 a3 a4 a5 a6 WF hcF z1 z2 z3 hcs hci hbs hbi hvl hfl hlpos kxl
  generalize cN (cN d (cq f ((dP (at0 aa 0) text l ag:Nat):Int))) (cq ((aG (at0 aa 0) text l:Nat):Int) (fh (aM rows owners l) s))=zz at *
  generalize cN d (cq f ((dP (at0 aa 0) text l ag:Nat):Int))=za at *
  generalize cq f ((dP (at0 aa 0) text l ag:Nat):Int)=zm at *
  generalize cq ((aG (at0 aa 0) text l:Nat):Int) (fh (aM rows owners l) s)=zs at *
  generalize ((dP (at0 aa 0) text l ag:Nat):Int)=bv at *
  generalize ((aG (at0 aa 0) text l:Nat):Int)=chv at *
  generalize fh (aM rows owners l) s=wv at *
  generalize ((aY Gn d:Nat):Int)=pd at *
  generalize ((aY Gn f:Nat):Int)=pf at *
  unfold im at *
  refine gx1 @jO ?_
  refine bU [(7,9)] gM kZq (fun p hp=>?_) ?_
  ·simp only[abC] at hp
   subst hp
   refine nU (x:=.ptr (.box pb) 3) (v:=.v (.int .i64 x.e)) kZq rfl rfl kZq (by simp[cB,gB]) ?_ ?_
   ·simp only[abd,abn]
    refine gx2 @jO @jj ?_
    refine⟨by trivial,?_,by trivial,by trivial⟩
    simp[bg,yy]
   ·simp only[abd,abn]
    exact gz3 @jO @jj @and_self
  refine gx2 @jO @jj ?_
  refine bU [(4,7),(4,10),(4,11)] gM kZq (fun p hp=>?_) ?_
  ·simp only[abx,acD,or_false] at hp
   rcases hp with rfl|rfl|rfl
   ·refine dI (x:=.ptr (.box wb) 0) (v:=.ptr (.box c) 0) kZq rfl rfl rfl kZq (BU c 0) ?_ ?_<;>(simp only[abd,abn];exact gz3 @jO @jj @and_self)
   ·refine dI (x:=.ptr (.box c) 12) (v:=.v (.int .i64 chv)) kZq rfl rfl rfl kZq (by simp[cB,gB]) ?_ ?_<;>(simp only[abd,abn];exact gz4 @jO @jj @qH @and_self)
   ·refine dI (x:=.ptr (.box sumb) 0) (v:=.v (.int .i64 wv)) kZq rfl rfl rfl kZq (by simp[cB,gB]) ?_ ?_<;>(simp only[abd,abn];exact gz4 @jO @jj @qH @and_self)
  refine gx3 @jO @jj @qH ?_
  exact⟨_,_,rfl,by rw[kr.out]⟩
def L6:List FuncId:=L5++[17,20,22,26,41,44,45,56,63,75,80,133,134]
noncomputable def D0:FuncId->Option (List AV->ae->Option (AV × ae)):=fx W5 L6
noncomputable abbrev W6:=whole Tryz.prog Gt D0
theorem rV:jo D0 L6:=nE
section
variable (a b n x:Int)
theorem K7:∀h,W6.call 28 [im a,im b] h=some (.ret (im (cN a b)),h):=aF (L:=L6) rfl rfl rfl (MT a b _) rfl rfl
theorem PT:∀h,W6.call 29 [im a,im b] h=some (.ret (im (cq a b)),h):=aF (L:=L6) rfl rfl rfl (KH a b _) rfl rfl
theorem PU:∀h,W6.call 46 [im x] h=some (.ret (.v (.bool (aX x))),h):=aF (L:=L6) rfl rfl rfl (vN x _) rfl rfl
theorem ZO:∀h,W6.call 69 [im a,im b] h=some (.ret (.tuple [im (pO a b),im (mP a b)]),h):=aF (L:=L6) rfl rfl rfl (xV a b _) rfl rfl
end
theorem vU:∀l:List Pr,eF (eR l)=eR l
 | []=>rfl
 |p::l=>by
  show eF (aq p::eR l)=_
  rw[eF,vU l];rfl
theorem ye:∀l:List Pr,gH 0 0 0 (eR l)=true
 | []=>rfl
 |p::l=>by
  show gH 0 0 0 (aq p::eR l)=_
  rw[gH,ye l];rfl
theorem tP:∀l:List (Int × Int),eF (bL l)=bL l
 | []=>rfl
 |p::l=>by
  show eF (eu p::bL l)=_
  rw[eF,tP l];rfl
theorem nL:∀l:List (Int × Int),gH 0 0 0 (bL l)=true
 | []=>rfl
 |p::l=>by
  show gH 0 0 0 (eu p::bL l)=_
  rw[gH,nL l];rfl
theorem yf:∀l:List Int,eF (l.map vO)=l.map vO
 | []=>rfl
 |p::l=>by rw[aa8,eF,yf l];rfl
theorem BY:∀l:List Int,gH 0 0 0 (l.map vO)=true
 | []=>rfl
 |p::l=>by rw[aa8,gH,BY l];rfl
theorem PL.hold{x:AV}{l:List Pr}(h:PL x l):PL (au x) l/\aV 0 0 0 (au x)=true:=by
 obtain⟨k,s,rfl,hs⟩:=h
 rw[au,vU]
 exact⟨⟨di k,s,rfl,hs⟩,by rw[aV,bV,ye];rfl⟩
theorem SL.hold{x:AV}{l:List (Int × Int)}(h:SL x l):SL (au x) l/\aV 0 0 0 (au x)=true:=by
 obtain⟨k,s,rfl,hs⟩:=h
 rw[au,tP]
 exact⟨⟨di k,s,rfl,hs⟩,by rw[aV,bV,nL];rfl⟩
theorem UL.hold{x:AV}{l:List Int}(h:UL x l):UL (au x) l/\aV 0 0 0 (au x)=true:=by
 obtain⟨⟨k,s,rfl,hs⟩,hr⟩:=h
 rw[au,yf]
 exact⟨⟨⟨di k,s,rfl,hs⟩,hr⟩,by rw[aV,bV,BY];rfl⟩
theorem BL.hold{x:AV}{b:List UInt8}(h:BL x b):BL (au x) b/\aV 0 0 0 (au x)=true:=by
 obtain⟨k,s,rfl,hs⟩:=h
 rw[au,iQ]
 exact⟨⟨di k,s,rfl,hs⟩,by rw[aV,bV,fT];rfl⟩
theorem vV{X Y C:AV}{rows:List (List Int)}{owners aa:List Int}(ep:Int)(hx:RL X rows)(hy:IL Y owners)(hc:IL C aa):
 ∃X' Y' C',au (.agg (cI ep X Y C))=.agg (cI ep X' Y' C')/\RL X' rows/\IL Y' owners/\IL C' aa/\aV 0 0 0 (.agg (cI ep X' Y' C'))=true:=by
 obtain⟨h1,h2⟩:=hx.xS
 obtain⟨h3,h4⟩:=hy.hold
 obtain⟨h5,h6⟩:=hc.hold
 exact⟨_,_,_,rfl,h1,h3,h5,by simp[cI,aV,bA,h2,h4,h6]⟩
section
variable (ep:Int) (X Y C T L:AV) (rows:List (List Int)) (owners aa:List Int) (text:List UInt8) (l:List Pr)
 (hx:RL X rows) (hy:IL Y owners) (hc:IL C aa) (ht:BL T text) (hp:PL L l) (hcl:aa.length<=1000000) (hll:l.length<=1000000)
include hx hy hc ht hp hcl hll
theorem E3:(cd rows owners ep aa text l≠0/\∀h,W6.call 17 [.agg (cI ep X Y C),T,L] h=some (.ret (.tuple [.list .nil 0 [],im 0,im 0,im (cd rows owners ep aa text l)]),h))∨
 (cd rows owners ep aa text l=0/\∃Z,IL Z (mr (at0 aa 0) text l)/\∀h,W6.call 17 [.agg (cI ep X Y C),T,L] h=some (.ret (.tuple [Z,im ((dA (at0 aa 0) text l:Nat):Int),im ((aG (at0 aa 0) text l:Nat):Int),im 0]),h)):=by
 obtain⟨X',Y',C',e1,h1,h2,h3,h4⟩:=vV ep hx hy hc
 obtain⟨h5,h6⟩:=ht.hold
 obtain⟨h7,h8⟩:=hp.hold
 have ea:bM [.agg (cI ep X Y C),T,L]=[.agg (cI ep X' Y' C'),au T,au L]:=by
  rw[bM,bM,bM,bM,e1]
 have ef:bA 0 0 0 [.agg (cI ep X' Y' C'),au T,au L]=true:=by
  rw[bA,bA,bA,bA,h4,h6,h8];rfl
 obtain⟨r,h',c,⟨q,rfl⟩|⟨q,Z,rfl,hZ⟩⟩:=PN ⟨[],[],0,[]⟩ ok0 ep X' Y' C' (au T) (au L) rows owners aa text l h1 h2 h3 h5 h7 hcl hll
 ·exact .inl ⟨q,aF (L:=L6) rfl ea ef c rfl rfl⟩
 ·obtain⟨k,s,rfl,hs⟩:=hZ
  refine .inr ⟨q,.list (di k) s (ints _),⟨_,_,rfl,hs⟩,aF (L:=L6) rfl ea ef c ?_ ?_⟩
  ·rfl
  ·rw[aV,bA,aV,bV,fJ];rfl
theorem NX(S:AV)(s:List (Int × Int))(ag d f:Int)(hs:SL S s)(hsl:s.length<=1000000):
 ∀h,W6.call 20 [.agg (cI ep X Y C),T,L,im ag,S,im d,im f] h=some (.ret (.tuple [im (fN rows owners ep aa text l ag s d f).1,im (fN rows owners ep aa text l ag s d f).2]),h):=by
 obtain⟨X',Y',C',e1,h1,h2,h3,h4⟩:=vV ep hx hy hc
 obtain⟨h5,h6⟩:=ht.hold
 obtain⟨h7,h8⟩:=hp.hold
 obtain⟨h9,h10⟩:=hs.hold
 obtain⟨r,h',c,rfl⟩:=PS ⟨[],[],0,[]⟩ ok0 ep X' Y' C' (au T) (au L) (au S) rows owners aa text l s ag d f h1 h2 h3 h5 h7 h9 hcl hll hsl
 exact aF (L:=L6) rfl (by simp only[bM];rw[e1];rfl) (by simp only[bA];rw[h4,h6,h8,h10];rfl) c rfl rfl
theorem NY(ag z:Int):
 ∀h,W6.call 22 [.agg (cI ep X Y C),T,L,im ag,im z] h=some (.ret (.tuple [.v (.bool (ia rows owners ep aa text l ag z).1),im (ia rows owners ep aa text l ag z).2]),h):=by
 obtain⟨X',Y',C',e1,h1,h2,h3,h4⟩:=vV ep hx hy hc
 obtain⟨h5,h6⟩:=ht.hold
 obtain⟨h7,h8⟩:=hp.hold
 obtain⟨r,h',c,rfl⟩:=PQ ⟨[],[],0,[]⟩ ok0 ep X' Y' C' (au T) (au L) rows owners aa text l ag z h1 h2 h3 h5 h7 hcl hll
 exact aF (L:=L6) rfl (by simp only[bM];rw[e1];rfl) (by simp only[bA];rw[h4,h6,h8];rfl) c rfl rfl
end
theorem E4(key e s:Int)(T:AV)(text:List UInt8)(ht:BL T text)(hl:text.length<=1000000):
 ∀h,W6.call 26 [im key,T,.agg [im e,im s]] h=some (.ret (.v (.bool (iO key text e s))),h):=by
 obtain⟨⟨k,z,e1,hs⟩,h2⟩:=ht.hold
 obtain⟨r,h',c,rfl,-⟩:=KK ⟨[],[],0,[]⟩ key e s k z text hs hl
 exact aF (L:=L6) rfl (by simp only[bM];rw[e1];rfl) (by rw[<-e1];simp only[bA];rw[h2];rfl) c rfl rfl
theorem PV(x y:AV)(rows:List (List Int))(owners:List Int)(hx:RL x rows)(hy:IL y owners):∀h,W6.call 75 [.agg [x,y]] h=some (.ret (.v (.bool (jN rows owners))),h):=by
 obtain⟨h1,h2,h3,h4⟩:=fA hx hy
 obtain⟨r,h',c,rfl⟩:=M3 ⟨[],[],0,[]⟩ (au x) (au y) rows owners h1 h2
 exact aF (L:=L6) (args':=[.agg [au x,au y]]) rfl rfl (by simp[bA,aV,h3,h4]) c rfl rfl
theorem K8(n d f:Int)(hn:0<=n/\n<=1000000):∀h,W6.call 45 [im n,im d,im f] h=some (.ret (.tuple [.agg (aq ⟨n,n%7,(aY Gn d:Nat),(aY Gn f:Nat)⟩),.v (.bool true)]),h):=by
 obtain⟨r,h',c,rfl⟩:=PH ⟨[],[],0,[]⟩ n d f hn
 exact aF (L:=L6) rfl rfl rfl c rfl rfl
theorem NZ(many:Nat)(hm:many<=1000)(x:AV)(l:List Int)(hx:UL x l):∃Z,IL Z (eG many l)/\∀h,W6.call 41 [im (many:Nat),x] h=some (.ret Z,h):=by
 obtain⟨h1,h2⟩:=hx.hold
 obtain⟨r,h',c,t,s,rfl,hs⟩:=Hs ⟨[],[],0,[]⟩ ok0 many hm (au x) l h1
 refine⟨.list (di t) s (ints _),⟨_,_,rfl,fun q=>hs (by simpa using q)⟩,aF (L:=L6) rfl (by simp only[bM];rfl) (by simp only[bA];rw[h2];rfl) c rfl (by rw[aV,bV,fJ];rfl)⟩
theorem N1(x y z:AV)(rows:List (List Int))(owners random:List Int)(secret:Int)(hx:RL x rows)(hy:IL y owners)(hz:IL z random)(hl:random.length<=1000)(hrr:rows.length<=1000000):
 (mb rows owners secret random≠0/\∀h,W6.call 44 [.agg [x,y],im secret,z] h=some (.ret (.tuple [.list .nil 0 [],.list .nil 0 [],im (mb rows owners secret random)]),h))∨
 (mb rows owners secret random=0/\∃U V,SL U (fV rows (secret::random))/\IL V (ax (secret::random))/\∀h,W6.call 44 [.agg [x,y],im secret,z] h=some (.ret (.tuple [U,V,im 0]),h)):=by
 obtain⟨h1,h2,h3,h4⟩:=fA hx hy
 obtain⟨h5,h6⟩:=hz.hold
 have ef:bA 0 0 0 [.agg [au x,au y],im secret,au z]=true:=by simp[bA,aV,h3,h4,h6,im]
 obtain⟨r,h',c,⟨q,rfl⟩|⟨q,t1,s1,t2,s2,rfl,g1,g2⟩⟩:=PG ⟨[],[],0,[]⟩ ok0 (au x) (au y) (au z) rows owners random secret h1 h2 h5 hl hrr
 ·exact .inl ⟨q,aF (L:=L6) (args':=[.agg [au x,au y],im secret,au z]) rfl rfl ef c rfl rfl⟩
 ·refine .inr ⟨q,.list (di t1) s1 (bL _),.list (di t2) s2 (ints _),⟨_,_,rfl,g1⟩,⟨_,_,rfl,fun _=>g2⟩,aF (L:=L6) (args':=[.agg [au x,au y],im secret,au z]) rfl rfl ef c ?_ ?_⟩
  ·rfl
  ·rw[aV,bA,aV,bV,nL,bA,aV,bV,fJ];rfl
theorem ZI(x y z:AV)(rows:List (List Int))(owners aa:List Int)(hx:RL x rows)(hy:IL y owners)(hz:IL z aa)(hl:aa.length<=1000000)(a v:Int):
 ∀h,W6.call 56 [.agg [x,y],z,.agg [im a,im v]] h=some (.ret (.tuple [.v (.bool (mW rows owners aa (a,v)).1),im (mW rows owners aa (a,v)).2]),h):=by
 obtain⟨h1,h2,h3,h4⟩:=fA hx hy
 obtain⟨h5,h6⟩:=hz.hold
 obtain⟨r,h',c,rfl,-⟩:=PF ⟨[],[],0,[]⟩ (au x) (au y) (au z) rows owners aa h1 h2 h5 hl a v
 exact aF (L:=L6) (args':=[.agg [au x,au y],au z,.agg [im a,im v]]) rfl rfl (by simp[bA,aV,h3,h4,h6,im]) c rfl rfl
theorem of6(x y z w:AV)(rows:List (List Int))(owners who:List Int)(l:List (Int × Int))(hx:RL x rows)(hy:IL y owners)(hz:SL z l)(hw:IL w who)(hl:l.length<=1000)(hwl:who.length<=100)(hin:∀p∈l,0<=p.1/\p.1<owners.length):
 ∃U,SL U (ofF owners who l)/\∀h,W6.call 80 [.agg [x,y],z,w] h=some (.ret U,h):=by
 obtain⟨h1,h2,h3,h4⟩:=fA hx hy
 obtain⟨h5,h6⟩:=hz.hold
 obtain⟨h7,h8⟩:=hw.hold
 obtain⟨r,h',c,t,s,rfl,hs⟩:=Ti ⟨[],[],0,[]⟩ ok0 (au x) (au y) (au z) (au w) rows owners who l h1 h2 h5 h7 hl hwl hin
 exact⟨.list (di t) s (bL _),⟨_,_,rfl,fun _=>hs⟩,aF (L:=L6) (args':=[.agg [au x,au y],au z,au w]) rfl rfl (by simp[bA,aV,h3,h4,h6,h8]) c rfl (by rw[aV,bV,nL];rfl)⟩
theorem ZJ(x y:AV)(rows:List (List Int))(owners:List Int)(hx:RL x rows)(hy:IL y owners):∀h,W6.call 97 [.agg [x,y]] h=some (.ret (im (bC rows owners)),h):=by
 obtain⟨h1,h2,h3,h4⟩:=fA hx hy
 exact aF (L:=L6) (args':=[.agg [au x,au y]]) rfl rfl (by simp[bA,aV,h3,h4]) (KI (au x) (au y) rows owners h1 h2 _) rfl rfl
theorem BZ(x y:AV)(rows:List (List Int))(owners:List Int)(hx:RL x rows)(hy:IL y owners):∀h,W6.call 42 [.agg [x,y]] h=some (.ret (im (aK rows:Nat)),h):=by
 obtain⟨h1,h2,h3,h4⟩:=fA hx hy
 exact aF (L:=L6) (args':=[.agg [au x,au y]]) rfl rfl (by simp[bA,aV,h3,h4]) (tM (au x) (au y) rows owners h1 h2 _) rfl rfl
theorem K9(x y z:AV)(rows:List (List Int))(owners who:List Int)(hx:RL x rows)(hy:IL y owners)(hz:IL z who)(hwl:who.length<=1099511627776):
 (∃e,bJ rows owners who=([],false,e)/\∀h,W6.call 76 [.agg [x,y],z] h=some (.ret (.tuple [.list .nil 0 [],.v (.bool false),im e]),h))∨
 ∃l,bJ rows owners who=(l,true,0)/\l.length=rows.length/\∃Z,IL Z l/\∀h,W6.call 76 [.agg [x,y],z] h=some (.ret (.tuple [Z,.v (.bool true),im 0]),h):=by
 obtain⟨h1,h2,h3,h4⟩:=fA hx hy
 obtain⟨h5,h6⟩:=hz.hold
 have ef:bA 0 0 0 [.agg [au x,au y],au z]=true:=by simp[bA,aV,h3,h4,h6]
 obtain⟨k,s,xs,e1,-⟩:=h1.form
 rw[e1] at h1
 rcases BJ k s xs (au y) (au z) rows owners who h1 h2 h5 hwl with⟨e,q,c⟩|⟨l,q,ql,c⟩
 ·rw[<-e1] at c
  exact .inl ⟨e,q,aF (L:=L6) (args':=[.agg [au x,au y],au z]) rfl rfl ef (c _) rfl rfl⟩
 ·rw[<-e1] at c
  refine .inr ⟨l,q,ql,.list .held 1 (ints l),⟨_,_,rfl,fun _=>rfl⟩,aF (L:=L6) (args':=[.agg [au x,au y],au z]) rfl rfl ef (c _) ?_ ?_⟩
  ·rfl
  ·rw[aV,bA,aV,fJ];rfl
theorem ob:Tryz.f24.results.toList=[.cell 10 46,.tmp 11,.tmp 12]:=kZq
def shN(sm:Int)(i:Nat):Int:=sm.fdiv (2^min i 16)
def B1(sm:Int)(i:Nat):Int:=IntKind.u16.wrap (BitVec.ofInt 16 (shN sm i)&&&BitVec.ofInt 16 1).toNat
def PW(sm:Int)(i:Nat):Bool:=decide (B1 sm i=1)
def oc(sm:Int)(k:Nat):List Int:=((aaV k).filter (PW sm)).map fun(i:Nat)=>(i:Int)
def cG(sm:Int):List Int:=oc sm 16
theorem R9{x y:Operand}(sm:Int)(i:Nat):bB Tryz.prog .shr 44 x y (.v (.int .u16 sm)) (.v (.int .i64 (i:Nat)))=some (.v (.int .u16 (shN sm i))):=by
 rw[nr (by omega),aa1];rfl
theorem Sa{x y:Operand}(sm:Int)(i:Nat):bB Tryz.prog .and 44 x y (.v (.int .u16 (shN sm i))) (.v (.int .u16 1))=some (.v (.int .u16 (B1 sm i))):=by
 rw[fQ];rfl
theorem La{sm:Int}{k:Nat}(h:B1 sm k=1):oc sm (k+1)=oc sm k++[(k:Int)]:=by
 unfold oc
 rw[abU,acB,abF]
 simp[PW,h]
theorem Nb{sm:Int}{k:Nat}(h:B1 sm k≠1):oc sm (k+1)=oc sm k:=by
 unfold oc
 rw[abU,acB,abF]
 simp[PW,h]
theorem vW(sm:Int)(k:Nat):(oc sm k).length<=k:=by
 unfold oc
 rw[aaR]
 exact Nat.le_trans (List.length_filter_le _ _) (by simp)
theorem zP(p:Nat->Bool):∀(n a:Nat) (last:Int),last<a->a+n<=64->cS last (((List.range' a n).filter p).map fun(i:Nat)=>(i:Int))=true:=by
 intro n
 induction n with
 |zero=>intro _ _ _ _;rfl
 |succ n ih=>
  intro a last h1 h2
  rw[List.range'_succ,adD]
  split
  ·rw[aa8,cS,ih (a+1) a (by omega) (by omega)]
   simp only[ac0,aaQ,decide_eq_true_eq]
   omega
  ·exact ih (a+1) last (by omega) (by omega)
theorem qJ(sm:Int):cS (-1) (cG sm)=true:=by
 unfold cG oc
 rw[List.range_eq_range']
 exact zP _ 16 0 (-1) (by decide) (by decide)
theorem HJ{sm:Int}:∀n∈cG sm,0<=n/\n<16:=by
 intro n hn
 unfold cG oc at hn
 obtain⟨i,hi,rfl⟩:=abE.1 hn
 have:=abf.1 (List.mem_filter.1 hi).1
 omega
theorem rW{rows:List (List Int)}{owners who:List Int}(hp:bC rows owners=0)(hw:cS (-1) who=true):(bJ rows owners who).2.2=0:=by
 unfold bJ
 rw[if_neg (by rw[hp];simp),hw]
 simp only[ad0,abm,if_false]
 split<;>rfl
def eJ(who N:List Int):List Pr:=(aaV who.length).map fun i=>⟨at0 who i,at0 who i%7,(aY Gn (at0 N (2 * i)):Nat),(aY Gn (at0 N (2 * i+1)):Nat)⟩
theorem qK(who N:List Int):(eJ who N).length=who.length:=by unfold eJ;simp
def dk(rows:List (List Int))(secret:Int)(random:List Int):List Int:=secret%Qi::eG (aK rows - 1) random
def na(rows:List (List Int))(owners:List Int)(sm:Int):Bool:=jN rows owners&&((bJ rows owners (cG sm)).2.1&&decide (cG sm≠[]))
def dG(ep:Int)(X Y C S W L N:AV):List AV:=[im ep,X,Y,C,S,W,L,N]
abbrev nl:AV:=.list .nil 0 []
theorem Sb:(ej Tryz.prog 46).bind AV.aC=some (dG 0 nl nl nl nl nl nl nl):=kZq
theorem PX:bF Tryz.prog 46=some 8:=kZq
theorem Tq:cZ Tryz.prog 46=some true:=kZq
theorem Nc:bF Tryz.prog 27=some 4:=kZq
theorem Tr:bF Tryz.prog 29=some 1:=kZq
theorem Ts:bF Tryz.prog 36=some 1:=kZq
theorem mw:(∀b,aJ Tryz.prog 46 (.ptr (.box b) 0) 0=some (.ptr (.box b) 0))/\(∀b,aJ Tryz.prog 46 (.ptr (.box b) 0) 1=some (.ptr (.box b) 4))/\(∀b,aJ Tryz.prog 46 (.ptr (.box b) 0) 2=some (.ptr (.box b) 5))/\(∀b,aJ Tryz.prog 46 (.ptr (.box b) 0) 3=some (.ptr (.box b) 6))/\∀b,aJ Tryz.prog 46 (.ptr (.box b) 0) 4=some (.ptr (.box b) 7):=
 ⟨fun b=>kZq,fun b=>kZq,fun b=>kZq,fun b=>kZq,fun b=>kZq⟩
theorem Tt:∃i,Tryz.prog.info? 85=some i/\i.size=4/\i.bytes<=64/\(i.zero.map fun z=>z.cells.size)=some 4:=by
 have h:(match Tryz.prog.info? 85 with|some i=>Nat.beq i.size 4&&Nat.ble i.bytes 64&&decide ((i.zero.map fun z=>z.cells.size)=some 4)|none=>false)=true:=kZq
 cases hi:Tryz.prog.info? 85 with
 |none=>rw[hi] at h;cases h
 |some i=>
  rw[hi] at h
  simp only[aaQ,decide_eq_true_eq] at h
  exact⟨i,rfl,Nat.eq_of_beq_eq_true h.1.1,abb h.1.2,h.2⟩
theorem Sc(p:Pr):aN Tryz.prog 29 1 [(0,.agg (aq p))]=some (.list .tight 4 [aq p]):=kZq
theorem Tu{H:ae}{k:Tok}{n0 sz:Nat}{l:List Pr}{p:Pr}(hl:l.length<1000000)(hs:sz=4∨(l=[]/\k=.nil))(hk:bG n0 H k):
 bP Tryz.prog H #[29,29] (.list k sz (eR l)) (.list .tight 4 [aq p])=some (.list (.free H.tn) 4 (eR (l++[p])),H.app k):=by
 have:=apT (T:=29) (E:=85) (n:=4) (H:=H) (k:=k) (n0:=n0) (sz:=sz) (es:=eR l) (r:=aq p) Tryz.underlying29 Tt (by omega) (by rw[mX];omega) (hs.imp_right fun q=>⟨by rw[q.1];rfl,q.2⟩) hk
 rw[this];unfold eR;rw[abF];rfl
structure TI(h H:ae)(X Y:AV)(T:List AV)(t:Tok):Prop where
 ext:Ext h H
 ok:aZ H=true
 can:bG h.tn H t
 pb:H.boxes[h.boxes.length]?=some [X,Y]
 tb:H.boxes[h.boxes.length+1]?=some T
section
variable {h H:ae} {X Y:AV} {T:List AV} {t:Tok}
theorem TI.app(b:TI h H X Y T t):TI h (H.app t) X Y T (.free H.tn):=by
 have gr:=Grown.one b.can b.ok b.ext.tn
 exact⟨gr.ext b.ext (aaP _),gr.ok,gr.can,by rw[aT];exact b.pb,by rw[aT];exact b.tb⟩
theorem TI.push(b:TI h H X Y T t)(cs:List AV):TI h (H.push cs) X Y T t:=⟨b.ext.trans (.push _ _),b.ok,by rw[ij];exact b.can,aj b.pb,aj b.tb⟩
theorem TI.put(b:TI h H X Y T t)(T2:List AV):TI h (H.put (h.boxes.length+1) T2) X Y T2 t:=by
 have hl:=(aaL.1 b.tb).1
 exact⟨b.ext.bZ (by omega) _,b.ok,by rw[jd];exact b.can,by rw[av (by omega)];exact b.pb,aS hl⟩
theorem TI.nil(b:TI h H X Y T t):TI h H X Y T .nil:=⟨b.ext,b.ok,.inl rfl,b.pb,b.tb⟩
end
section
variable {H:ae} {b:Nat} {ep:Int} {X Y C S W L N x:AV}
theorem Lb{T:List AV}(hb:H.boxes[b]?=some T)(hl:T.length=8):ai Tryz.prog Gt H 46 (.ptr (.box b) 0)=some (.agg T):=by
 rw[cP Tq PX hb (by omega)]
 rw[List.drop_zero,aa3 (by omega)]
theorem PY{T T2:List AV}(hb:H.boxes[b]?=some T)(hl:T.length=8)(hx:(AV.agg T2).aC=some T2)(hl2:T2.length=8):aA Tryz.prog H 46 (.ptr (.box b) 0) (.agg T2)=some (H.put b T2):=by
 rw[aW (off:=0) (cs:=T) (xs:=T2) hx PX hb hl2 (by omega),jc (by omega)]
theorem stW(hb:H.boxes[b]?=some (dG ep X Y C S W L N))(hx:x.aC=some [x]):aA Tryz.prog H 23 (.ptr (.box b) 5) x=some (H.put b (dG ep X Y C S x L N)):=
 aW (off:=5) (cs:=dG ep X Y C S W L N) (xs:=[x]) hx jC hb rfl (abb rfl)
theorem stS(hb:H.boxes[b]?=some (dG ep X Y C S W L N))(hx:x.aC=some [x]):aA Tryz.prog H 36 (.ptr (.box b) 4) x=some (H.put b (dG ep X Y C x W L N)):=
 aW (off:=4) (cs:=dG ep X Y C S W L N) (xs:=[x]) hx Ts hb rfl (abb rfl)
theorem stL(hb:H.boxes[b]?=some (dG ep X Y C S W L N))(hx:x.aC=some [x]):aA Tryz.prog H 29 (.ptr (.box b) 6) x=some (H.put b (dG ep X Y C S W x N)):=
 aW (off:=6) (cs:=dG ep X Y C S W L N) (xs:=[x]) hx Tr hb rfl (abb rfl)
theorem stN(hb:H.boxes[b]?=some (dG ep X Y C S W L N))(hx:x.aC=some [x]):aA Tryz.prog H 23 (.ptr (.box b) 7) x=some (H.put b (dG ep X Y C S W L x)):=
 aW (off:=7) (cs:=dG ep X Y C S W L N) (xs:=[x]) hx jC hb rfl (abb rfl)
theorem stK{ep2:Int}{X2 Y2 C2:AV}(hb:H.boxes[b]?=some (dG ep X Y C S W L N))(hx:(AV.agg (cI ep2 X2 Y2 C2)).aC=some (cI ep2 X2 Y2 C2)):aA Tryz.prog H 27 (.ptr (.box b) 0) (.agg (cI ep2 X2 Y2 C2))=some (H.put b (dG ep2 X2 Y2 C2 S W L N)):=
 aW (off:=0) (cs:=dG ep X Y C S W L N) (xs:=cI ep2 X2 Y2 C2) hx Nc hb rfl (abb rfl)
theorem RL.Uu{x:AV}{l:List (List Int)}(h:RL x l):x.aC=some [x]:=by obtain⟨k,s,xs,rfl,-⟩:=h.form;rfl
theorem PL.Uu{x:AV}{l:List Pr}(h:PL x l):x.aC=some [x]:=by obtain⟨k,s,rfl,-⟩:=h;rfl
theorem IL.Uu{x:AV}{l:List Int}(h:IL x l):x.aC=some [x]:=by obtain⟨k,s,rfl,-⟩:=h;rfl
theorem pI{rows:List (List Int)}{owners aa who N':List Int}{sh:List (Int × Int)}{l:List Pr}(hx:RL X rows)(hy:IL Y owners)(hc:IL C aa)(hs:SL S sh)(hw:IL W who)(hl:PL L l)(hn:IL N N'):
 (AV.agg (dG ep X Y C S W L N)).aC=some (dG ep X Y C S W L N):=by
 obtain⟨_,_,_,rfl,-⟩:=hx.form
 obtain⟨_,_,rfl,-⟩:=hy
 obtain⟨_,_,rfl,-⟩:=hc
 obtain⟨_,_,rfl,-⟩:=hs
 obtain⟨_,_,rfl,-⟩:=hw
 obtain⟨_,_,rfl,-⟩:=hl
 obtain⟨_,_,rfl,-⟩:=hn
 rfl
end
def Nd(rows:List (List Int))(owners:List Int)(X Y:AV)(secret:Int)(random eg:List Int)(sm:Int)(r:Res):Prop:=
 (na rows owners sm=false/\∃W,r=.ret (.tuple [.agg (dG 0 nl nl nl nl W nl nl),.v (.bool false),.v (.bool true)])/\∃l,IL W l)∨
 (na rows owners sm=true/\∃C S W L N,r=.ret (.tuple [.agg (dG 0 X Y C S W L N),.v (.bool true),.v (.bool true)])/\IL C (ax (dk rows secret random))/\SL S (fV rows (dk rows secret random))/\IL W (cG sm)/\PL L (eJ (cG sm) (eG (2 * (cG sm).length) eg))/\IL N (eG (2 * (cG sm).length) eg))
theorem vX{W:AV}{l:List Int}(hw:IL W l):(AV.agg (dG 0 nl nl nl nl W nl nl)).aC=some (dG 0 nl nl nl nl W nl nl):=by
 obtain⟨_,_,rfl,-⟩:=hw;rfl
theorem Nf(h:ae)(hok:aZ h=true)(X Y R N0:AV)(rows:List (List Int))(owners random eg:List Int)(secret sm:Int)(hx:RL X rows)(hy:IL Y owners)(hr:UL R random)(hn:UL N0 eg)(hs:0<=secret/\secret<4294967296):
 ∃r h',W6.call 24 [.agg [X,Y],.v (.int .u32 secret),R,N0,.v (.int .u16 sm)] h=some (r,h')/\Ext h h'/\Nd rows owners X Y secret random eg sm r:=by
 have bx:=ff hx hy
 have zc:=Sb
 have c1:=PV X Y rows owners hx hy
 have hok0:TI h ((h.push [X,Y]).push (dG 0 nl nl nl nl nl nl nl)) X Y (dG 0 nl nl nl nl nl nl nl) .nil:=
  ⟨(Ext.push _ _).trans (.push _ _),hok,.inl rfl,aj (ak _ _),by
    have:=ak (h.push [X,Y]) (dG 0 nl nl nl nl nl nl nl)
    rwa [az] at this⟩
 have hn1:(h.push [X,Y]).boxes.length=h.boxes.length+1:=az _ _
 obtain⟨H0,hH0⟩:∃H0,(h.push [X,Y]).push (dG 0 nl nl nl nl nl nl nl)=H0:=⟨_,rfl⟩
 rw[hH0] at hok0
 have l1:ai Tryz.prog Gt H0 25 (.ptr (.box h.boxes.length) 0)=some (.agg [X,Y]):=ma hok0.pb
 have l2:=Lb hok0.tb rfl
 have s2:=PY hok0.tb rfl (T2:=dG 0 nl nl nl nl nl nl nl) rfl rfl
 rw[ec hok0.tb] at s2
 have kT:=ah.mk hok0
 have kf:=ah.mk (aaO hx (aaO hy (aaO hr (aaO hn (aaO hs hok)))))
 clear hx hy hr hn hok hok0
 refine aL rfl Tryz.func24 rfl ?_
 by_cases h1:jN rows owners=true
 rotate_left 1
 ·have h1:jN rows owners=false:=by simpa using h1
  rw[h1] at c1
  have ku:ah (na rows owners sm=false):=⟨by unfold na;rw[h1];rfl⟩
  clear h1
  refine gx4 @ob @aw @hn1 @hH0 ?_
  exact⟨_,_,rfl,kT.out.ext,.inl ⟨ku.out,_,rfl,[],_,_,rfl,fun q=>absurd rfl q⟩⟩
 rw[h1] at c1
 have ks:=ah.mk h1
 clear h1
 refine gx4 @ob @aw @hn1 @hH0 ?_
 refine Run.gen fun e0 he0 hd0 hp0 hr0=>?_
 have f1:e0.get 1=.v (.int .u32 secret):=by rw[he0];exact gS
 have f2:e0.get 2=R:=by rw[he0];exact gS
 have f3:e0.get 3=N0:=by rw[he0];exact gS
 have f4:e0.get 4=.v (.int .u16 sm):=by rw[he0];exact gS
 have f5:e0.get 5=.ptr (.box h.boxes.length) 0:=by rw[he0];exact gS
 have f10:e0.get 10=.ptr (.box (h.boxes.length+1)) 0:=by rw[he0];simp only[gW,reduceIte,aaN,gBQ,hn1]
 have f30:e0.get 30=.v (.int .i64 (0:Nat)):=by rw[he0];exact gR
 have fd:e0.defers=[]:=by rw[hd0];exact gS
 clear he0 hd0 hp0 hr0 l1 l2 s2 hn1 hH0 c1 zc bx hs
 refine aD (fun m e H=>∃(k:Nat) (t:Tok) (sz:Nat),k<=16/\m=16 - k/\ah (TI h H X Y (dG 0 nl nl nl nl (.list t sz (ints (oc sm k))) nl nl) t)/\ah (sz=1∨(oc sm k=[]/\t=.nil))/\
  e.get 1=.v (.int .u32 secret)/\e.get 2=R/\e.get 3=N0/\e.get 4=.v (.int .u16 sm)/\e.get 5=.ptr (.box h.boxes.length) 0/\e.get 10=.ptr (.box (h.boxes.length+1)) 0/\e.get 30=.v (.int .i64 (k:Nat))/\e.defers=[]) ?_ 16 _ _ ?_
 rotate_left 1
 ·exact⟨0,.nil,0,aa4 _,rfl,kT,⟨.inr ⟨rfl,rfl⟩⟩,f1,f2,f3,f4,f5,f10,f30,fd⟩
 clear f1 f2 f3 f4 f5 f10 f30 fd kT
 rintro m e H ⟨k,t,sz,hk,rfl,kT,ksz,g1,g2,g3,g4,g5,g10,g30,hd⟩
 by_cases hlt:k<16
 ·have b1:=R9 (x:=.tmp 33) (y:=.tmp 34) sm k
  have b2:=Sa (x:=.tmp 35) (y:=.const (.int .u16 1)) sm k
  have hltI:(k:Int)<16:=by omega
  by_cases hb:B1 sm k=1
  ·have lW:ai Tryz.prog Gt H 23 (.ptr (.box (h.boxes.length+1)) 5)=some (.list t sz (ints (oc sm k))):=aQ mo kT.out.tb rfl
   have ap:=wI (x:=(k:Int)) (es:=oc sm k) (by have:=vW sm k;omega) ksz.out kT.out.can
   rw[<-La hb] at ap
   have bl:=pQ (k:Int)
   have sW:=stW (x:=.list (.free H.tn) 1 (ints (oc sm (k+1)))) kT.out.app.tb rfl
   have kT2:=ah.mk ((kT.out.app).put (dG 0 nl nl nl nl (.list (.free H.tn) 1 (ints (oc sm (k+1)))) nl nl))
   clear kT
   generalize shN sm k=sh at *
   generalize B1 sm k=bt at *
   refine gx2 @ob @mw ?_
   exact⟨16 - (k+1),by omega,k+1,_,1,by omega,rfl,kT2,⟨.inl rfl⟩,by simp⟩
  ·have kT2:=kT
   have ksz2:=ksz
   rw[<-Nb hb] at kT2 ksz2
   have aax:decide (B1 sm k=1)=false:=decide_eq_false hb
   clear kT
   generalize shN sm k=sh at *
   generalize B1 sm k=bt at *
   refine gx2 @ob @mw ?_
   exact⟨16 - (k+1),by omega,k+1,t,sz,by omega,rfl,kT2,ksz2,by simp⟩
 have hk16:k=16:=by omega
 subst hk16
 have hwl:=vW sm 16
 have hW:IL (.list t sz (ints (cG sm))) (cG sm):=⟨t,sz,rfl,fun q=>(ksz.out.resolve_right fun z=>q z.1)⟩
 have kT3:=ah.mk kT.out.nil
 have htab:=vX hW
 have kW:=ah.mk hW
 have hacc:=K9 X Y (.list t sz (ints (cG sm))) rows owners (cG sm) kf.out.1 kf.out.2.1 hW (by show(oc sm 16).length<=_;omega)
 have hz:(bJ rows owners (cG sm)).2.2=0:=rW (by have:=ks.out;unfold jN at this;simp at this;exact this.1.2) (qJ sm)
 have hle:(cG sm).length<=16:=hwl
 change ah (TI h H X Y (dG 0 nl nl nl nl (.list t sz (ints (cG sm))) nl nl) .nil) at kT3
 clear kT ksz hwl hW
 generalize AV.list t sz (ints (cG sm))=W at *
 have l1:ai Tryz.prog Gt H 25 (.ptr (.box h.boxes.length) 0)=some (.agg [X,Y]):=ma kT3.out.pb
 have l2:=Lb kT3.out.tb rfl
 have l3:ai Tryz.prog Gt H 23 (.ptr (.box (h.boxes.length+1)) 5)=some W:=aQ mo kT3.out.tb rfl
 have s2:=PY kT3.out.tb rfl htab rfl
 rw[ec kT3.out.tb] at s2
 have lnW:=kW.out.cH
 clear htab hlt hk
 rcases hacc with⟨er,q,c2⟩|⟨y,q,ql,Z,-,c2⟩
 ·have her:er=0:=by rw[q] at hz;exact hz
  subst her
  have ku:ah (na rows owners sm=false):=⟨by unfold na;rw[q];simp⟩
  clear q hz
  unfold im at *
  repeat' (first|simp(maxSteps:=999999)(disch:=first|exact dZ|fail)only[gW,reduceIte,aaN,gBQ,ob,mw, *]|refine dX ?_ ?_<;>(intro _;try omega))
  exact⟨_,_,rfl,kT3.out.ext,.inl ⟨ku.out,_,rfl,_,kW.out⟩⟩
 by_cases hw0:cG sm=[]
 ·have ku:ah (na rows owners sm=false):=⟨by unfold na;rw[hw0];simp⟩
  have hl0:((cG sm).length:Int)=0:=by rw[hw0];rfl
  clear q hz hw0
  unfold im at *
  repeat' (first|simp(maxSteps:=999999)(disch:=first|exact dZ|fail)only[gW,reduceIte,aaN,gBQ,ob,mw, *]|refine dX ?_ ?_<;>(intro _;try omega))
  exact⟨_,_,rfl,kT3.out.ext,.inl ⟨ku.out,_,rfl,_,kW.out⟩⟩
 have ku:ah (na rows owners sm=true):=⟨by unfold na;rw[ks.out,q];simp[hw0]⟩
 have hl0:¬((cG sm).length:Int)=0:=by have:=ad4.2 hw0;omega
 have hp:bC rows owners=0:=by have:=ks.out;unfold jN at this;simp at this;exact this.1.2
 have hr16:rows.length<=16:=by have:=ks.out;unfold jN at this;simp at this;exact this.1.1
 have hc16:aK rows<=16:=by have:=ks.out;unfold jN at this;simp at this;exact this.2
 have hcp:=(fI hp).1
 have c3:=BZ X Y rows owners kf.out.1 kf.out.2.1
 obtain⟨Z1,hZ1,c4⟩:=NZ (aK rows - 1) (by omega) R random kf.out.2.2.1
 have hcast:((aK rows - 1:Nat):Int)=(aK rows:Int) - 1:=by omega
 rw[hcast] at c4
 have hsec:0<=secret%Qi/\secret%Qi<1073741789:=⟨acX _ (by decide),acz _ (by decide)⟩
 have hde:mb rows owners (secret%Qi) (eG (aK rows - 1) random)=0:=by
  unfold mb
  rw[if_neg (by simp[hp]),if_pos]
  rw[aaQ,aaQ]
  refine⟨⟨iP.2 hsec,aa2.2 fun x hx=>iP.2 (BO _ x hx)⟩,?_⟩
  rw[iu,decide_eq_true_eq];omega
 have hdl:=N1 X Y Z1 rows owners (eG (aK rows - 1) random) (secret%Qi) kf.out.1 kf.out.2.1 hZ1 (by rw[iu];omega) (by omega)
 obtain⟨S,C,hS,hC,c5⟩:∃S C,SL S (fV rows (dk rows secret random))/\IL C (ax (dk rows secret random))/\∀h,W6.call 44 [.agg [X,Y],im (secret%Qi),Z1] h=some (.ret (.tuple [S,C,im 0]),h):=by
  rcases hdl with⟨z,-⟩|⟨-,z⟩
  ·exact absurd hde z
  ·exact z
 have hS2:(dk rows secret random).length=aK rows:=by unfold dk;rw[abo,iu];omega
 have lnS:=hS.cH
 rw[pF] at lnS
 have lnC:=hC.cH
 rw[show(ax (dk rows secret random)).length=aK rows by unfold ax;rw[aaR,hS2]] at lnC
 have hm:secret.tmod 1073741789=secret%Qi:=Int.tmod_eq_emod_of_nonneg kf.out.2.2.2.2.1.1
 have hwr:IntKind.i64.wrap secret=secret:=bT (by have:=kf.out.2.2.2.2.1;omega) (by have:=kf.out.2.2.2.2.1;omega)
 have hwr2:IntKind.i64.wrap ((aK rows:Int) - 1)=(aK rows:Int) - 1:=bT (by omega) (by omega)
 have lx:=kf.out.1.cH
 have l4:ai Tryz.prog Gt H 22 (.ptr (.box h.boxes.length) 0)=some X:=tY kT3.out.pb
 have kSC:=ah.mk (aaO hS (aaO hC hS2))
 clear q hz hdl hde hZ1 hcast hp hS hC hw0 hS2
 generalize secret%Qi=sq at *
 unfold im at *
 repeat' (first|simp(maxSteps:=999999)(disch:=first|exact dZ|fail)only[gW,reduceIte,aaN,gBQ,ob,mw,bH,zL, *]|refine dX ?_ ?_<;>(intro _;try omega))
 refine bf rV kZq ?_
 refine gx4 @ob @mw @bH @zL ?_
 refine Run.gen fun e0 he0 hd0 hp0 hr0=>?_
 have f3:e0.get 3=N0:=by rw[he0];exact gA
 have f5:e0.get 5=.ptr (.box h.boxes.length) 0:=by rw[he0];exact gA
 have f10:e0.get 10=.ptr (.box (h.boxes.length+1)) 0:=by rw[he0];exact gA
 have f17:e0.get 17=S:=by rw[he0];exact gS
 have f18:e0.get 18=C:=by rw[he0];exact gS
 have f100:e0.get 100=S:=by rw[he0];exact gS
 have f101:e0.get 101=.v (.int .i64 (rows.length:Nat)):=by rw[he0];exact gS
 have f102:e0.get 102=.v (.int .i64 (0:Nat)):=by rw[he0];exact gR
 have fd:e0.defers=[]:=by rw[hd0];exact gA
 clear he0 hd0 hp0 hr0 l1 l2 l3 s2 c2 c3 c4 c5 lx lnC hm hwr hwr2 hsec hl0 g1 g2 g3 g4 g5 g10 g30 hd l4
 refine aD (fun m e H=>∃(i:Nat),i<=rows.length/\m=rows.length - i/\ah (TI h H X Y (dG 0 nl nl nl nl W nl nl) .nil)/\
  e.get 3=N0/\e.get 5=.ptr (.box h.boxes.length) 0/\e.get 10=.ptr (.box (h.boxes.length+1)) 0/\e.get 17=S/\e.get 18=C/\e.get 100=S/\e.get 101=.v (.int .i64 (rows.length:Nat))/\e.get 102=.v (.int .i64 (i:Nat))/\e.defers=[]) ?_ rows.length _ _ ?_
 rotate_left 1
 ·exact⟨0,aa4 _,rfl,kT3,f3,f5,f10,f17,f18,f100,f101,f102,fd⟩
 clear f3 f5 f10 f17 f18 f100 f101 f102 fd kT3 lnS
 rintro m e H ⟨i,hi,rfl,kT,g3,g5,g10,g17,g18,g100,g101,g102,hd⟩
 by_cases hlt:i<rows.length
 ·have hg:=yb (s:=dk rows secret random) (aaM hlt)
  have ix:=kSC.out.1.ix (i:=i) (by rw[pF];exact hlt)
  have ld:=PI (H:=H) (s:=2) hg
  generalize oa rows[i] (dk rows secret random)=dv at *
  have kT2:=ah.mk (kT.out.push (eu (((i:Nat):Int),dv)))
  have st:aA Tryz.prog (H.push (eu (0,0))) 81 (.ptr (.box H.boxes.length) 0) (.agg [.v (.int .i64 (i:Nat)),.v (.int .i64 dv)])=some (H.push (eu (((i:Nat):Int),dv))):=cQ rfl M4 rfl rfl
  have zc:(ej Tryz.prog 81).bind AV.aC=some (eu (0,0)):=kZq
  have l0:ai Tryz.prog Gt (H.push (eu (((i:Nat):Int),dv))) 3 (.ptr (.box H.boxes.length) 0)=some (.v (.int .i64 (i:Nat))):=aQ ag3 (ak _ _) rfl
  have fa:aJ Tryz.prog 81 (.ptr (.box H.boxes.length) 0) 0=some (.ptr (.box H.boxes.length) 0):=kZq
  have hltI:(i:Int)<(rows.length:Int):=by omega
  clear hg kT
  refine gx1 @ob ?_
  exact⟨rows.length - (i+1),by omega,i+1,by omega,rfl,(by first|exact kT2|trivial),by simp⟩
 have hie:i=rows.length:=by omega
 subst hie
 have l1:ai Tryz.prog Gt H 25 (.ptr (.box h.boxes.length) 0)=some (.agg [X,Y]):=ma kT.out.pb
 have l3:ai Tryz.prog Gt H 23 (.ptr (.box (h.boxes.length+1)) 5)=some W:=aQ mo kT.out.tb rfl
 obtain⟨Z2,hZ2,c6⟩:=NZ (2 * (cG sm).length) (by omega) N0 eg kf.out.2.2.2.1
 have hw2:IntKind.i64.wrap (2 * ((cG sm).length:Int))=2 * ((cG sm).length:Int):=bT (by omega) (by omega)
 rw[show((2 * (cG sm).length:Nat):Int)=2 * ((cG sm).length:Int) by omega] at c6
 have bk:fj Tryz.prog 27 [(1,.agg [X,Y]),(2,C)]=some (.agg (cI 0 X Y C)):=by
  obtain⟨_,_,_,rfl,-⟩:=kf.out.1.form
  obtain⟨_,_,rfl,-⟩:=kf.out.2.1
  obtain⟨_,_,rfl,-⟩:=kSC.out.2.1
  kernel_rfl
 have s1:=stK kT.out.tb (hY (ep:=0) kf.out.1 kf.out.2.1 kSC.out.2.1)
 have t1:=kT.out.put (dG 0 X Y C nl W nl nl)
 have s2:=stS t1.tb kSC.out.1.aC
 have t2:=t1.put (dG 0 X Y C S W nl nl)
 have s3:=stN t2.tb hZ2.aC
 have t3:=t2.put (dG 0 X Y C S W nl Z2)
 have kT3:=ah.mk t3
 have kZ:=ah.mk hZ2
 have l4:ai Tryz.prog Gt (((H.put (h.boxes.length+1) (dG 0 X Y C nl W nl nl)).put (h.boxes.length+1) (dG 0 X Y C S W nl nl)).put (h.boxes.length+1) (dG 0 X Y C S W nl Z2)) 23 (.ptr (.box (h.boxes.length+1)) 5)=some W:=aQ mo t3.tb rfl
 obtain⟨H3,hH3⟩:∃H3,((H.put (h.boxes.length+1) (dG 0 X Y C nl W nl nl)).put (h.boxes.length+1) (dG 0 X Y C S W nl nl)).put (h.boxes.length+1) (dG 0 X Y C S W nl Z2)=H3:=⟨_,rfl⟩
 rw[hH3] at kT3 l4 s3
 have kself:ah (cB Z2 Z2=true):=⟨by obtain⟨t,s,rfl,-⟩:=hZ2;exact sO t s _⟩
 clear t1 t2 t3 hZ2 kT hi hlt
 unfold im at *
 repeat' (first|simp(maxSteps:=999999)(disch:=first|exact dZ|fail)only[gW,reduceIte,aaN,gBQ,ob,mw, *]|refine dX ?_ ?_<;>(intro _;try omega))
 refine bf rV kZq ?_
 refine gx2 @ob @mw ?_
 refine Run.gen fun e0 he0 hd0 hp0 hr0=>?_
 have f10:e0.get 10=.ptr (.box (h.boxes.length+1)) 0:=by rw[he0];exact gA
 have f127:e0.get 127=W:=by rw[he0];exact gS
 have f128:e0.get 128=.v (.int .i64 ((cG sm).length:Nat)):=by rw[he0];exact gS
 have f129:e0.get 129=.v (.int .i64 (0:Nat)):=by rw[he0];exact gR
 have fd:e0.defers=[]:=by rw[hd0];exact gA
 clear he0 hd0 hp0 hr0 l1 l3 s1 s2 s3 c6 hw2 bk l4 g3 g5 g10 g17 g18 g100 g101 g102 hd lnW hH3
 generalize hNS:eG (2 * (cG sm).length) eg=NS at *
 have hNl:NS.length=2 * (cG sm).length:=by rw[<-hNS,iu]
 have hpk:∀k<(cG sm).length,(eJ (cG sm) NS)[k]?=some ⟨at0 (cG sm) k,at0 (cG sm) k%7,(aY Gn (at0 NS (2 * k)):Nat),(aY Gn (at0 NS (2 * k+1)):Nat)⟩:=fun k hk=>by
  unfold eJ;rw[aa0,ace hk];rfl
 have kpk:=ah.mk hpk
 clear hpk
 refine aD (fun m e H=>∃(i:Nat) (t:Tok) (sz:Nat),i<=(cG sm).length/\m=(cG sm).length - i/\ah (TI h H X Y (dG 0 X Y C S W (.list t sz (eR ((eJ (cG sm) NS).take i))) Z2) t)/\ah (sz=4∨((eJ (cG sm) NS).take i=[]/\t=.nil))/\
  e.get 10=.ptr (.box (h.boxes.length+1)) 0/\e.get 127=W/\e.get 128=.v (.int .i64 ((cG sm).length:Nat))/\e.get 129=.v (.int .i64 (i:Nat))/\e.defers=[]) ?_ (cG sm).length _ _ ?_
 rotate_left 1
 ·exact⟨0,.nil,0,aa4 _,rfl,kT3,⟨.inr ⟨rfl,rfl⟩⟩,f10,f127,f128,f129,fd⟩
 clear f10 f127 f128 f129 fd kT3 H3
 rintro m e H ⟨i,t,sz,hi,rfl,kT,ksz,g10,g127,g128,g129,hd⟩
 by_cases hlt:i<(cG sm).length
 ·have ixW:=kW.out.ix hlt
  have ldW:=ldi (H:=H) (s:=1) hlt
  have hn16:=HJ (sm:=sm) (at0 (cG sm) i) (by rw[bN hlt];exact abj _)
  have ixA:=kZ.out.ix (i:=2 * i) (by omega)
  have ixB:=kZ.out.ix (i:=2 * i+1) (by omega)
  have ldA:∀K:ae,ai Tryz.prog Gt K 3 (.elem 1 (ints NS) (2 * i) 0)=some (.v (.int .i64 (at0 NS (2 * i)))):=fun K=>ldi (by omega)
  have ldB:∀K:ae,ai Tryz.prog Gt K 3 (.elem 1 (ints NS) (2 * i+1) 0)=some (.v (.int .i64 (at0 NS (2 * i+1)))):=fun K=>ldi (by omega)
  rw[show((2 * i:Nat):Int)=2 * (i:Int) by omega] at ixA
  rw[show((2 * i+1:Nat):Int)=2 * (i:Int)+1 by omega] at ixB
  have hwA:IntKind.i64.wrap (2 * (i:Int))=2 * (i:Int):=bT (by omega) (by omega)
  have hwB:IntKind.i64.wrap (2 * (i:Int)+1)=2 * (i:Int)+1:=bT (by omega) (by omega)
  have hpi:=kpk.out i hlt
  have c7:=K8 (at0 (cG sm) i) (at0 NS (2 * i)) (at0 NS (2 * i+1)) ⟨by omega,by omega⟩
  have ktk:=ah.mk (a9 hpi)
  clear hpi
  generalize (⟨at0 (cG sm) i,at0 (cG sm) i%7,(aY Gn (at0 NS (2 * i)):Nat),(aY Gn (at0 NS (2 * i+1)):Nat)⟩:Pr)=pr at *
  have lN:ai Tryz.prog Gt H 23 (.ptr (.box (h.boxes.length+1)) 7)=some Z2:=aQ mo kT.out.tb rfl
  have zc:=zK
  have st:=oV (H:=H) pr
  have ld85:=oW (ak H (aq pr))
  have t1:=kT.out.push (aq pr)
  have lL:ai Tryz.prog Gt (H.push (aq pr)) 29 (.ptr (.box (h.boxes.length+1)) 6)=some (.list t sz (eR ((eJ (cG sm) NS).take i))):=aQ KP t1.tb rfl
  have ap:=Tu (p:=pr) (l:=(eJ (cG sm) NS).take i) (by rw[aa6];omega) ksz.out t1.can
  rw[<-ktk.out] at ap
  have bl:=Sc pr
  have t2:=t1.app
  have sL:=stL t2.tb (x:=.list (.free (H.push (aq pr)).tn) 4 (eR ((eJ (cG sm) NS).take (i+1)))) rfl
  have kT2:=ah.mk (t2.put (dG 0 X Y C S W (.list (.free (H.push (aq pr)).tn) 4 (eR ((eJ (cG sm) NS).take (i+1)))) Z2))
  have lN2:ai Tryz.prog Gt (H.push (aq ⟨0,0,0,0⟩)) 23 (.ptr (.box (h.boxes.length+1)) 7)=some Z2:=aQ mo (kT.out.push (aq ⟨0,0,0,0⟩)).tb rfl
  have hltI:(i:Int)<((cG sm).length:Int):=by omega
  clear t1 t2 kT
  unfold im at *
  generalize at0 (cG sm) i=who at *
  generalize at0 NS (2 * i)=nA at *
  generalize at0 NS (2 * i+1)=nB at *
  refine gx2 @ob @mw ?_
  refine bU [(2,18),(6,18),(8,18),(13,18)] rV kZq (fun p hp=>?_) ?_
  ·simp only[abx,acD,or_false] at hp
   rcases hp with rfl|rfl|rfl|rfl
   ·refine dH (x:=.ptr (.box (h.boxes.length+1)) 7) (v:=Z2) kZq rfl rfl rfl kZq (kself.out) ?_ ?_<;>(simp only[abd,abn];exact gz3 @ob @mw @and_self)
   ·refine dH (x:=.elem 1 (ints NS) (2 * i) 0) (v:=.v (.int .i64 nA)) kZq rfl rfl rfl kZq (by simp[cB,gB]) ?_ ?_<;>(simp only[abd,abn];exact gz3 @ob @mw @and_self)
   ·refine dH (x:=.ptr (.box (h.boxes.length+1)) 7) (v:=Z2) kZq rfl rfl rfl kZq (kself.out) ?_ ?_<;>(simp only[abd,abn];exact gz3 @ob @mw @and_self)
   ·refine dH (x:=.elem 1 (ints NS) (2 * i+1) 0) (v:=.v (.int .i64 nB)) kZq rfl rfl rfl kZq (by simp[cB,gB]) ?_ ?_<;>(simp only[abd,abn];exact gz3 @ob @mw @and_self)
  refine gx2 @ob @mw ?_
  exact⟨(cG sm).length - (i+1),by omega,i+1,_,4,by omega,rfl,(by first|exact kT2|trivial),⟨.inl rfl⟩,by simp⟩
 have hie:i=(cG sm).length:=by omega
 subst hie
 rw[aa3 (by rw[qK];exact aaP _)] at kT ksz
 have hP:PL (.list t sz (eR (eJ (cG sm) NS))) (eJ (cG sm) NS):=⟨t,sz,rfl,fun q=>ksz.out.resolve_right fun z=>q z.1⟩
 have kP:=ah.mk hP
 have htab:=pI (ep:=0) kf.out.1 kf.out.2.1 kSC.out.2.1 kSC.out.1 kW.out hP kZ.out
 clear hP ksz
 generalize AV.list t sz (eR (eJ (cG sm) NS))=L at *
 have l2:=Lb kT.out.tb rfl
 have s2:=PY kT.out.tb rfl htab rfl
 rw[ec kT.out.tb] at s2
 clear htab hi hlt kpk
 repeat' (first|simp(maxSteps:=999999)(disch:=first|exact dZ|fail)only[gW,reduceIte,aaN,gBQ,ob,mw, *]|refine dX ?_ ?_<;>(intro _;try omega))
 exact⟨_,_,rfl,kT.out.ext,.inr ⟨ku.out,C,S,W,L,Z2,rfl,kSC.out.2.1,kSC.out.1,kW.out,by rw[hNS];exact kP.out,by rw[hNS];exact kZ.out⟩⟩
theorem Ng:Tryz.f27.results.toList=[.tmp 4,.tmp 5]:=kZq
theorem PZ:Tryz.f25.results.toList=[.cell 4 50,.tmp 5]:=kZq
structure Lc(rows:List (List Int))(owners aa:List Int)(sh:List (Int × Int))(who:List Int)(l:List Pr)(nn:List Int)(X Y C S W L N:AV):Prop where
 x:RL X rows
 y:IL Y owners
 c:IL C aa
 s:SL S sh
 w:IL W who
 p:PL L l
 n:IL N nn
 wl:who.length<=16
 nl:nn.length=2 * who.length
 sl:sh.length<=1000
 inn:∀p∈sh,0<=p.1/\p.1<owners.length
 cl:aa.length<=1000000
 ll:l.length<=1000000
def rX(rows:List (List Int))(owners:List Int)(ep:Int)(aa:List Int)(sh:List (Int × Int))(who:List Int)(l:List Pr)(nn:List Int)(text:List UInt8)(i:Nat):Int × Int:=
 fN rows owners ep aa text l (at0 who i) (ofF owners [at0 who i] sh) (at0 nn (2 * i)) (at0 nn (2 * i+1))
def iT(rows:List (List Int))(owners:List Int)(ep:Int)(aa:List Int)(sh:List (Int × Int))(who:List Int)(l:List Pr)(nn:List Int)(text:List UInt8):List Int:=
 (aaV who.length).map fun i=>(rX rows owners ep aa sh who l nn text i).1
structure TB(h H:ae)(T:List AV)(t:Tok):Prop where
 ext:Ext h H
 ok:aZ H=true
 can:bG h.tn H t
 tb:H.boxes[h.boxes.length]?=some T
section
variable {h H:ae} {T:List AV} {t:Tok}
theorem TB.app(b:TB h H T t):TB h (H.app t) T (.free H.tn):=by
 have gr:=Grown.one b.can b.ok b.ext.tn
 exact⟨gr.ext b.ext (aaP _),gr.ok,gr.can,by rw[aT];exact b.tb⟩
theorem TB.push(b:TB h H T t)(cs:List AV):TB h (H.push cs) T t:=⟨b.ext.trans (.push _ _),b.ok,by rw[ij];exact b.can,aj b.tb⟩
theorem TB.start(hok:aZ h=true)(T:List AV):TB h (h.push T) T .nil:=⟨.push _ _,hok,.inl rfl,ak _ _⟩
end
theorem Sd{H:ae}{b:Nat}{ep:Int}{X Y C S W L N:AV}(hb:H.boxes[b]?=some (dG ep X Y C S W L N)):ai Tryz.prog Gt H 27 (.ptr (.box b) 0)=some (.agg (cI ep X Y C)):=by
 rw[cP kZq Nc hb (abb rfl)];rfl
theorem Se{H:ae}{b:Nat}{ep:Int}{X Y C S W L N:AV}(hb:H.boxes[b]?=some (dG ep X Y C S W L N)):ai Tryz.prog Gt H 25 (.ptr (.box b) 1)=some (.agg [X,Y]):=by
 rw[cP G9 (by kernel_rfl:bF Tryz.prog 25=some 2) hb (abb rfl)];rfl
theorem Nh(h:ae)(hok:aZ h=true)(ep:Int)(X Y C S W L N Tx:AV)(rows:List (List Int))(owners aa:List Int)(sh:List (Int × Int))(who:List Int)(l:List Pr)(nn:List Int)(text:List UInt8)
 (ht:Lc rows owners aa sh who l nn X Y C S W L N) (hx:BL Tx text) (hz:∀i<who.length,(rX rows owners ep aa sh who l nn text i).2=0):
 ∃r h',W6.call 27 [.agg (dG ep X Y C S W L N),Tx] h=some (r,h')/\Ext h h'/\∃Z,r=.ret (.tuple [Z,.v (.bool true)])/\IL Z (iT rows owners ep aa sh who l nn text):=by
 have bx:=pI (ep:=ep) ht.x ht.y ht.c ht.s ht.w ht.p ht.n
 have kT:=ah.mk (TB.start hok (dG ep X Y C S W L N))
 have l1:ai Tryz.prog Gt (h.push (dG ep X Y C S W L N)) 23 (.ptr (.box h.boxes.length) 5)=some W:=aQ mo kT.out.tb rfl
 have lnW:=ht.w.cH
 have kt:=ah.mk (aaO ht (aaO hx (aaO hz hok)))
 have hwl:=ht.wl
 have hnl:=ht.nl
 have hpk:∀k<who.length,(iT rows owners ep aa sh who l nn text)[k]?=some (rX rows owners ep aa sh who l nn text k).1:=fun k hk=>by
  unfold iT;rw[aa0,ace hk];rfl
 have hpl:(iT rows owners ep aa sh who l nn text).length=who.length:=by unfold iT;simp
 have kpk:=ah.mk (aaO hpk hpl)
 clear ht hx hz hok hpk hpl
 obtain⟨H0,hH0⟩:∃H0,h.push (dG ep X Y C S W L N)=H0:=⟨_,rfl⟩
 rw[hH0] at kT l1
 refine aL rfl Tryz.func27 rfl ?_
 refine gx4 @Ng @aw @mw @hH0 ?_
 refine Run.gen fun e0 he0 hd0 hp0 hr0=>?_
 have f1:e0.get 1=Tx:=by rw[he0];exact gS
 have f2:e0.get 2=.ptr (.box h.boxes.length) 0:=by rw[he0];exact gS
 have f4:e0.get 4=.list .nil 0 []:=by rw[he0];exact gS
 have f11:e0.get 11=W:=by rw[he0];exact gS
 have f12:e0.get 12=.v (.int .i64 (who.length:Nat)):=by rw[he0];exact gS
 have f13:e0.get 13=.v (.int .i64 (0:Nat)):=by rw[he0];exact gR
 have fd:e0.defers=[]:=by rw[hd0];exact gS
 clear he0 hd0 hp0 hr0 l1 lnW bx hH0
 refine aD (fun m e H=>∃(i:Nat) (t:Tok) (sz:Nat),i<=who.length/\m=who.length - i/\ah (TB h H (dG ep X Y C S W L N) t)/\ah (sz=1∨((iT rows owners ep aa sh who l nn text).take i=[]/\t=.nil))/\
  e.get 1=Tx/\e.get 2=.ptr (.box h.boxes.length) 0/\e.get 4=.list t sz (ints ((iT rows owners ep aa sh who l nn text).take i))/\e.get 11=W/\e.get 12=.v (.int .i64 (who.length:Nat))/\e.get 13=.v (.int .i64 (i:Nat))/\e.defers=[]) ?_ who.length _ _ ?_
 rotate_left 1
 ·exact⟨0,.nil,0,aa4 _,rfl,kT,⟨.inr ⟨rfl,rfl⟩⟩,f1,f2,f4,f11,f12,f13,fd⟩
 clear f1 f2 f4 f11 f12 f13 fd kT H0
 rintro m e H ⟨i,t,sz,hi,rfl,kT,ksz,g1,g2,g4,g11,g12,g13,hd⟩
 by_cases hlt:i<who.length
 ·have ixW:=kt.out.1.w.ix hlt
  have ldW:=ldi (H:=H) (s:=1) hlt
  have ixA:=kt.out.1.n.ix (i:=2 * i) (by omega)
  have ixB:=kt.out.1.n.ix (i:=2 * i+1) (by omega)
  have ldA:∀K:ae,ai Tryz.prog Gt K 3 (.elem 1 (ints nn) (2 * i) 0)=some (.v (.int .i64 (at0 nn (2 * i)))):=fun K=>ldi (by omega)
  have ldB:∀K:ae,ai Tryz.prog Gt K 3 (.elem 1 (ints nn) (2 * i+1) 0)=some (.v (.int .i64 (at0 nn (2 * i+1)))):=fun K=>ldi (by omega)
  rw[show((2 * i:Nat):Int)=2 * (i:Int) by omega] at ixA
  rw[show((2 * i+1:Nat):Int)=2 * (i:Int)+1 by omega] at ixB
  have hwA:IntKind.i64.wrap (2 * (i:Int))=2 * (i:Int):=bT (by omega) (by omega)
  have hwB:IntKind.i64.wrap (2 * (i:Int)+1)=2 * (i:Int)+1:=bT (by omega) (by omega)
  have lN:ai Tryz.prog Gt H 23 (.ptr (.box h.boxes.length) 7)=some N:=aQ mo kT.out.tb rfl
  have lL:ai Tryz.prog Gt H 29 (.ptr (.box h.boxes.length) 6)=some L:=aQ KP kT.out.tb rfl
  have lS:ai Tryz.prog Gt H 36 (.ptr (.box h.boxes.length) 4)=some S:=aQ M9 kT.out.tb rfl
  have lK:=Sd kT.out.tb
  have aaA:=Se kT.out.tb
  have blw:=pQ (at0 who i)
  obtain⟨U,hU,c1⟩:=of6 X Y S (.list .tight 1 (ints [at0 who i])) rows owners [at0 who i] sh kt.out.1.x kt.out.1.y kt.out.1.s ⟨_,_,rfl,fun _=>rfl⟩ kt.out.1.sl (by simp) kt.out.1.inn
  have hUl:(ofF owners [at0 who i] sh).length<=1000000:=by have:=zM owners [at0 who i] sh;have:=kt.out.1.sl;simp at *;omega
  have c2:=NX ep X Y C Tx L rows owners aa text l kt.out.1.x kt.out.1.y kt.out.1.c kt.out.2.1 kt.out.1.p kt.out.1.cl kt.out.1.ll U _ (at0 who i) (at0 nn (2 * i)) (at0 nn (2 * i+1)) hU hUl
  have hpi:=kpk.out.1 i hlt
  have hzi:=kt.out.2.2.1 i hlt
  change ∀h,W6.call 20 _ h=some (.ret (.tuple [im (rX rows owners ep aa sh who l nn text i).1,im (rX rows owners ep aa sh who l nn text i).2]),h) at c2
  rw[hzi] at c2
  have ktk:=ah.mk (a9 hpi)
  clear hpi hzi hU hUl
  generalize (rX rows owners ep aa sh who l nn text i).1=zi at *
  have ap:=wI (x:=zi) (es:=(iT rows owners ep aa sh who l nn text).take i) (by rw[aa6];omega) ksz.out kT.out.can
  rw[<-ktk.out] at ap
  have bl:=pQ zi
  have kT2:=ah.mk kT.out.app
  have hltI:(i:Int)<(who.length:Int):=by omega
  clear kT
  unfold im at *
  change ∀h,W6.call 80 [.agg [X,Y],S,.list .tight 1 [[.v (.int .i64 (at0 who i))]]] h=_ at c1
  generalize at0 who i=wi at *
  generalize at0 nn (2 * i)=nA at *
  generalize at0 nn (2 * i+1)=nB at *
  refine gx3 @Ng @mw @dS ?_
  refine bf rV kZq ?_
  refine gx3 @Ng @mw @dS ?_
  exact⟨who.length - (i+1),by omega,i+1,_,1,by omega,rfl,(by first|exact kT2|trivial),⟨.inl rfl⟩,by simp⟩
 have hie:i=who.length:=by omega
 subst hie
 rw[aa3 (by rw[kpk.out.2];exact aaP _)] at g4 ksz
 clear hi hlt
 repeat' (first|simp(maxSteps:=999999)(disch:=first|exact dZ|fail)only[gW,reduceIte,aaN,gBQ,Ng, *]|refine dX ?_ ?_<;>(intro _;try omega))
 exact⟨_,_,rfl,kT.out.ext,_,rfl,t,sz,rfl,fun q=>ksz.out.resolve_right fun z=>q z.1⟩
theorem Sf:(ej Tryz.prog 50).bind AV.aC=some [im 0,im 0]:=kZq
theorem P1:bF Tryz.prog 50=some 2:=kZq
theorem Tv:cZ Tryz.prog 50=some true:=kZq
theorem Sg:(∀b,aJ Tryz.prog 50 (.ptr (.box b) 0) 0=some (.ptr (.box b) 0))/\∀b,aJ Tryz.prog 50 (.ptr (.box b) 0) 1=some (.ptr (.box b) 1):=
 ⟨fun b=>kZq,fun b=>kZq⟩
theorem Sh{H:ae}{b:Nat}{x y:Int}(hb:H.boxes[b]?=some [im x,im y]):ai Tryz.prog Gt H 50 (.ptr (.box b) 0)=some (.agg [im x,im y]):=by
 rw[cP Tv P1 hb (aaP 2)];rfl
theorem Tw{H:ae}{b:Nat}{x y u v:Int}(hb:H.boxes[b]?=some [im x,im y]):aA Tryz.prog H 50 (.ptr (.box b) 0) (.agg [im u,im v])=some (H.put b [im u,im v]):=
 aW (off:=0) (cs:=[im x,im y]) (xs:=[im u,im v]) rfl P1 hb rfl (aaP 2)
theorem Si{H:ae}{b:Nat}{x y u:Int}(hb:H.boxes[b]?=some [im x,im y]):aA Tryz.prog H 3 (.ptr (.box b) 0) (im u)=some (H.put b [im u,im y]):=
 aW (off:=0) (cs:=[im x,im y]) (xs:=[im u]) rfl sz3 hb rfl (abb rfl)
theorem Sj{H:ae}{b:Nat}{x y v:Int}(hb:H.boxes[b]?=some [im x,im y]):aA Tryz.prog H 3 (.ptr (.box b) 1) (im v)=some (H.put b [im x,im v]):=
 aW (off:=1) (cs:=[im x,im y]) (xs:=[im v]) rfl sz3 hb rfl (abb rfl)
def sU(z:List Int)(k:Nat):Int:=(z.take k).foldl cN 0
theorem HK{z:List Int}{k:Nat}(h:k<z.length):sU z (k+1)=cN (sU z k) (at0 z k):=by
 unfold sU
 rw[a9 (aaM h),List.foldl_append,bN h];rfl
theorem Ld(h:ae)(hok:aZ h=true)(ep:Int)(X Y C S W L N Tx:AV)(rows:List (List Int))(owners aa:List Int)(sh:List (Int × Int))(who:List Int)(l:List Pr)(nn:List Int)(text:List UInt8)
 (ht:Lc rows owners aa sh who l nn X Y C S W L N) (hx:BL Tx text) (hz:∀i<who.length,(rX rows owners ep aa sh who l nn text i).2=0) (hb:cd rows owners ep aa text l=0):
 ∃r h',W6.call 25 [.agg (dG ep X Y C S W L N),Tx] h=some (r,h')/\Ext h h'/\r=.ret (.tuple [.agg [im ((aG (at0 aa 0) text l:Nat):Int),im ((iT rows owners ep aa sh who l nn text).foldl cN 0)],.v (.bool true)]):=by
 have bx:=pI (ep:=ep) ht.x ht.y ht.c ht.s ht.w ht.p ht.n
 have zc:=Sf
 have hT:(h.push (dG ep X Y C S W L N)).boxes[h.boxes.length]?=some (dG ep X Y C S W L N):=ak _ _
 have hn1:(h.push (dG ep X Y C S W L N)).boxes.length=h.boxes.length+1:=az _ _
 have hG:=ak (h.push (dG ep X Y C S W L N)) [im 0,im 0]
 rw[hn1] at hG
 obtain⟨H0,hH0⟩:∃H0,(h.push (dG ep X Y C S W L N)).push [im 0,im 0]=H0:=⟨_,rfl⟩
 have hT0:H0.boxes[h.boxes.length]?=some (dG ep X Y C S W L N):=by rw[<-hH0];exact aj hT
 rw[hH0] at hG
 have x0:Ext h H0:=by rw[<-hH0];exact(Ext.push _ _).trans (.push _ _)
 obtain⟨_,H1,c1,x1,Z,rfl,hZ⟩:=Nh H0 (x0.ok hok) ep X Y C S W L N Tx rows owners aa sh who l nn text ht hx hz
 obtain⟨Zb,-,c2⟩:∃Z,IL Z (mr (at0 aa 0) text l)/\∀h,W6.call 17 [.agg (cI ep X Y C),Tx,L] h=some (.ret (.tuple [Z,im ((dA (at0 aa 0) text l:Nat):Int),im ((aG (at0 aa 0) text l:Nat):Int),im 0]),h):=by
  rcases E3 ep X Y C Tx L rows owners aa text l ht.x ht.y ht.c hx ht.p ht.cl ht.ll with⟨z,-⟩|⟨-,z⟩
  ·exact absurd hb z
  ·exact z
 have l0:=Lb hT0 rfl
 have hT1:=x1.box _ _ hT0
 have hG1:=x1.box _ _ hG
 have lK:=Sd hT1
 have lL:ai Tryz.prog Gt H1 29 (.ptr (.box h.boxes.length) 6)=some L:=aQ KP hT1 rfl
 have hzl:(iT rows owners ep aa sh who l nn text).length<=16:=by unfold iT;have:=ht.wl;simp;omega
 have lnZ:=hZ.cH
 generalize iT rows owners ep aa sh who l nn text=z at *
 generalize ((dA (at0 aa 0) text l:Nat):Int)=pt at *
 generalize ((aG (at0 aa 0) text l:Nat):Int)=ch at *
 have kx:=ah.mk (x0.trans x1)
 have kZ:=ah.mk hZ
 have hgl:=(aaL.1 hG1).1
 have se:aA Tryz.prog H1 3 (.ptr (.box (h.boxes.length+1)) 0) (im ch)=some (H1.put (h.boxes.length+1) [im ch,im 0]):=Si hG1
 have kI:ah (Ext h (H1.put (h.boxes.length+1) [im ch,im 0])/\(H1.put (h.boxes.length+1) [im ch,im 0]).boxes[h.boxes.length+1]?=some [im ch,im (sU z 0)]):=⟨kx.out.bZ (by omega) _,aS hgl⟩
 clear hx hz hb ht hT hT0 hT1 x0 x1 hG hG1 hZ hok kx
 unfold im at *
 refine aL rfl Tryz.func25 rfl ?_
 refine gx6 @PZ @aw @mw @Sg @hn1 @hH0 ?_
 refine Run.gen fun e0 he0 hd0 hp0 hr0=>?_
 have f4:e0.get 4=.ptr (.box (h.boxes.length+1)) 0:=by rw[he0];simp only[gW,reduceIte,aaN,gBQ,hn1]
 have f39:e0.get 39=Z:=by rw[he0];exact gS
 have f40:e0.get 40=.v (.int .i64 (z.length:Nat)):=by rw[he0];exact gS
 have f41:e0.get 41=.v (.int .i64 (0:Nat)):=by rw[he0];exact gR
 have fd:e0.defers=[]:=by rw[hd0];exact gS
 clear he0 hd0 hp0 hr0 l0 lnZ bx hH0 hn1 zc c1 c2 lK lL se hgl
 refine aD (fun m e H=>∃(i:Nat),i<=z.length/\m=z.length - i/\ah (Ext h H/\H.boxes[h.boxes.length+1]?=some [.v (.int .i64 ch),.v (.int .i64 (sU z i))])/\
  e.get 4=.ptr (.box (h.boxes.length+1)) 0/\e.get 39=Z/\e.get 40=.v (.int .i64 (z.length:Nat))/\e.get 41=.v (.int .i64 (i:Nat))/\e.defers=[]) ?_ z.length _ _ ?_
 rotate_left 1
 ·exact⟨0,aa4 _,rfl,kI,f4,f39,f40,f41,fd⟩
 clear f4 f39 f40 f41 fd kI H0 H1
 rintro m e H ⟨i,hi,rfl,kI,g4,g39,g40,g41,hd⟩
 by_cases hlt:i<z.length
 ·have ix:=kZ.out.ix hlt
  have ld:=ldi (H:=H) (s:=1) hlt
  have l0:ai Tryz.prog Gt H 3 (.ptr (.box (h.boxes.length+1)) 1)=some (.v (.int .i64 (sU z i))):=aQ ag3 kI.out.2 rfl
  have c1:=K7 (sU z i) (at0 z i)
  rw[<-HK hlt] at c1
  have s1:=Sj (v:=sU z (i+1)) kI.out.2
  have kI2:ah (Ext h (H.put (h.boxes.length+1) [im ch,im (sU z (i+1))])/\(H.put (h.boxes.length+1) [im ch,im (sU z (i+1))]).boxes[h.boxes.length+1]?=some [im ch,im (sU z (i+1))]):=
   ⟨kI.out.1.bZ (by omega) _,aS (aaL.1 kI.out.2).1⟩
  have hltI:(i:Int)<(z.length:Int):=by omega
  clear kI
  unfold im at *
  refine gx2 @PZ @Sg ?_
  exact⟨z.length - (i+1),by omega,i+1,by omega,rfl,(by first|exact kI2|trivial),by simp⟩
 have hie:i=z.length:=by omega
 subst hie
 have hfin:sU z z.length=z.foldl cN 0:=by unfold sU;rw[abl]
 rw[hfin] at kI
 have l1:=Sh kI.out.2
 have s1:=Tw (u:=ch) (v:=z.foldl cN 0) kI.out.2
 have hp:=ec kI.out.2
 unfold im at *
 rw[hp] at s1
 clear hi hlt hfin hp
 repeat' (first|simp(maxSteps:=999999)(disch:=first|exact dZ|fail)only[gW,reduceIte,aaN,gBQ,PZ, *]|refine dX ?_ ?_<;>(intro _;try omega))
 exact⟨_,_,rfl,kI.out.1,rfl⟩
structure nM(who N:List Int)(l:List Pr):Prop where
 len:l.length=who.length
 nl:N.length=2 * who.length
 ok:∀x∈N,okF x
 at_:∀i<who.length,∃no:Int,0<=no/\no<4096/\l[i]?=some ⟨at0 who i,no,(aY Gn (at0 N (2 * i)):Nat),(aY Gn (at0 N (2 * i+1)):Nat)⟩
theorem nM.ok1{who N:List Int}{l:List Pr}(c:nM who N l){i:Nat}(h:i<who.length):okF (at0 N (2 * i))/\okF (at0 N (2 * i+1)):=⟨c.ok _ (zC (by rw[c.nl];omega)),c.ok _ (zC (by rw[c.nl];omega))⟩
theorem B2(who N:List Int)(h1:N.length=2 * who.length)(h2:∀x∈N,okF x):nM who N (eJ who N):=by
 refine⟨qK _ _,h1,h2,fun i hi=>⟨at0 who i%7,acX _ (by decide),?_,?_⟩⟩
 ·have:=acz (at0 who i) (show(0:Int)<7 by decide);omega
 ·unfold eJ;rw[aa0,ace hi];rfl
theorem nM.dj{who N:List Int}{l:List Pr}(c:nM who N l):l.map Pr.ag=who:=by
 refine abZ fun i=>?_
 rcases aa9 i who.length with h|h
 ·obtain⟨no,-,-,q⟩:=c.at_ i h
  rw[aa0,q,aa7,bN h,aaM h]
 ·rw[abB (by rw[aaR,c.len];exact h),abB h]
theorem uo(n:Int):aX ((aY Gn n:Nat):Int)=true:=by
 have h:=iq gZ n
 unfold aX
 rw[aa1,h,ac0,decide_eq_true_eq]
 have:=(elem_iff.1 h).1
 omega
theorem nV:∀{l:List Pr} {last:Int},cS last (l.map Pr.ag)=true->(∀p∈l,0<=p.no/\p.no<4096/\aX p.d=true/\aX p.e=true)->dy last l=true:=by
 intro l
 induction l with
 |nil=>intro _ _ _;rfl
 |cons p l ih=>
  intro last h1 h2
  rw[aa8,cS] at h1
  simp only[aaQ,decide_eq_true_eq] at h1
  obtain⟨q1,q2,q3,q4⟩:=h2 p aba
  rw[NT.dy,ih h1.2 fun q hq=>h2 q (aa5 _ hq),q3,q4]
  simp only[ac0,aaQ,decide_eq_true_eq]
  omega
theorem nM.mem{who N:List Int}{l:List Pr}(c:nM who N l){p:Pr}(hp:p∈l):∃i,∃(_:i<who.length) (no:Int),0<=no/\no<4096/\l[i]?=some p/\p=⟨at0 who i,no,(aY Gn (at0 N (2 * i)):Nat),(aY Gn (at0 N (2 * i+1)):Nat)⟩:=by
 obtain⟨i,hi⟩:=List.getElem?_of_mem hp
 have hil:=(aaL.1 hi).1
 rw[c.len] at hil
 obtain⟨no,n1,n2,q⟩:=c.at_ i hil
 rw[hi] at q
 injection q with q
 exact⟨i,hil,no,n1,n2,hi,q⟩
theorem nM.E6{who N:List Int}{l:List Pr}(c:nM who N l)(hw:cS (-1) who=true):dy (-1) l=true:=by
 refine nV (by rw[c.dj];exact hw) fun p hp=>?_
 obtain⟨i,hi,no,n1,n2,-,rfl⟩:=c.mem hp
 exact⟨n1,n2,uo _,uo _⟩
def ixW(who:List Int)(k:Int):Nat:=who.idxOf k
theorem Lf{who:List Int}(hn:who.Nodup){i:Nat}(h:i<who.length):ixW who (at0 who i)=i:=by
 unfold ixW
 rw[bN h]
 exact hn.idxOf_getElem i h
theorem nM.Ty{who N:List Int}{l:List Pr}(c:nM who N l)(hw:cS (-1) who=true):O1 l (fun k=>at0 N (2 * ixW who k)) (fun k=>at0 N (2 * ixW who k+1)):=by
 intro p hp
 obtain⟨i,hi,no,n1,n2,-,rfl⟩:=c.mem hp
 simp only[Lf (nH hw).2 hi]
 exact⟨trivial,trivial⟩
theorem P2{rows:List (List Int)}{owners s:List Int}(hl:rows.length=owners.length)(k:Int):ofF owners [k] (fV rows s)=gK owners (bO rows s) k:=by
 unfold ofF gK cT fV
 rw[hl]
 have e:∀(L:List Nat),(∀i∈L,i<rows.length)->(L.map fun i=>(((i:Nat):Int),oa (rows.getD i []) s)).flatMap (mc owners [k])=(L.filter fun i=>decide (at0 owners i=k)).map fun i=>(((i:Nat):Int),at0 (bO rows s) i):=by
  intro L
  induction L with
  |nil=>intro _;rfl
  |cons i L ih=>
   intro hL
   have hi:=hL i aba
   rw[aa8,List.flatMap_cons,ih fun j hj=>hL j (aa5 _ hj),adD]
   unfold mc
   rw[aa1]
   by_cases q:at0 owners i=k
   ·rw[if_pos (by simp[q]),List.filter_cons_of_pos (by simp[q]),aa8,aa8,sN hi];rfl
   ·rw[if_neg (by simp[q]),List.filter_cons_of_neg (by simp[Ne.symm q])];rfl
 exact e _ fun i hi=>by rw[hl];exact abf.1 hi
section
variable {rows:List (List Int)} {owners who N s y:List Int} {l:List Pr} {text:List UInt8} {ep:Int}
theorem nN{aa:List Int}(c:nM who N l)(ha:bJ rows owners who=(y,true,0))(hne:who≠[])(hwl:who.length<=64)(ht:text.length<=65536)(he:0<=ep/\ep<=64)(hc:aa.length=aK rows)(hce:aa.all aX=true):cd rows owners ep aa text l=0:=by
 obtain⟨hp,hw,-⟩:=e7 ha
 unfold cd
 rw[if_neg (by simp[hp]),if_neg (by simp[hc,hce,he.1,he.2]),if_neg (by omega),if_neg (by rw[c.len];omega),if_neg (by rw[c.E6 hw];simp),c.dj,ha]
 have:who.length≠0:=fun q=>hne (List.length_eq_zero_iff.1 q)
 simp[c.len,this]
theorem eE(hs:s.length=aK rows):(ax s).length=aK rows/\(ax s).all aX=true:=⟨by unfold ax;rw[aaR,hs],zx⟩
theorem sV(c:nM who N l)(ha:bJ rows owners who=(y,true,0))(hne:who≠[])(hwl:who.length<=64)(ht:text.length<=65536)(he:0<=ep/\ep<=64)(hs:s.length=aK rows){i:Nat}(hi:i<who.length):
 fN rows owners ep (ax s) text l (at0 who i) (gK owners (bO rows s) (at0 who i)) (at0 N (2 * i)) (at0 N (2 * i+1))=
  (fD rows owners (ax s) text l (at0 who i) (at0 N (2 * i)) (at0 N (2 * i+1)) (gK owners (bO rows s) (at0 who i)),0):=by
 obtain⟨hp,hw,-⟩:=e7 ha
 unfold fN
 rw[if_neg (by rw[nN c ha hne hwl ht he (eE hs).1 (eE hs).2];simp)]
 obtain⟨no,-,-,q⟩:=c.at_ i hi
 have hm:=aaY q
 exact MA hp hs (c.E6 hw) hm rfl rfl (c.ok1 hi).1 (c.ok1 hi).2
theorem HL(c:nM who N l)(ha:bJ rows owners who=(y,true,0))(hne:who≠[])(hwl:who.length<=64)(ht:text.length<=65536)(he:0<=ep/\ep<=64)(hs:s.length=aK rows){i:Nat}(hi:i<who.length){z:Int}(hz:okF z):
 ia rows owners ep (ax s) text l (at0 who i) z=
  (decide (z=fD rows owners (ax s) text l (at0 who i) (at0 N (2 * i)) (at0 N (2 * i+1)) (gK owners (bO rows s) (at0 who i))),0):=by
 obtain⟨hp,hw,-⟩:=e7 ha
 unfold ia
 rw[if_neg (by rw[nN c ha hne hwl ht he (eE hs).1 (eE hs).2];simp)]
 obtain⟨no,-,-,q⟩:=c.at_ i hi
 have hm:=aaY q
 have hpo:=EA (c.E6 hw) hm
 unfold tG
 rw[hpo]
 simp only[iP.2 hz,ad0,abm,if_false]
 rw[JF hp hs rfl rfl hz]
theorem vY(c:nM who N l)(ha:bJ rows owners who=(y,true,0))(hs:s.length=aK rows):
 iO (at0 (ax s) 0) text ((aG (at0 (ax s) 0) text l:Nat):Int) (((aaV who.length).map fun i=>fD rows owners (ax s) text l (at0 who i) (at0 N (2 * i)) (at0 N (2 * i+1)) (gK owners (bO rows s) (at0 who i))).foldl cN 0)=true:=by
 obtain⟨hp,hw,-⟩:=e7 ha
 have hsg:=QU (text:=text) (l:=l) (by rw[c.dj];exact ha) hs (c.Ty hw)
 rw[c.dj] at hsg
 have e:(who.map fun k=>fD rows owners (ax s) text l k (at0 N (2 * ixW who k)) (at0 N (2 * ixW who k+1)) (gK owners (bO rows s) k))=(aaV who.length).map fun i=>fD rows owners (ax s) text l (at0 who i) (at0 N (2 * i)) (at0 N (2 * i+1)) (gK owners (bO rows s) (at0 who i)):=by
  refine abZ fun i=>?_
  rcases aa9 i who.length with h|h
  ·have hx:=Lf (nH hw).2 h
   rw[aa0,aa0,ace h,aaM h,aa7,aa7]
   rw[bN h] at hx ⊢
   rw[hx]
  ·rw[abB (by simpa using h),abB (by simpa using h)]
 rw[e] at hsg
 exact hsg
end
def R3:List (List Int):=[[1,1],[1,2],[1,3]]
def O3:List Int:=[0,1,2]
def S2:List Int:=[10,4]
def txt:List UInt8:=[116,101,120,116]
def pA:Pr:=⟨0,0,(aY Gn 5:Nat),(aY Gn 6:Nat)⟩
def pB:Pr:=⟨2,2,(aY Gn 7:Nat),(aY Gn 8:Nat)⟩
theorem BR:bJ R3 O3 [0,2]=([536870896,0,536870894],true,0):=by decide+kernel
theorem Tz:bJ R3 O3 [0]=([],false,0):=by decide+kernel
theorem N2:bC R3 O3=0:=by decide+kernel
theorem Sk:mb R3 O3 10 [4]=0:=by decide+kernel
theorem P3:fV R3 S2=[(0,14),(1,18),(2,22)]:=by decide+kernel
theorem Lg:gK O3 (bO R3 S2) 0=[(0,14)]:=by decide+kernel
theorem N3:gK O3 (bO R3 S2) 2=[(2,22)]:=by decide+kernel
theorem yg:nM [0,2] [5,6,7,8] [pA,pB]:=by
 refine⟨rfl,rfl,fun x hx=>?_,fun i hi=>?_⟩
 ·simp only[abx,acD,or_false] at hx
  rcases hx with rfl|rfl|rfl|rfl<;>exact⟨by decide,by decide⟩
 ·match i,hi with
  |0,_=>exact⟨0,by decide,by decide,rfl⟩
  |1,_=>exact⟨2,by decide,by decide,rfl⟩
  |i+2,hi=>simp at hi;omega
abbrev C3:List Int:=ax S2
abbrev b3(k:Int):Int:=((dP (at0 C3 0) txt [pA,pB] k:Nat):Int)
abbrev ch3:Int:=((aG (at0 C3 0) txt [pA,pB]:Nat):Int)
theorem D1:cd R3 O3 0 C3 txt [pA,pB]=0:=nN yg BR (by simp) (by simp) (by decide) (by decide) (eE (rows:=R3) (s:=S2) rfl).1 (eE (rows:=R3) (s:=S2) rfl).2
theorem E7:cd R3 O3 0 C3 txt []=420:=by
 unfold cd
 rw[if_neg (by rw[N2];simp),if_neg (by rw[(eE (rows:=R3) (s:=S2) rfl).1,(eE (rows:=R3) (s:=S2) rfl).2];decide),if_neg (by decide),if_neg (by decide),if_neg (by decide)]
 split
 simp
theorem E8:cd R3 O3 0 C3 txt [pA]=420:=by
 have hw:dy (-1) [pA]=true:=nV (by decide) fun p hp=>by
  rw[abC] at hp;subst hp
  exact⟨by decide,by decide,uo _,uo _⟩
 unfold cd
 rw[if_neg (by rw[N2];simp),if_neg (by rw[(eE (rows:=R3) (s:=S2) rfl).1,(eE (rows:=R3) (s:=S2) rfl).2];decide),if_neg (by decide),if_neg (by decide),if_neg (by rw[hw];simp)]
 have e:[pA].map Pr.ag=[0]:=rfl
 rw[e,Tz]
 simp
def x3:Int:=cN (cN 5 (cq 6 (b3 0))) (cq ch3 21)
def y3:Int:=cN (cN 7 (cq 8 (b3 2))) (cq ch3 1073741778)
theorem B4:aM R3 O3 [pA,pB]=[536870896,0,536870894]:=by
 unfold aM
 have e:[pA,pB].map Pr.ag=[0,2]:=rfl
 rw[e,BR]
theorem D2:fD R3 O3 C3 txt [pA,pB] 0 5 6 [(0,14)]=x3:=by
 unfold fD x3
 rw[B4]
 have e:fh [536870896,0,536870894] [(0,14)]=21:=by decide+kernel
 rw[e]
theorem Lh:fD R3 O3 C3 txt [pA,pB] 2 7 8 [(2,22)]=y3:=by
 unfold fD y3
 rw[B4]
 have e:fh [536870896,0,536870894] [(2,22)]=1073741778:=by decide+kernel
 rw[e]
theorem P4:fN R3 O3 0 C3 txt [pA,pB] 0 [(0,14)] 5 6=(x3,0):=by
 have h:=sV (i:=0) (text:=txt) (ep:=0) (s:=S2) yg BR (by simp) (by simp) (by decide) (by decide) rfl (by decide)
 change fN R3 O3 0 C3 txt [pA,pB] 0 (gK O3 (bO R3 S2) 0) 5 6=(fD R3 O3 C3 txt [pA,pB] 0 5 6 (gK O3 (bO R3 S2) 0),0) at h
 rw[Lg,D2] at h
 exact h
theorem P5:fN R3 O3 0 C3 txt [pA,pB] 2 [(2,22)] 7 8=(y3,0):=by
 have h:=sV (i:=1) (text:=txt) (ep:=0) (s:=S2) yg BR (by simp) (by simp) (by decide) (by decide) rfl (by decide)
 change fN R3 O3 0 C3 txt [pA,pB] 2 (gK O3 (bO R3 S2) 2) 7 8=(fD R3 O3 C3 txt [pA,pB] 2 7 8 (gK O3 (bO R3 S2) 2),0) at h
 rw[N3,Lh] at h
 exact h
theorem P6:fN R3 O3 0 C3 txt [pA,pB] 1 [(1,18)] 7 8=(0,1):=by
 unfold fN rN
 rw[if_neg (by rw[D1];simp)]
 have e:gl [pA,pB] 1=none:=rfl
 rw[e]
theorem P7:ia R3 O3 0 C3 txt [pA,pB] 0 1073741789=(false,1):=by
 unfold ia tG
 rw[if_neg (by rw[D1];simp)]
 have e:gl [pA,pB] 0=some pA:=rfl
 rw[e]
 rfl
theorem Li:okF x3:=oI _ _
theorem Sl:ia R3 O3 0 C3 txt [pA,pB] 0 x3=(true,0):=by
 have h:=HL (i:=0) (text:=txt) (ep:=0) (s:=S2) yg BR (by simp) (by simp) (by decide) (by decide) rfl (by decide) Li
 change ia R3 O3 0 C3 txt [pA,pB] 0 x3=(decide (x3=fD R3 O3 C3 txt [pA,pB] 0 5 6 (gK O3 (bO R3 S2) 0)),0) at h
 rw[Lg,D2] at h
 rw[h];simp
def HM:Int:=cN (cq (b3 0) 6) (cN (cq (b3 2) 8) (cN 12 (cq ch3 10)))
theorem Sm:cN x3 y3=HM:=by
 unfold x3 y3 HM
 generalize b3 0=a
 generalize b3 2=b
 generalize ch3=c
 simp only[jU,fR,Qi]
 omega
theorem Ni:iO (at0 C3 0) txt ch3 HM=true:=by
 have h:=vY (text:=txt) (s:=S2) yg BR rfl
 change iO (at0 C3 0) txt ch3 (cN (cN 0 (fD R3 O3 C3 txt [pA,pB] 0 5 6 (gK O3 (bO R3 S2) 0))) (fD R3 O3 C3 txt [pA,pB] 2 7 8 (gK O3 (bO R3 S2) 2)))=true at h
 rw[Lg,N3,D2,Lh] at h
 have e:cN 0 x3=x3:=by rw[jU,Int.zero_add];exact acp Li.1 Li.2
 rw[e,Sm] at h
 exact h
theorem P8:aX ((dA (at0 C3 0) txt [pA,pB]:Nat):Int)=true:=by
 have hw:dy (-1) [pA,pB]=true:=yg.E6 (by decide)
 have h:=vQ (c0:=at0 C3 0) (text:=txt) hw
 unfold aX
 rw[aa1,h,ac0,decide_eq_true_eq]
 have:=(elem_iff.1 h).1
 omega
theorem Lj:Tryz.f15.results.toList=[.tmp 0]:=kZq
theorem P9(a b:Int):aN Tryz.prog 23 2 [(0,.v (.int .i64 a)),(1,.v (.int .i64 b))]=some (.list .tight 1 (ints [a,b])):=kZq
def X3:AV:=.list .tight 1 [[.list .tight 1 (ints [1,1])],[.list .tight 1 (ints [1,2])],[.list .tight 1 (ints [1,3])]]
def Y3:AV:=.list .tight 1 (ints [0,1,2])
def Z3:AV:=.list .tight 1 (ints [4])
def T3:AV:=.list .held 1 (u8s txt)
theorem rl3:RL X3 R3:=by
 refine⟨.tight,1,[.list .tight 1 (ints [1,1]),.list .tight 1 (ints [1,2]),.list .tight 1 (ints [1,3])],rfl,fun _=>rfl,rfl,fun i a r ha hr=>?_⟩
 match i with
 |0=>injection ha with ha;injection hr with hr;subst ha;subst hr;exact⟨_,_,rfl,fun _=>rfl⟩
 |1=>injection ha with ha;injection hr with hr;subst ha;subst hr;exact⟨_,_,rfl,fun _=>rfl⟩
 |2=>injection ha with ha;injection hr with hr;subst ha;subst hr;exact⟨_,_,rfl,fun _=>rfl⟩
 |i+3=>simp at ha
theorem il3:IL Y3 O3:=⟨_,_,rfl,fun _=>rfl⟩
theorem bt3:BL T3 txt:=⟨_,_,rfl,fun _=>rfl⟩
theorem blT:aN Tryz.prog 28 4 [(0,.v (.int .u8 116)),(1,.v (.int .u8 101)),(2,.v (.int .u8 120)),(3,.v (.int .u8 116))]=some (.list .tight 1 (u8s txt)):=kZq
theorem B8(h:ae)(hok:aZ h=true)(es:List (List AV)):∃H5 H6,h.fresh 1 es=(.list (.free h.tn) 1 es,H5)/\fm Tryz.prog H5 28 28 (.list (.free h.tn) 1 es)=some (.list .held 1 es,H6)/\Ext h H6/\H6.boxes=h.boxes:=by
 have hal:alive {h with tn:=h.tn+1} h.tn=true:=by
  unfold aZ at hok
  unfold alive
  simp only[aaQ,decide_eq_true_eq,Bool.not_eq_true']
  refine⟨Nat.lt_succ_self _,?_⟩
  cases hc:h.dead.contains h.tn with
  |false=>rfl
  |true=>
   have:=aa2.1 hok h.tn (by simpa using hc)
   simp at this
 have u28:=Tryz.underlying28
 have u5:Tryz.prog.underlying 5=some (.int .u8):=kZq
 refine⟨{h with tn:=h.tn+1},{h with tn:=h.tn+1,dead:=h.tn::h.dead},rfl,?_,?_,rfl⟩
 ·unfold fm
  rw[u28]
  simp only[u5,hal,and_self,if_true]
 ·refine⟨fun _ _ q=>q,fun _ _ q=>q,Nat.le_succ _,fun n hn q=>?_,fun ho=>?_⟩
  ·rcases abx.1 q with q|q
   ·omega
   ·exact q
  ·unfold aZ at *
   rw[List.all_cons,aaQ]
   refine⟨by simp,aa2.2 fun x hx=>?_⟩
   have:=aa2.1 ho x hx
   simp at this ⊢
   omega
theorem So:fj Tryz.prog 25 [(0,X3),(1,Y3)]=some (.agg [X3,Y3]):=kZq
theorem Sp:aN Tryz.prog 22 3 [(0,.list .tight 1 (ints [1,1])),(1,.list .tight 1 (ints [1,2])),(2,.list .tight 1 (ints [1,3]))]=some X3:=kZq
theorem Sq:aN Tryz.prog 23 3 [(0,.v (.int .i64 0)),(1,.v (.int .i64 1)),(2,.v (.int .i64 2))]=some Y3:=kZq
theorem Sr:aN Tryz.prog 23 1 [(0,.v (.int .i64 4))]=some Z3:=kZq
theorem Qa(p q:Pr):aN Tryz.prog 29 2 [(0,.agg (aq p)),(1,.agg (aq q))]=some (.list .tight 4 (eR [p,q])):=kZq
theorem TA:(ej Tryz.prog 25).bind AV.aC=some [nl,nl]:=kZq
theorem TC:(ej Tryz.prog 27).bind AV.aC=some (cI 0 nl nl nl):=kZq
theorem TD{X Y C:AV}{rows:List (List Int)}{owners aa:List Int}(hx:RL X rows)(hy:IL Y owners)(hc:IL C aa):fj Tryz.prog 27 [(1,.agg [X,Y]),(2,C)]=some (.agg (cI 0 X Y C)):=by
 obtain⟨_,_,_,rfl,-⟩:=hx.form
 obtain⟨_,_,rfl,-⟩:=hy
 obtain⟨_,_,rfl,-⟩:=hc
 kernel_rfl
theorem TE(k:Tok)(a b c:Int × Int):ck Tryz.prog 36 (.list k 2 (bL [a,b,c])) none (some (.v (.int .i64 1))) none=some (.list (gO k false false 1) 2 (bL [a])):=kZq
theorem TF(k:Tok)(a b c:Int × Int):ck Tryz.prog 36 (.list k 2 (bL [a,b,c])) (some (.v (.int .i64 2))) none none=some (.list (gO k true false 1) 2 (bL [c])):=kZq
theorem TG(k:Tok)(a b c:Int × Int):ck Tryz.prog 36 (.list k 2 (bL [a,b,c])) (some (.v (.int .i64 1))) (some (.v (.int .i64 2))) none=some (.list (gO k false false 1) 2 (bL [b])):=kZq
theorem TH(a b:Int):fj Tryz.prog 50 [(0,im a),(1,im b)]=some (.agg [im a,im b]):=kZq
theorem Qb(h:ae)(hok:aZ h=true):∃r h',W6.call 15 [] h=some (r,h')/\Ext h h'/\r=.ret (.v (.bool true)):=by
 obtain⟨U,C,hU,hC,c1⟩:∃U C,SL U [(0,14),(1,18),(2,22)]/\IL C C3/\∀h,W6.call 44 [.agg [X3,Y3],im 10,Z3] h=some (.ret (.tuple [U,C,im 0]),h):=by
  rcases N1 X3 Y3 Z3 R3 O3 [4] 10 rl3 il3 ⟨_,_,rfl,fun _=>rfl⟩ (by decide) (by decide) with⟨z,-⟩|⟨-,U,C,z1,z2,z3⟩
  ·exact absurd Sk z
  ·exact⟨U,C,by have:=P3;unfold S2 at this;rw[this] at z1;exact z1,z2,z3⟩
 have c2:∀h,W6.call 45 [im 0,im 5,im 6] h=some (.ret (.tuple [.agg (aq pA),.v (.bool true)]),h):=K8 0 5 6 (by decide)
 have c3:∀h,W6.call 45 [im 2,im 7,im 8] h=some (.ret (.tuple [.agg (aq pB),.v (.bool true)]),h):=K8 2 7 8 (by decide)
 have hL2:PL (.list .tight 4 (eR [pA,pB])) [pA,pB]:=⟨_,_,rfl,fun _=>rfl⟩
 have hL1:PL (.list .tight 4 (eR [pA])) [pA]:=⟨_,_,rfl,fun _=>rfl⟩
 have hL0:PL nl []:=⟨_,_,rfl,fun q=>absurd rfl q⟩
 have hcl:C3.length<=1000000:=by decide
 obtain⟨Zb,hZb,c4⟩:∃Z,IL Z [b3 0,b3 2]/\∀h,W6.call 17 [.agg (cI 0 X3 Y3 C),T3,.list .tight 4 (eR [pA,pB])] h=some (.ret (.tuple [Z,im ((dA (at0 C3 0) txt [pA,pB]:Nat):Int),im ch3,im 0]),h):=by
  rcases E3 0 X3 Y3 C T3 _ R3 O3 C3 txt [pA,pB] rl3 il3 hC bt3 hL2 hcl (by decide) with⟨z,-⟩|⟨-,z⟩
  ·exact absurd D1 z
  ·exact z
 have c5:∀h,W6.call 17 [.agg (cI 0 X3 Y3 C),T3,nl] h=some (.ret (.tuple [nl,im 0,im 0,im 420]),h):=by
  rcases E3 0 X3 Y3 C T3 _ R3 O3 C3 txt [] rl3 il3 hC bt3 hL0 hcl (by decide) with⟨-,z⟩|⟨z,-⟩
  ·rw[E7] at z;exact z
  ·rw[E7] at z;exact absurd z (by decide)
 have c6:∀h,W6.call 17 [.agg (cI 0 X3 Y3 C),T3,.list .tight 4 (eR [pA])] h=some (.ret (.tuple [nl,im 0,im 0,im 420]),h):=by
  rcases E3 0 X3 Y3 C T3 _ R3 O3 C3 txt [pA] rl3 il3 hC bt3 hL1 hcl (by decide) with⟨-,z⟩|⟨z,-⟩
  ·rw[E8] at z;exact z
  ·rw[E8] at z;exact absurd z (by decide)
 obtain⟨k,s,rfl,hs⟩:=hU
 have hs2:s=2:=hs (by simp)
 subst hs2
 have mk:=fun(t:Tok) (l:List (Int × Int)) (n d f:Int) (hl:l.length<=1000000)=>NX 0 X3 Y3 C T3 _ R3 O3 C3 txt [pA,pB] rl3 il3 hC bt3 hL2 hcl (by decide) (.list t 2 (bL l)) l n d f ⟨_,_,rfl,fun _=>rfl⟩ hl
 have c7:=mk (gO k false false 1) [(0,14)] 0 5 6 (by decide)
 have c8:=mk (gO k true false 1) [(2,22)] 2 7 8 (by decide)
 have c9:=mk (gO k false false 1) [(1,18)] 1 7 8 (by decide)
 rw[P4] at c7
 rw[P5] at c8
 rw[P6] at c9
 have c10:=NY 0 X3 Y3 C T3 _ R3 O3 C3 txt [pA,pB] rl3 il3 hC bt3 hL2 hcl (by decide) 0 1073741789
 have c11:=NY 0 X3 Y3 C T3 _ R3 O3 C3 txt [pA,pB] rl3 il3 hC bt3 hL2 hcl (by decide) 0 x3
 rw[P7] at c10
 rw[Sl] at c11
 have m1:=PT (b3 0) 6
 have m2:=PT (b3 2) 8
 have m3:=PT ch3 10
 have m4:=K7 12 (cq ch3 10)
 have m5:=K7 (cq (b3 2) 8) (cN 12 (cq ch3 10))
 have m6:∀h,W6.call 28 [im (cq (b3 0) 6),im (cN (cq (b3 2) 8) (cN 12 (cq ch3 10)))] h=some (.ret (im HM),h):=K7 (cq (b3 0) 6) (cN (cq (b3 2) 8) (cN 12 (cq ch3 10)))
 have m7:=K7 x3 y3
 rw[Sm] at m7
 have m8:=PU ((dA (at0 C3 0) txt [pA,pB]:Nat):Int)
 rw[P8] at m8
 have m9:=E4 (at0 C3 0) ch3 HM T3 txt bt3 (by decide)
 rw[Ni] at m9
 have lnZ:cH Tryz.prog 23 Zb=some (.v (.int .i64 2)):=hZb.cH
 have ix0:ay Tryz.prog 23 Zb (.v (.int .i64 0))=some (.elem 1 (ints [b3 0,b3 2]) 0 0):=hZb.ix (i:=0) (by simp)
 have ix1:ay Tryz.prog 23 Zb (.v (.int .i64 1))=some (.elem 1 (ints [b3 0,b3 2]) 1 0):=hZb.ix (i:=1) (by simp)
 have ld0:∀K:ae,ai Tryz.prog Gt K 3 (.elem 1 (ints [b3 0,b3 2]) 0 0)=some (.v (.int .i64 (b3 0))):=fun K=>ldi (by simp)
 have ld1:∀K:ae,ai Tryz.prog Gt K 3 (.elem 1 (ints [b3 0,b3 2]) 1 0)=some (.v (.int .i64 (b3 2))):=fun K=>ldi (by simp)
 have ixC:ay Tryz.prog 23 C (.v (.int .i64 0))=some (.elem 1 (ints C3) 0 0):=hC.ix (i:=0) (by decide)
 have ldC:∀K:ae,ai Tryz.prog Gt K 3 (.elem 1 (ints C3) 0 0)=some (.v (.int .i64 (at0 C3 0))):=fun K=>ldi (by decide)
 have bk:=TD rl3 il3 hC
 have bp:=Qa pA pB
 have bq:aN Tryz.prog 29 1 [(0,.agg (aq pA))]=some (.list .tight 4 (eR [pA])):=Sc pA
 have sl1:=TE k (0,14) (1,18) (2,22)
 have sl2:=TF k (0,14) (1,18) (2,22)
 have sl3:=TG k (0,14) (1,18) (2,22)
 have lnU:cH Tryz.prog 36 (.list k 2 (bL [(0,14),(1,18),(2,22)]))=some (.v (.int .i64 3)):=by
  have:SL (.list k 2 (bL [(0,14),(1,18),(2,22)])) [(0,14),(1,18),(2,22)]:=⟨_,_,rfl,fun _=>rfl⟩
  exact this.cH
 have kcell:(AV.agg (cI 0 X3 Y3 C)).aC=some (cI 0 X3 Y3 C):=hY rl3 il3 hC
 have pcell:(AV.agg [X3,Y3]).aC=some [X3,Y3]:=ff rl3 il3
 obtain⟨H1,hH1⟩:∃H1,h.push [X3,Y3]=H1:=⟨_,rfl⟩
 obtain⟨H2,hH2⟩:∃H2,H1.push (aq pA)=H2:=⟨_,rfl⟩
 obtain⟨H3,hH3⟩:∃H3,H2.push (aq pB)=H3:=⟨_,rfl⟩
 obtain⟨H4,hH4⟩:∃H4,H3.push (cI 0 X3 Y3 C)=H4:=⟨_,rfl⟩
 have s1:aA Tryz.prog (h.push [nl,nl]) 25 (.ptr (.box h.boxes.length) 0) (.agg [X3,Y3])=some H1:=by rw[<-hH1];exact cQ pcell kZq rfl rfl
 have s2:aA Tryz.prog (H1.push (aq ⟨0,0,0,0⟩)) 85 (.ptr (.box H1.boxes.length) 0) (.agg (aq pA))=some H2:=by rw[<-hH2];exact oV pA
 have s3:aA Tryz.prog (H2.push (aq ⟨0,0,0,0⟩)) 85 (.ptr (.box H2.boxes.length) 0) (.agg (aq pB))=some H3:=by rw[<-hH3];exact oV pB
 have s4:aA Tryz.prog (H3.push (cI 0 nl nl nl)) 27 (.ptr (.box H3.boxes.length) 0) (.agg (cI 0 X3 Y3 C))=some H4:=by rw[<-hH4];exact cQ kcell Nc rfl rfl
 have b1:H1.boxes[h.boxes.length]?=some [X3,Y3]:=by rw[<-hH1];exact ak _ _
 have b2:H2.boxes[H1.boxes.length]?=some (aq pA):=by rw[<-hH2];exact ak _ _
 have b3':H3.boxes[H2.boxes.length]?=some (aq pB):=by rw[<-hH3];exact ak _ _
 have b4:H4.boxes[H3.boxes.length]?=some (cI 0 X3 Y3 C):=by rw[<-hH4];exact ak _ _
 have o2:∀{b:Nat} {cs:List AV},H1.boxes[b]?=some cs->H2.boxes[b]?=some cs:=fun q=>by rw[<-hH2];exact aj q
 have o3:∀{b:Nat} {cs:List AV},H2.boxes[b]?=some cs->H3.boxes[b]?=some cs:=fun q=>by rw[<-hH3];exact aj q
 have o4:∀{b:Nat} {cs:List AV},H3.boxes[b]?=some cs->H4.boxes[b]?=some cs:=fun q=>by rw[<-hH4];exact aj q
 have x4:Ext h H4:=by
  rw[<-hH4,<-hH3,<-hH2,<-hH1]
  exact(((Ext.push _ _).trans (.push _ _)).trans (.push _ _)).trans (.push _ _)
 obtain⟨H5,H6,f1,f2,x6,f3⟩:=B8 H4 (x4.ok hok) (u8s txt)
 have l0:ai Tryz.prog Gt H1 25 (.ptr (.box h.boxes.length) 0)=some (.agg [X3,Y3]):=ma b1
 have l1:ai Tryz.prog Gt H3 25 (.ptr (.box h.boxes.length) 0)=some (.agg [X3,Y3]):=ma (o3 (o2 b1))
 have l2:ai Tryz.prog Gt H6 85 (.ptr (.box H1.boxes.length) 0)=some (.agg (aq pA)):=oW (by rw[f3];exact o4 (o3 b2))
 have l3:ai Tryz.prog Gt H6 85 (.ptr (.box H2.boxes.length) 0)=some (.agg (aq pB)):=oW (by rw[f3];exact o4 b3')
 have l4:ai Tryz.prog Gt H6 27 (.ptr (.box H3.boxes.length) 0)=some (.agg (cI 0 X3 Y3 C)):=by
  rw[cP kZq Nc (by rw[f3];exact b4) (abb rfl)];rfl
 have kx:=ah.mk (x4.trans x6)
 have g1:=So
 have g2:=Sp
 have g3:=Sq
 have g4:=Sr
 have g5:=blT
 unfold T3 at *
 clear hL2 hL1 hL0 hcl hC hZb mk hs kcell b1 b2 b3' b4 o2 o3 o4 x4 x6 f3 hH1 hH2 hH3 hH4 hok
 generalize aq pA=rA at *
 generalize aq pB=rB at *
 generalize eR [pA,pB]=rAB at *
 generalize eR [pA]=rA1 at *
 generalize ((dA (at0 C3 0) txt [pA,pB]:Nat):Int)=pt at *
 generalize b3 0=v0 at *
 generalize b3 2=v2 at *
 generalize ch3=vc at *
 generalize at0 C3 0=key at *
 generalize u8s txt=tt at *
 generalize X3=X at *
 generalize Y3=Y at *
 generalize Z3=Z at *
 generalize x3=x at *
 generalize y3=y at *
 generalize HM=sec at *
 generalize ([(0,14),(1,18),(2,22)]:List (Int × Int))=shs at *
 have bd:=TH vc sec
 unfold im at *
 refine aL rfl Tryz.func15 rfl ?_
 refine gx5 @Lj @P9 @TA @TC @zK ?_
 refine Run.gen fun e0 he0 hd0 hp0 hr0=>?_
 have q0_0:e0.get 0=.v (.bool false):=by rw[he0];exact gS
 have q0_2:e0.get 2=.list k 2 (bL shs):=by rw[he0];exact gS
 have q0_3:e0.get 3=C:=by rw[he0];exact gS
 have q0_5:e0.get 5=.ptr (.box H1.boxes.length) 0:=by rw[he0];exact gS
 have q0_7:e0.get 7=.ptr (.box H2.boxes.length) 0:=by rw[he0];exact gS
 have q0_9:e0.get 9=.ptr (.box H3.boxes.length) 0:=by rw[he0];exact gS
 have q0_10:e0.get 10=.list .held 1 tt:=by rw[he0];exact gS
 have q0_11:e0.get 11=Zb:=by rw[he0];exact gS
 have q0_12:e0.get 12=.v (.int .i64 pt):=by rw[he0];exact gS
 have q0_13:e0.get 13=.v (.int .i64 vc):=by rw[he0];exact gS
 have q0_14:e0.get 14=.v (.int .i64 0):=by rw[he0];exact gS
 have q0_18:e0.get 18=.v (.int .i64 420):=by rw[he0];exact gS
 have q0_22:e0.get 22=.v (.int .i64 420):=by rw[he0];exact gS
 have q0_d:e0.defers=[]:=by rw[hd0];exact gS
 clear he0 hd0 hp0 hr0 c1 c2 c3 c4 c5 c6 s1 s2 s3 s4 l0 l1 f1 f2 g1 g2 g3 g4 g5 bk bq
 refine bf rV kZq ?_
 refine gx1 @Lj ?_
 refine Run.gen fun e1 he1 hd1 hp1 hr1=>?_
 have q1_0:e1.get 0=.v (.bool false):=by rw[he1];exact gA
 have q1_2:e1.get 2=.list k 2 (bL shs):=by rw[he1];exact gA
 have q1_3:e1.get 3=C:=by rw[he1];exact gA
 have q1_5:e1.get 5=.ptr (.box H1.boxes.length) 0:=by rw[he1];exact gA
 have q1_7:e1.get 7=.ptr (.box H2.boxes.length) 0:=by rw[he1];exact gA
 have q1_9:e1.get 9=.ptr (.box H3.boxes.length) 0:=by rw[he1];exact gA
 have q1_10:e1.get 10=.list .held 1 tt:=by rw[he1];exact gA
 have q1_11:e1.get 11=Zb:=by rw[he1];exact gA
 have q1_12:e1.get 12=.v (.int .i64 pt):=by rw[he1];exact gA
 have q1_13:e1.get 13=.v (.int .i64 vc):=by rw[he1];exact gA
 have q1_14:e1.get 14=.v (.int .i64 0):=by rw[he1];exact gA
 have q1_18:e1.get 18=.v (.int .i64 420):=by rw[he1];exact gA
 have q1_22:e1.get 22=.v (.int .i64 420):=by rw[he1];exact gA
 have q1_23:e1.get 23=.v (.int .i64 x):=by rw[he1];exact gA
 have q1_24:e1.get 24=.v (.int .i64 0):=by rw[he1];exact gA
 have q1_d:e1.defers=[]:=by rw[hd1];exact gA
 clear he1 hd1 hp1 hr1 q0_0 q0_2 q0_3 q0_5 q0_7 q0_9 q0_10 q0_11 q0_12 q0_13 q0_14 q0_18 q0_22 q0_d c7 sl1
 refine bf rV kZq ?_
 refine gx1 @Lj ?_
 refine Run.gen fun e2 he2 hd2 hp2 hr2=>?_
 have q2_0:e2.get 0=.v (.bool false):=by rw[he2];exact gA
 have q2_2:e2.get 2=.list k 2 (bL shs):=by rw[he2];exact gA
 have q2_3:e2.get 3=C:=by rw[he2];exact gA
 have q2_5:e2.get 5=.ptr (.box H1.boxes.length) 0:=by rw[he2];exact gA
 have q2_7:e2.get 7=.ptr (.box H2.boxes.length) 0:=by rw[he2];exact gA
 have q2_9:e2.get 9=.ptr (.box H3.boxes.length) 0:=by rw[he2];exact gA
 have q2_10:e2.get 10=.list .held 1 tt:=by rw[he2];exact gA
 have q2_11:e2.get 11=Zb:=by rw[he2];exact gA
 have q2_12:e2.get 12=.v (.int .i64 pt):=by rw[he2];exact gA
 have q2_13:e2.get 13=.v (.int .i64 vc):=by rw[he2];exact gA
 have q2_14:e2.get 14=.v (.int .i64 0):=by rw[he2];exact gA
 have q2_18:e2.get 18=.v (.int .i64 420):=by rw[he2];exact gA
 have q2_22:e2.get 22=.v (.int .i64 420):=by rw[he2];exact gA
 have q2_23:e2.get 23=.v (.int .i64 x):=by rw[he2];exact gA
 have q2_24:e2.get 24=.v (.int .i64 0):=by rw[he2];exact gA
 have q2_25:e2.get 25=.v (.int .i64 y):=by rw[he2];exact gA
 have q2_26:e2.get 26=.v (.int .i64 0):=by rw[he2];exact gA
 have q2_d:e2.defers=[]:=by rw[hd2];exact gA
 clear he2 hd2 hp2 hr2 q1_0 q1_2 q1_3 q1_5 q1_7 q1_9 q1_10 q1_11 q1_12 q1_13 q1_14 q1_18 q1_22 q1_23 q1_24 q1_d c8 sl2
 refine bf rV kZq ?_
 refine gx1 @Lj ?_
 refine bf rV kZq ?_
 refine gx1 @Lj ?_
 exact⟨_,_,rfl,kx.out,rfl⟩
section
variable {rows:List (List Int)} {owners random eg:List Int} {secret sm:Int} {text:List UInt8}
theorem vZ(hu:na rows owners sm=true):∃y,bC rows owners=0/\rows.length<=16/\aK rows<=16/\bJ rows owners (cG sm)=(y,true,0)/\cG sm≠[]/\(cG sm).length<=16/\cS (-1) (cG sm)=true:=by
 unfold na at hu
 simp only[aaQ,decide_eq_true_eq] at hu
 obtain⟨h1,h2,h3⟩:=hu
 unfold jN at h1
 simp only[aaQ,decide_eq_true_eq] at h1
 have h4:=rW h1.1.2 (qJ sm)
 refine⟨(bJ rows owners (cG sm)).1,h1.1.2,h1.1.1,h1.2,?_,h3,vW _ _,qJ sm⟩
 rw[<-h2,<-h4]
theorem tQ(hp:bC rows owners=0):(dk rows secret random).length=aK rows:=by
 have:=(fI hp).1
 unfold dk;rw[abo,iu];omega
theorem Ss(who:List Int)(eg:List Int):nM who (eG (2 * who.length) eg) (eJ who (eG (2 * who.length) eg)):=
 B2 _ _ (iu _ _) (BO _)
def yh(rows:List (List Int))(owners s who N:List Int)(l:List Pr)(text:List UInt8)(i:Nat):Int:=
 fD rows owners (ax s) text l (at0 who i) (at0 N (2 * i)) (at0 N (2 * i+1)) (gK owners (bO rows s) (at0 who i))
theorem B9{who N s y:List Int}{l:List Pr}{ep:Int}(c:nM who N l)(ha:bJ rows owners who=(y,true,0))(hne:who≠[])(hwl:who.length<=64)(ht:text.length<=65536)(he:0<=ep/\ep<=64)(hs:s.length=aK rows){i:Nat}(hi:i<who.length):
 rX rows owners ep (ax s) (fV rows s) who l N text i=(yh rows owners s who N l text i,0):=by
 obtain⟨hp,-⟩:=e7 ha
 unfold rX yh
 rw[P2 (fk hp).1]
 exact sV c ha hne hwl ht he hs hi
theorem HN{who N s y:List Int}{l:List Pr}{ep:Int}(c:nM who N l)(ha:bJ rows owners who=(y,true,0))(hne:who≠[])(hwl:who.length<=64)(ht:text.length<=65536)(he:0<=ep/\ep<=64)(hs:s.length=aK rows):
 iT rows owners ep (ax s) (fV rows s) who l N text=(aaV who.length).map (yh rows owners s who N l text):=by
 unfold iT
 refine acs fun i hi=>?_
 rw[B9 c ha hne hwl ht he hs (abf.1 hi)]
theorem Nj{s:List Int}(hp:bC rows owners=0):∀p∈fV rows s,0<=p.1/\p.1<owners.length:=by
 intro p hp2
 unfold fV at hp2
 obtain⟨i,hi,rfl⟩:=abE.1 hp2
 have h1:=abf.1 hi
 have h2:=(fk hp).1
 constructor
 ·exact Int.natCast_nonneg i
 ·show((i:Nat):Int)<_
  omega
theorem TJ{X Y C S W L N:AV}(hu:na rows owners sm=true)(hx:RL X rows)(hy:IL Y owners)(h1:IL C (ax (dk rows secret random)))(h2:SL S (fV rows (dk rows secret random)))(h3:IL W (cG sm))(h4:PL L (eJ (cG sm) (eG (2 * (cG sm).length) eg)))(h5:IL N (eG (2 * (cG sm).length) eg)):
 Lc rows owners (ax (dk rows secret random)) (fV rows (dk rows secret random)) (cG sm) (eJ (cG sm) (eG (2 * (cG sm).length) eg)) (eG (2 * (cG sm).length) eg) X Y C S W L N:=by
 obtain⟨y,p1,p2,p3,p4,p5,p6,p7⟩:=vZ hu
 refine⟨hx,hy,h1,h2,h3,h4,h5,p6,iu _ _,by rw[pF];omega,Nj p1,?_,by rw[qK];omega⟩
 unfold ax
 rw[aaR,tQ p1];omega
end
theorem BL.Uu{x:AV}{b:List UInt8}(h:BL x b):x.aC=some [x]:=by obtain⟨k,s,rfl,-⟩:=h;rfl
section
variable {rows:List (List Int)} {owners who N s y z:List Int} {l:List Pr} {text:List UInt8} {ep:Int}
def db(rows:List (List Int))(owners s who N:List Int)(l:List Pr)(text:List UInt8):List Int:=(aaV who.length).map (yh rows owners s who N l text)
structure lP(rows:List (List Int))(owners who N s y:List Int)(l:List Pr)(text:List UInt8)(ep:Int):Prop where
 Ur:nM who N l
 acc:bJ rows owners who=(y,true,0)
 ne:who≠[]
 wl:who.length<=64
 tl:text.length<=65536
 ep:0<=ep/\ep<=64
 sl:s.length=aK rows
theorem lP.UA(c:lP rows owners who N s y l text ep):cd rows owners ep (ax s) text l=0:=
 nN c.Ur c.acc c.ne c.wl c.tl c.ep (eE c.sl).1 (eE c.sl).2
theorem lP.QU(c:lP rows owners who N s y l text ep):iO (at0 (ax s) 0) text ((aG (at0 (ax s) 0) text l:Nat):Int) ((db rows owners s who N l text).foldl cN 0)=true:=
 vY c.Ur c.acc c.sl
end
def vf(s t:List Int):List Int:=(aaV s.length).map fun i=>cN (at0 s i) (at0 t i)
theorem Y1(s t:List Int):(vf s t).length=s.length:=by unfold vf;simp
theorem Zc{s t:List Int}{i:Nat}(h:i<s.length):at0 (vf s t) i=cN (at0 s i) (at0 t i):=by
 unfold vf
 rw[bN (by simpa using h),List.getElem_map,List.getElem_range]
theorem Zi(a b:Int):aY Gn (cN a b)=aY Gn a * aY Gn b%P:=by
 rw[<-mO gZ]
 exact vv (Bi a b)
theorem Y7{s t:List Int}(h:t.length=s.length):ax (vf s t)=(aaV s.length).map fun i=>pO (at0 (ax s) i) (at0 (ax t) i):=by
 unfold ax vf
 rw[List.map_map]
 refine acs fun i hi=>?_
 have hi:=abf.1 hi
 have e1:=tF hi
 have e2:=tF (s:=t) (j:=i) (by omega)
 unfold ax at e1 e2
 rw[Function.comp_apply,e1,e2,vP (iq gZ _) (iq gZ _),Zi]
theorem Zx(r s t:List Int)(h:r.length<=s.length):oa r (vf s t)=cN (oa r s) (oa r t):=by
 have h1:=Ez r s
 have h2:=Ez r t
 have h3:=Ez r (vf s t)
 have h4:=Bi (oa r s) (oa r t)
 have h5:Qi∣bW ((aaV r.length).map fun j=>at0 r j * at0 (vf s t) j) - bW ((aaV r.length).map fun j=>at0 r j * at0 s j+at0 r j * at0 t j):=by
  refine oO fun j hj=>?_
  have hj:=abf.1 hj
  rw[Zc (by omega),<-ad2,<-acS]
  exact Int.dvd_mul_of_dvd_right (Bi _ _)
 rw[Bd] at h5
 have h6:Qi∣oa r (vf s t) - cN (oa r s) (oa r t):=by
  obtain⟨a,ha⟩:=h1
  obtain⟨b,hb⟩:=h2
  obtain⟨c,hc⟩:=h3
  obtain⟨d,hd⟩:=h4
  obtain⟨e,he⟩:=h5
  refine⟨c+e - a - b - d,?_⟩
  rw[acS,acS,acS,ad2,<-hc,<-he,<-ha,<-hb,<-hd]
  omega
 have h7:=Bg h6
 obtain⟨l1,u1⟩:=Mz r (vf s t)
 obtain⟨l2,u2⟩:=oI (oa r s) (oa r t)
 rwa [acp l1 u1,acp l2 u2] at h7
theorem Zo{rows:List (List Int)}{owners s t:List Int}(hp:bC rows owners=0)(hs:s.length=aK rows):
 fV rows (vf s t)=(aaV rows.length).map fun i=>(((i:Nat):Int),cN (oa (rows.getD i []) s) (oa (rows.getD i []) t)):=by
 unfold fV
 refine acs fun i hi=>?_
 have hi:=abf.1 hi
 have hm:rows.getD i []∈rows:=by rw[cU hi];exact abj hi
 have:=((fk hp).2.2.1 _ hm).1
 rw[Zx _ _ _ (by omega)]
theorem YW{rows:List (List Int)}{owners who N s y:List Int}{l:List Pr}{text:List UInt8}{ep:Int}(c:lP rows owners who N s y l text ep):
 Qi∣(db rows owners s who N l text).foldl cN 0 - (bW (who.map fun k=>at0 N (2 * ixW who k)+at0 N (2 * ixW who k+1) * ((dP (at0 (ax s) 0) text l k:Nat):Int))+((aG (at0 (ax s) 0) text l:Nat):Int) * at0 s 0):=by
 obtain⟨hp,hw,-⟩:=e7 c.acc
 have h1:=GK (text:=text) (l:=l) (ld:=fun k=>at0 N (2 * ixW who k)) (le:=fun k=>at0 N (2 * ixW who k+1)) (by rw[c.Ur.dj];exact c.acc) c.sl
 rw[c.Ur.dj] at h1
 have h2:=DD (db rows owners s who N l text)
 have e:db rows owners s who N l text=who.map fun k=>fD rows owners (ax s) text l k (at0 N (2 * ixW who k)) (at0 N (2 * ixW who k+1)) (gK owners (bO rows s) k):=by
  unfold db yh
  refine(abZ fun i=>?_).symm
  rcases aa9 i who.length with h|h
  ·have hx:=Lf (nH hw).2 h
   rw[aa0,aa0,ace h,aaM h,aa7,aa7]
   rw[bN h] at hx ⊢
   rw[hx]
  ·rw[abB (by simpa using h),abB (by simpa using h)]
 rw[e] at h2 ⊢
 exact jg h2 h1
theorem Y8{rows:List (List Int)}{owners who N s t y:List Int}{l:List Pr}{text:List UInt8}{e1 e2:Int}(c:lP rows owners who N s y l text e1)(ht:t.length=s.length)(h0:at0 t 0=0)(hs:okF (at0 s 0))(he:0<=e2/\e2<=64):
 lP rows owners who N (vf s t) y l text e2/\at0 (ax (vf s t)) 0=at0 (ax s) 0/\
 (db rows owners (vf s t) who N l text).foldl cN 0=(db rows owners s who N l text).foldl cN 0:=by
 have c2:lP rows owners who N (vf s t) y l text e2:=⟨c.Ur,c.acc,c.ne,c.wl,c.tl,he,by rw[Y1];exact c.sl⟩
 obtain⟨hp,-⟩:=e7 c.acc
 have hpos:0<s.length:=by have:=(fI hp).1;have:=c.sl;omega
 have hz:at0 (vf s t) 0=at0 s 0:=by
  rw[Zc hpos,h0,jU,Int.add_zero]
  exact acp hs.1 hs.2
 have hc:at0 (ax (vf s t)) 0=at0 (ax s) 0:=by
  rw[JD hpos,JD (by rw[Y1];exact hpos),hz]
 refine⟨c2,hc,?_⟩
 have d1:=YW c
 have d2:=YW c2
 rw[hc,hz] at d2
 have h7:=Bg (jg d2 (Zh d1))
 obtain⟨l1,u1⟩:=DE (db rows owners s who N l text)
 obtain⟨l2,u2⟩:=DE (db rows owners (vf s t) who N l text)
 rwa [acp l1 u1,acp l2 u2] at h7
theorem aae:Tryz.f40.results.toList=[.tmp 4,.tmp 5,.tmp 6]:=kZq
theorem ZP:Tryz.f156.results.toList=[.tmp 2]:=kZq
theorem ZC:Tryz.f101.results.toList=[.tmp 4]:=kZq
theorem aaf:Tryz.f98.results.toList=[.tmp 2]:=kZq
theorem ZK:Tryz.f99.results.toList=[.tmp 6]:=kZq
theorem Zd{b:Nat}:aJ Tryz.prog 140 (.ptr (.box b) 0) 0=some (.ptr (.box b) 0):=kZq
theorem ZD:bF Tryz.prog 140=some 4:=kZq
theorem ZQ:cZ Tryz.prog 140=some true:=kZq
theorem Y9{H:ae}{b:Nat}{ep:Int}{X Y C:AV}(hb:H.boxes[b]?=some (cI ep X Y C)):ai Tryz.prog Gt H 140 (.ptr (.box b) 0)=some (.agg (cI ep X Y C)):=by
 rw[cP ZQ ZD hb (abb rfl)];rfl
theorem ZL(h:ae)(X Y Z S C:AV)(bx:(AV.agg [X,Y]).aC=some [X,Y])(c:∀h,W6.call 44 [.agg [X,Y],im 0,Z] h=some (.ret (.tuple [S,C,im 0]),h)):
 W6.call 40 [.agg [X,Y],Z] h=some (.ret (.tuple [S,C,im 0]),h.push [X,Y]):=by
 have l1:ai Tryz.prog Gt (h.push [X,Y]) 25 (.ptr (.box h.boxes.length) 0)=some (.agg [X,Y]):=ma (ak _ _)
 unfold im at *
 refine ar rfl Tryz.func40 rfl ?_
 exact gz2 @aae @aw
theorem Zp(n:Int)(h:ae):W6.call 156 [im n] h=some (.ret (.v (.bool (!aX n))),h):=by
 have c:=PU n
 unfold im at *
 refine ar rfl Tryz.func156 rfl ?_
 exact gz1 @ZP
theorem Y5(h:ae)(ep:Int)(X Y C L:AV)(rows:List (List Int))(owners aa l:List Int)(hx:RL X rows)(hy:IL Y owners)(hc:IL C aa)(hL:IL L l)(hl:l.length<=1000000)(h1:l.length=aK rows)(h2:l.all aX=true):
 ∃r h',W6.call 101 [.agg (cI ep X Y C),L] h=some (r,h')/\h'=h.push (cI ep X Y C)/\r=.ret (.v (.bool true)):=by
 have bx:=hY (ep:=ep) hx hy hc
 have l3:ai Tryz.prog Gt (h.push (cI ep X Y C)) 22 (.ptr (.box h.boxes.length) 1)=some X:=aQ Pk (ak _ _) rfl
 have cc:=pD (pr:=D0) rfl rfl 156 [] (fun n=> !aX n) (h.push (cI ep X Y C)) L l hL hl (fun n _=>Zp n _)
 rw[EP,h2] at cc
 have lnL:=hL.cH
 have lnX:=hx.cH
 obtain⟨k,s,xs,rfl,hs,hxl,hxr⟩:=hx
 have u22:=Tryz.underlying22
 have z23:=jC
 have hil:(xs.map fun a=>[a]).length=rows.length:=by rw[aaR];exact hxl
 rcases Nat.eq_zero_or_pos rows.length with h0|h0
 ·have hq:¬((0:Int)<(rows.length:Int)):=by omega
  have hn:((l.length:Nat):Int)=1:=by rw[h1];unfold aK;rw[if_pos h0];rfl
  clear hs hxr hc hy hL h1 h2 h0
  refine aL rfl Tryz.func101 rfl ?_
  refine gx6 @ZC @aw @Zd @dS @me @al ?_
  exact⟨_,_,rfl,rfl,rfl⟩
 ·have hq:((0:Int)<(rows.length:Int)):=by omega
  have hs1:s=1:=hs (by intro q;rw[q] at h0;simp at h0)
  subst hs1
  obtain⟨a0,hav0⟩:∃a,xs[0]?=some a:=⟨_,aaM (by omega)⟩
  obtain⟨r0,hv0⟩:∃r,rows[0]?=some r:=⟨_,aaM (by omega)⟩
  have ld0:=ldr (H:=h.push (cI ep (.list k 1 (xs.map fun a=>[a])) Y C)) (s:=1) hav0
  have ln0:=(hxr 0 a0 r0 hav0 hv0).cH
  have hn:((l.length:Nat):Int)=((r0.length:Nat):Int):=by
   rw[h1];unfold aK
   rw[if_neg (by omega),List.getD_eq_getElem?_getD,hv0];rfl
  have z0:(0:Int).toNat=0:=rfl
  clear hs hxr hc hy hL h1 h2 h0 hav0 hv0
  refine aL rfl Tryz.func101 rfl ?_
  refine gx6 @ZC @aw @Zd @dS @me @al ?_
  exact⟨_,_,rfl,rfl,rfl⟩
theorem Zy(h:ae)(ep:Int)(X Y C:AV)(rows:List (List Int))(owners aa:List Int)(hx:RL X rows)(hy:IL Y owners)(hc:IL C aa)(hl:aa.length<=1000000)(h1:aa.length=aK rows)(h2:aa.all aX=true)(he:0<=ep/\ep<=64):
 ∃r h',W6.call 98 [.agg (cI ep X Y C)] h=some (r,h')/\h'=(h.push (cI ep X Y C)).push (cI ep X Y C)/\r=.ret (.v (.bool true)):=by
 have bx:=hY (ep:=ep) hx hy hc
 obtain⟨_,_,c1,rfl,rfl⟩:=Y5 (h.push (cI ep X Y C)) ep X Y C C rows owners aa aa hx hy hc hc hl h1 h2
 have b0:=ak h (cI ep X Y C)
 have l0:ai Tryz.prog Gt (h.push (cI ep X Y C)) 3 (.ptr (.box h.boxes.length) 0)=some (.v (.int .i64 ep)):=aQ ag3 b0 rfl
 have l1:=Y9 b0
 have l2:ai Tryz.prog Gt (h.push (cI ep X Y C)) 23 (.ptr (.box h.boxes.length) 3)=some C:=aQ mo b0 rfl
 obtain⟨e1,e2⟩:=he
 have d1:decide (0<=ep)=true:=decide_eq_true e1
 have d2:decide (ep<=64)=true:=decide_eq_true e2
 clear hx hy hc b0 h1 h2
 refine aL rfl Tryz.func98 rfl ?_
 refine gx5 @aaf @aw @Zd @oX @fF ?_
 exact⟨_,_,rfl,rfl,rfl⟩
theorem Zj{rows:List (List Int)}{owners s:List Int}(hp:bC rows owners=0)(hs:s.length=aK rows){j:Nat}(hj:j<rows.length):mW rows owners (ax s) (((j:Nat):Int),oa (rows.getD j []) s)=(true,0):=by
 have hck:dx rows owners (ax s)=0:=by unfold dx;rw[if_neg (by simp[hp]),if_pos (by rw[decide_eq_true (eE hs).1,(eE hs).2];rfl)]
 have hm:rows.getD j []∈rows:=by rw[cU hj];exact abj hj
 have hr:lO rows (((j:Nat):Int),oa (rows.getD j []) s)=true:=by
  have q:=iP.2 (Mz (rows.getD j []) s)
  unfold lO
  show(decide (0<=((j:Nat):Int))&&decide (((j:Nat):Int)<(rows.length:Int))&&inQ (oa (rows.getD j []) s))=true
  rw[q,decide_eq_true (by omega),decide_eq_true (by omega)];rfl
 unfold mW
 rw[if_neg (by simp[hck]),if_neg (by rw[hr];simp),aa1,Jx (by have:=((fk hp).2.2.1 _ hm).1;omega)]
 simp
end Go.Proofs.YtnfciiiohoafaaaGreatDoor
end
