/-
  Part of the proof: PI.
-/
import Derived.Test.YtnfciiiohoafaaaGreatDoorPH
import Derived.Test.YtnfciiiohoafaaaGreatDoorPG
import Derived.Test.YtnfciiiohoafaaaGreatDoorPF
open List renaming getElem?_eq_some_iff→abm,mem_singleton→acg,take_succ_cons→abO,take_zero→abY,getElem?_eq_none→acf,getElem?_eq_getElem→abo,map_append→acv,length_map→abu,take_length→abU,mem_cons→acd,map_cons→abK,ext_getElem?→acG,getElem?_map→abF,mem_cons_self→abM,mem_cons_of_mem→abH,flatMap_cons→adV,filter_cons→aej,filter_cons_of_pos→adY,filter_cons_of_neg→adX,mem_range→abQ,mem_of_getElem?→abz,range→aby,getElem?_range→ada,all_eq_true→abE,range_succ→acx,getElem_map→acA,filter_append→ady,filter_eq_nil_iff→ae7,map_eq_nil_iff→adG,length_set→aca,mem_or_eq_of_mem_set→ach,filter_congr→ags,getElem_set→adi,take_of_length_le→abD,length_cons→ab0,length_take→abI,length_singleton→aeC
open Nat renaming le_of_ble_eq_true→abX,reduceEqDiff→abn,zero_le→abG,lt_or_ge→abL,le_refl→abq,le_trans→abT
open And renaming intro→abp
open Int renaming toNat_natCast→abB
open Bool renaming and_eq_true→abr,not_true→aeJ,false_eq_true→abW,and_true→adW
open Option renaming map_some→abJ
set_option maxHeartbeats 64000000
set_option maxRecDepth 100000
set_option linter.unusedSimpArgs false
set_option linter.unusedVariables false
set_option linter.constructorNameAsVariable false
section
namespace Go.Proofs.YtnfciiiohoafaaaGreatDoor
open Go.AE Go.NT
theorem jk{Hx:ae}{zb eb:Nat}{x y:AV}(hz:Hx.boxes[zb]?=some [x])(he:Hx.boxes[eb]?=some [y])(hne:zb≠eb)(n m:Int):
 aA Tryz.prog Hx 3 (.ptr (.box zb) 0) (.v (.int .i64 n))=some (Hx.put zb [.v (.int .i64 n)])/\ai Tryz.prog Gt Hx 32 (.ptr (.box eb) 0)=some y/\ai Tryz.prog Gt (Hx.put zb [.v (.int .i64 n)]) 32 (.ptr (.box eb) 0)=some y/\
  aA Tryz.prog (Hx.put zb [.v (.int .i64 n)]) 32 (.ptr (.box eb) 0) (.v (.int .i64 m))=some ((Hx.put zb [.v (.int .i64 n)]).put eb [.v (.int .i64 m)])/\
  ai Tryz.prog Gt ((Hx.put zb [.v (.int .i64 n)]).put eb [.v (.int .i64 m)]) 3 (.ptr (.box zb) 0)=some (.v (.int .i64 n))/\ai Tryz.prog Gt ((Hx.put zb [.v (.int .i64 n)]).put eb [.v (.int .i64 m)]) 32 (.ptr (.box eb) 0)=some (.v (.int .i64 m)):=by
 have hz1:=(abm.1 hz).1
 have he1:=(abm.1 he).1
 have q:(Hx.put zb [AV.v (.int .i64 n)]).boxes[eb]?=some [y]:=by rw[av (Ne.symm hne)];exact he
 have q2:((Hx.put zb [AV.v (.int .i64 n)]).put eb [AV.v (.int .i64 m)]).boxes[zb]?=some [.v (.int .i64 n)]:=by rw[av hne];exact aS hz1
 have q3:((Hx.put zb [AV.v (.int .i64 n)]).put eb [AV.v (.int .i64 m)]).boxes[eb]?=some [.v (.int .i64 m)]:=aS (by rw[dU];exact he1)
 exact⟨K5 hz,aQ DL he rfl,aQ DL q rfl,BV q,aQ ag3 q2 rfl,aQ DL q3 rfl⟩
def fN(rows:List (List Int))(owners:List Int)(ep:Int)(aa:List Int)(text:List UInt8)(l:List Pr)(ag:Int)(s:List (Int × Int))(d f:Int):Int × Int:=
 if cd rows owners ep aa text l≠0 then (0,cd rows owners ep aa text l) else rN rows owners aa text l ag s d f
theorem HH{rows:List (List Int)}{owners aa:List Int}{text:List UInt8}{l:List Pr}{ag:Int}{s:List (Int × Int)}{d f:Int}(h:gl l ag=none∨[d,f].all inQ=false):rN rows owners aa text l ag s d f=(0,1):=by
 unfold rN
 cases hp:gl l ag with
 |none=>rfl
 |some x=>
  rcases h with q|q
  ·rw[hp] at q;cases q
  ·have:(inQ d&&inQ f)=false:=by simpa using q
   simp only[this];rfl
theorem HI{rows:List (List Int)}{owners aa:List Int}{text:List UInt8}{l:List Pr}{ag:Int}{s:List (Int × Int)}{d f:Int}{x:Pr}(h:gl l ag=some x)(hq:[d,f].all inQ=true):rN rows owners aa text l ag s d f=
 if eQ rows owners aa ag s=false then (0,340) else if ¬((aY Gn d:Nat):Int)=x.d∨¬((aY Gn f:Nat):Int)=x.e then (0,420)
 else (cN (cN d (cq f (dP (at0 aa 0) text l ag))) (cq (aG (at0 aa 0) text l) (fh (aM rows owners l) s)),0):=by
 unfold rN
 have:(inQ d&&inQ f)=true:=by simpa using hq
 rw[h]
 simp only[this]
 cases eQ rows owners aa ag s<;>rfl
theorem Na(a b:Int):aN Tryz.prog 23 2 [(0,.v (.int .i64 a)),(1,.v (.int .i64 b))]=some (.list .tight 1 (ints [a,b])):=kZq
theorem PS(h:ae)(hok:aZ h=true)(ep:Int)(X Y C T L S:AV)(rows:List (List Int))(owners aa:List Int)(text:List UInt8)(l:List Pr)(s:List (Int × Int))(ag d f:Int)
 (hx:RL X rows) (hy:IL Y owners) (hc:IL C aa) (ht:BL T text) (hp:PL L l) (hs:SL S s) (hcl:aa.length<=1000000) (hll:l.length<=1000000) (hsl:s.length<=1000000):
 ∃r h',W5.call 20 [.agg (cI ep X Y C),T,L,.v (.int .i64 ag),S,.v (.int .i64 d),.v (.int .i64 f)] h=some (r,h')/\r=.ret (.tuple [.v (.int .i64 (fN rows owners ep aa text l ag s d f).1),.v (.int .i64 (fN rows owners ep aa text l ag s d f).2)]):=by
 have bx:=hY (ep:=ep) hx hy hc
 have bS:=hs.aC
 have zc:=R6
 have zp:=zK
 have z3:=Tp
 have z32:=R8
 obtain⟨h0,hh0⟩:∃h0,(((h.push (cI ep X Y C)).push [S]).push [.v (.int .i64 0)]).push [.v (.int .i64 0)]=h0:=⟨_,rfl⟩
 obtain⟨sb,hsb⟩:∃n,(h.push (cI ep X Y C)).boxes.length=n:=⟨_,rfl⟩
 obtain⟨zb,hzb⟩:∃n,((h.push (cI ep X Y C)).push [S]).boxes.length=n:=⟨_,rfl⟩
 obtain⟨eb,heb⟩:∃n,(((h.push (cI ep X Y C)).push [S]).push [.v (.int .i64 0)]).boxes.length=n:=⟨_,rfl⟩
 obtain⟨kb,hkb⟩:∃n,h.boxes.length=n:=⟨_,rfl⟩
 have o1:kb<sb/\sb<zb/\zb<eb:=by rw[<-hkb,<-hsb,<-hzb,<-heb];simp only[az];omega
 have gk:h0.boxes[kb]?=some (cI ep X Y C):=by rw[<-hh0,<-hkb];exact aj (aj (aj (ak _ _)))
 have gs:h0.boxes[sb]?=some [S]:=by rw[<-hh0,<-hsb];exact aj (aj (ak _ _))
 have gz:h0.boxes[zb]?=some [.v (.int .i64 0)]:=by rw[<-hh0,<-hzb];exact aj (ak _ _)
 have ge:h0.boxes[eb]?=some [.v (.int .i64 0)]:=by rw[<-hh0,<-heb];exact ak _ _
 have hok0:aZ h0=true:=by rw[<-hh0];exact hok
 obtain⟨r1,h1,c1,x1,post⟩:=zO h0 hok0 ep X Y C T L rows owners aa text l hx hy hc ht hp hcl hll
 have l0:ai Tryz.prog Gt h0 27 (.ptr (.box kb) 0)=some (.agg (cI ep X Y C)):=by
  rw[cP kZq (by kernel_rfl:bF Tryz.prog 27=some 4) gk (abX rfl)];rfl
 have kE1:ah (cd rows owners ep aa text l≠0->fN rows owners ep aa text l ag s d f=(0,cd rows owners ep aa text l)):=⟨fun q=>by unfold fN;rw[if_pos q]⟩
 have kE2:ah (cd rows owners ep aa text l=0->fN rows owners ep aa text l ag s d f=rN rows owners aa text l ag s d f):=⟨fun q=>by unfold fN;rw[if_neg (by simp[q])]⟩
 have kbo:=ah.mk (fun q=>@rU rows owners aa ep text l q)
 have kwt:=ah.mk (fun q=>@vT rows owners aa ep text l q)
 have kf:=ah.mk (abp hx (abp hy (abp hc (abp hp hs))))
 have gk1:=x1.box _ _ gk
 have gs1:=x1.box _ _ gs
 have gz1:=x1.box _ _ gz
 have ge1:=x1.box _ _ ge
 have hok1:=x1.ok hok0
 have lS:=hs.cH
 generalize fN rows owners ep aa text l ag s d f=res at *
 generalize cd rows owners ep aa text l=be at *
 have hle1:=(abm.1 ge1).1
 clear hx hy hc ht hp hs x1 gk gs gz ge hok0 hok
 refine aL rfl Tryz.func20 rfl ?_
 rcases post with⟨q,rfl⟩|⟨q,c,Wt,rfl,hWt,w⟩
 ·have kr:=ah.mk (kE1.out q)
  have stn:aA Tryz.prog (h1.push [.v (.pointer none)]) 90 (.ptr (.box h1.boxes.length) 0) (.v (.pointer none))=some (h1.push [.v (.pointer none)]):=cQ rfl kZq rfl rfl
  have ste:aA Tryz.prog (h1.push [.v (.pointer none)]) 32 (.ptr (.box eb) 0) (.v (.int .i64 be))=some ((h1.push [.v (.pointer none)]).put eb [.v (.int .i64 be)]):=BV (aj ge1)
  obtain⟨a1,a2,a3,a4,a5,a6⟩:=jk (Hx:=(h1.push [.v (.pointer none)]).put eb [.v (.int .i64 be)]) (zb:=zb) (eb:=eb) (x:=.v (.int .i64 0)) (y:=.v (.int .i64 be)) (by rw[av (by omega)];exact aj gz1) (aS (by rw[az];omega)) (by omega) 0 be
  clear kE1 kE2 kbo kwt gk1 gs1 gz1 ge1 hok1
  refine gx2 @jO @aw ?_
  refine bU [(0,1)] gM kZq (fun p hp=>?_) ?_
  ·simp only[acg] at hp
   subst hp
   refine dH (x:=.ptr (.box eb) 0) (v:=.v (.int .i64 be)) kZq rfl rfl rfl kZq (by simp[cB,gB]) ?_ ?_<;>(simp only[abO,abY];exact gz2 @jO @and_self)
  refine gx1 @jO ?_
  exact⟨_,_,rfl,by rw[kr.out]⟩
 obtain⟨p1,p2,p3,p4,p5,p6⟩:=kbo.out q
 obtain⟨y,w1,w2,w3⟩:=kwt.out q
 have hres:=kE2.out q
 have hchk:=BX p1 p2 p3
 subst q
 clear kE1 kE2 kbo kwt
 obtain⟨h2,hh2⟩:∃h2,h1.push [.ptr (.box c) 0]=h2:=⟨_,rfl⟩
 obtain⟨wb,hwb⟩:∃n,h1.boxes.length=n:=⟨_,rfl⟩
 have stn:aA Tryz.prog (h1.push [.v (.pointer none)]) 90 (.ptr (.box wb) 0) (.ptr (.box c) 0)=some h2:=by rw[<-hh2,<-hwb];exact K3 c
 have gk2:h2.boxes[kb]?=some (cI ep X Y C):=by rw[<-hh2];exact aj gk1
 have gs2:h2.boxes[sb]?=some [S]:=by rw[<-hh2];exact aj gs1
 have gz2:h2.boxes[zb]?=some [.v (.int .i64 0)]:=by rw[<-hh2];exact aj gz1
 have ge2:h2.boxes[eb]?=some [.v (.int .i64 0)]:=by rw[<-hh2];exact aj ge1
 have gw2:h2.boxes[wb]?=some [.ptr (.box c) 0]:=by rw[<-hh2,<-hwb];exact ak _ _
 have ste:aA Tryz.prog h2 32 (.ptr (.box eb) 0) (.v (.int .i64 0))=some h2:=by rw[BV ge2,ec ge2]
 have le2:ai Tryz.prog Gt h2 32 (.ptr (.box eb) 0)=some (.v (.int .i64 0)):=aQ DL ge2 rfl
 have lw2:ai Tryz.prog Gt h2 90 (.ptr (.box wb) 0)=some (.ptr (.box c) 0):=aQ wN gw2 rfl
 have W2:lQ h2 c ep X Y C T L Wt ((dA (at0 aa 0) text l:Nat):Int) ((aG (at0 aa 0) text l:Nat):Int) aa text l:=by rw[<-hh2];exact w.mono (.push _ _)
 have hok2:aZ h2=true:=by rw[<-hh2];exact hok1
 obtain⟨b,vr,w4,-⟩:=W2.dF
 obtain⟨_,h3,c2,x3,post⟩:=KW h2 c _ L l ag [d,f] (.list .tight 1 (ints [d,f])) w4 rfl kf.out.2.2.2.1 hll ⟨_,_,rfl,fun _=>rfl⟩ (by simp)
 have bl:=Na d f
 have hwbe:eb<wb:=by rw[<-hwb];exact hle1
 clear w4 w gk1 gs1 gz1 ge1 hok1 hle1
 have gz3:=x3.box _ _ gz2
 have ge3:=x3.box _ _ ge2
 rcases post with⟨q,rfl⟩|⟨x,q1,q2,rfl⟩
 ·have kr:=ah.mk (hres.trans (HH q))
  have sq:=oV (H:=h3) ⟨0,0,0,0⟩
  have se:aA Tryz.prog (h3.push (aq ⟨0,0,0,0⟩)) 32 (.ptr (.box eb) 0) (.v (.int .i64 1))=some ((h3.push (aq ⟨0,0,0,0⟩)).put eb [.v (.int .i64 1)]):=BV (aj ge3)
  obtain⟨a1,a2,a3,a4,a5,a6⟩:=jk (Hx:=(h3.push (aq ⟨0,0,0,0⟩)).put eb [.v (.int .i64 1)]) (zb:=zb) (eb:=eb) (x:=.v (.int .i64 0)) (y:=.v (.int .i64 1)) (by rw[av (by omega)];exact aj gz3) (aS (by rw[az];have:=(abm.1 ge3).1;omega)) (by omega) 0 1
  clear hres q W2 x3 gk2 gs2 gz2 ge2 gw2 hok2 gz3 ge3 p1 p2 p3 p6 w1 w2 w3 hchk hWt
  repeat' (first|simp(maxSteps:=999999)(disch:=first|exact dZ|fail)only[gW,reduceIte,abn,gBQ,jO,aw, *]|refine dX ?_ ?_<;>(intro _;try omega))
  refine bU [(0,1)] gM kZq (fun p hp=>?_) ?_
  ·simp only[acg] at hp
   subst hp
   refine dH (x:=.ptr (.box eb) 0) (v:=.v (.int .i64 1)) kZq rfl rfl rfl kZq (by simp[cB,gB]) ?_ ?_<;>(simp only[abO,abY];exact gz2 @jO @and_self)
  refine gx1 @jO ?_
  exact⟨_,_,rfl,by rw[kr.out]⟩
 rw[HI q1 q2] at hres
 obtain⟨hxl,hxk⟩:=EY q1
 have hm:=iy p6 x hxl
 have sq:=oV (H:=h3) x
 obtain⟨h4,hh4⟩:∃h4,h3.push (aq x)=h4:=⟨_,rfl⟩
 obtain⟨pb,hpb⟩:∃n,h3.boxes.length=n:=⟨_,rfl⟩
 rw[hh4,hpb] at sq
 have o3:wb<pb:=by
  have z1:=(abm.1 gw2).1
  have z2:=x3.len
  omega
 have X4:Ext h2 h4:=by rw[<-hh4];exact x3.trans (.push _ _)
 have gk4:=X4.box _ _ gk2
 have gs4:=X4.box _ _ gs2
 have gz4:=X4.box _ _ gz2
 have ge4:=X4.box _ _ ge2
 have gw4:=X4.box _ _ gw2
 have gp4:h4.boxes[pb]?=some (aq x):=by rw[<-hh4,<-hpb];exact ak _ _
 have W4':=W2.mono X4
 have ste4:aA Tryz.prog h4 32 (.ptr (.box eb) 0) (.v (.int .i64 0))=some h4:=by rw[BV ge4,ec ge4]
 have le4:ai Tryz.prog Gt h4 32 (.ptr (.box eb) 0)=some (.v (.int .i64 0)):=aQ DL ge4 rfl
 obtain⟨h5,hh5⟩:∃h5,(h4.push [.v (.int .i64 0)]).push [.v (.int .i64 0)]=h5:=⟨_,rfl⟩
 obtain⟨sumb,hsumb⟩:∃n,h4.boxes.length=n:=⟨_,rfl⟩
 obtain⟨ib,hib⟩:∃n,(h4.push [.v (.int .i64 0)]).boxes.length=n:=⟨_,rfl⟩
 have o2:pb<sumb/\sumb<ib:=by
  refine⟨?_,by rw[<-hsumb,<-hib,az];omega⟩
  rw[<-hsumb];exact(abm.1 gp4).1
 have gsum5:h5.boxes[sumb]?=some [.v (.int .i64 0)]:=by rw[<-hh5,<-hsumb];exact aj (ak _ _)
 have gib5:h5.boxes[ib]?=some [.v (.int .i64 0)]:=by rw[<-hh5,<-hib];exact ak _ _
 have X5:Ext h4 h5:=by rw[<-hh5];exact(Ext.push _ _).trans (.push _ _)
 have st5a:aA Tryz.prog h5 3 (.ptr (.box sumb) 0) (.v (.int .i64 0))=some h5:=by rw[K5 gsum5,ec gsum5]
 have st5b:aA Tryz.prog h5 3 (.ptr (.box ib) 0) (.v (.int .i64 0))=some h5:=by rw[K5 gib5,ec gib5]
 have gw5:=X5.box _ _ gw4
 have lw5:ai Tryz.prog Gt h5 90 (.ptr (.box wb) 0)=some (.ptr (.box c) 0):=aQ wN gw5 rfl
 have c3:=KX h5 c ag
 obtain⟨h6,hh6⟩:∃h6,(h5.push [.ptr (.box c) 0]).push [.v (.int .i64 ag)]=h6:=⟨_,rfl⟩
 rw[hh6] at c3
 have X6:Ext h4 h6:=by rw[<-hh6];exact X5.trans ((Ext.push _ _).trans (.push _ _))
 have gsum6:h6.boxes[sumb]?=some [.v (.int .i64 0)]:=by rw[<-hh6];exact aj (aj gsum5)
 have gib6:h6.boxes[ib]?=some [.v (.int .i64 0)]:=by rw[<-hh6];exact aj (aj gib5)
 have ga6:h6.boxes[h5.boxes.length]?=some [.ptr (.box c) 0]:=by rw[<-hh6];exact aj (ak _ _)
 have gb6:h6.boxes[h5.boxes.length+1]?=some [.v (.int .i64 ag)]:=by rw[<-hh6];exact cD (by rw[az])
 have l5:sumb<h5.boxes.length/\ib<h5.boxes.length:=⟨(abm.1 gsum5).1,(abm.1 gib5).1⟩
 have kall:=ah.mk (abp hres (abp hxk (abp hm (abp w2 (abp w3 hWt)))))
 have kprog:=ah.mk (abp p1 (abp p3 hchk))
 have gk6:=X6.box _ _ gk4
 have gs6:=X6.box _ _ gs4
 have gz6:=X6.box _ _ gz4
 have ge6:=X6.box _ _ ge4
 have gw6:=X6.box _ _ gw4
 have gp6:=X6.box _ _ gp4
 have W6':=W4'.mono X6
 have kst:=ah.mk (abp gk6 (abp gs6 (abp gz6 (abp ge6 (abp gw6 (abp gp6 W6'))))))
 have sumv:sumb<h4.boxes.length+1:=by omega
 have kxl:=hxl
 clear hres hxk hm w1 w2 w3 hWt p1 p3 hchk gk6 gs6 gz6 ge6 gw6 gp6 W6' W4' W2 gk4 gs4 gz4 ge4 gw4 gp4 gk2 gs2 gz2 ge2 gw2 gz3 ge3 q1 q2 hxl x3 X4 X5 gw5 gsum5 gib5 hok2 p2 p6 sumv
 refine gx2 @jO @aw ?_
 refine Run.gen fun e4 he4 hd4 hp4 hr4=>?_
 have f5:e4.get 5=.v (.int .i64 d):=by rw[he4];exact gS
 have f6:e4.get 6=.v (.int .i64 f):=by rw[he4];exact gS
 have f7:e4.get 7=.ptr (.box kb) 0:=by rw[he4];exact gS
 have f11:e4.get 11=.ptr (.box sb) 0:=by rw[he4];exact gS
 have f14:e4.get 14=.ptr (.box zb) 0:=by rw[he4];exact gS
 have f15:e4.get 15=.ptr (.box eb) 0:=by rw[he4];exact gS
 have f16:e4.get 16=.ptr (.box wb) 0:=by rw[he4];exact gS
 have f17:e4.get 17=.ptr (.box pb) 0:=by rw[he4];exact gS
 have f18:e4.get 18=.ptr (.box sumb) 0:=by rw[he4];exact gS
 have f19:e4.get 19=.ptr (.box ib) 0:=by rw[he4];exact gS
 have f47:e4.get 47=.func (.func 128) [] [.ptr (.box h5.boxes.length) 0,.ptr (.box (h5.boxes.length+1)) 0]:=by rw[he4];exact gS
 have fd:e4.defers=[]:=by rw[hd4];exact gS
 clear he4 hd4 hp4 hr4 c1 c2 c3 l0 lS bl stn ste le2 lw2 sq ste4 le4 st5a st5b lw5 zc zp z3 z32 bx bS hh0 hsb hzb heb hkb hh2 hwb hh4 hpb hh5 hsumb hib hh6
 obtain⟨gk6,gs6,gz6,ge6,gw6,gp6,W6⟩:=kst.out
 obtain⟨p1,p3,hchk⟩:=kprog.out
 obtain⟨hres,hxk,hm,w2,w3,hWt⟩:=kall.out
 have kW:=ah.mk W6
 clear kst kprog kall W6
 obtain⟨og1,og2,og3,og4⟩:=fk p1
 have hxr:aZ h6=aZ h6:=rfl
 refine kD (by rw[lv];exact f47) fun rec v1 v2 v3 v4 v5 v6=>?_
 have hlr:(h6.loop rec).loops[h6.loops.length]?=some rec:=@kC h6 rec
 have feed:=yd h6.loops.length h5.boxes.length (h5.boxes.length+1) c Y owners ag (K6 (h6.loop rec) h6.loops.length rec sumb ib zb eb rows owners aa (aM rows owners l) ag s)
  (fun H=>BW h6.loops.length rec zb eb H/\eQ rows owners aa ag s=false) kf.out.2.1 (by omega)
  (fun k H q=>by
   obtain⟨b6,vr6,z1,-⟩:=kW.out.dF
   refine⟨q.old _ _ ga6 (by omega) (by omega),q.old _ _ gb6 (by omega) (by omega),_,q.old _ _ z1 (fun e=>?_) (fun e=>?_),rfl⟩
   ·rw[e] at z1;rw[gsum6] at z1;unfold dQ at z1;simp at z1
   ·rw[e] at z1;rw[gib6] at z1;unfold dQ at z1;simp at z1)
  ?_
  (fun k H hk hc q=>⟨q.lp,q.old,by rw[lR hc];exact q.sum,by rw[lR hc];exact q.ix,by rw[lR hc];exact q.le,by rw[lR hc];exact q.same,by rw[lR hc];exact q.ok⟩)
  (h6.loop rec) ⟨hlr,fun a cs ha _ _=>ha,gsum6,gib6,abG _,by simp[cA],by simp[cA]⟩
 rotate_left 1
 ·intro k H hk hc q
  have hlH:=q.lp
  suffices hs:∃b H',W5.round h6.loops.length [.v (.int .i64 (k:Nat))] H=some (.ret (.v (.bool b)),H')/\if b=true then K6 (h6.loop rec) h6.loops.length rec sumb ib zb eb rows owners aa (aM rows owners l) ag s (k+1) H' else (BW h6.loops.length rec zb eb H'/\eQ rows owners aa ag s=false) by
   obtain⟨b,H',q1,q2⟩:=hs
   cases b with
   |true=>exact .inl ⟨H',q1,q2⟩
   |false=>exact .inr ⟨H',q1,q2⟩
  refine Hw (Post:=fun b H'=>if b=true then K6 (h6.loop rec) h6.loops.length rec sumb ib zb eb rows owners aa (aM rows owners l) ag s (k+1) H' else (BW h6.loops.length rec zb eb H'/\eQ rows owners aa ag s=false)) hlH (by rw[v2];rfl) v5 v6 ?_
  have r1:∀t,(dD h6.loops.length rec [.v (.int .i64 (k:Nat))]).get t=if 48=t then .v (.int .i64 (k:Nat)) else e4.get t:=fun t=>rm v2 v1
  have d1:(dD h6.loops.length rec [.v (.int .i64 (k:Nat))]).defers=[]:=rfl
  obtain⟨K,hK⟩:∃K,H.busy h6.loops.length rec=K:=⟨_,rfl⟩
  have hKb:∀a:Nat,K.boxes[a]?=H.boxes[a]?:=fun a=>by rw[<-hK];rfl
  have hKl:K.loops[h6.loops.length]?=some {rec with state:=.busy}:=by
   rw[<-hK]
   have:=(abm.1 hlH).1
   show(H.loops.set _ _)[_]?=_
   simp[this]
  have og:∀(a:Nat) (cs:List AV),h6.boxes[a]?=some cs->a≠sumb->a≠ib->K.boxes[a]?=some cs:=fun a cs ha n1 n2=>by rw[hKb];exact q.old a cs ha n1 n2
  have hkK:=og _ _ gk6 (by omega) (by omega)
  have hsK:=og _ _ gs6 (by omega) (by omega)
  have hzK:=og _ _ gz6 (by omega) (by omega)
  have heK:=og _ _ ge6 (by omega) (by omega)
  have hwK:=og _ _ gw6 (by omega) (by omega)
  have hsumK:=(hKb sumb).trans q.sum
  have hibK:=(hKb ib).trans q.ix
  have hle:=q.le
  have lib:ai Tryz.prog Gt K 3 (.ptr (.box ib) 0)=some (.v (.int .i64 ((cA owners ag k).length:Nat))):=aQ ag3 hibK rfl
  have lsb:ai Tryz.prog Gt K 36 (.ptr (.box sb) 0)=some S:=aQ M9 hsK rfl
  have lSn:=kf.out.2.2.2.2.cH
  obtain⟨a1,a2,a3,a4,a5,a6⟩:=jk hzK heK (by omega) 0 340
  have hzl:=(abm.1 hzK).1
  have hel:=(abm.1 heK).1
  have kstop:ah (∀(K2:ae),K2.loops[h6.loops.length]?=some {rec with state:=.busy}->zb<K2.boxes.length->eb<K2.boxes.length->BW h6.loops.length rec zb eb (((K2.put zb [.v (.int .i64 0)]).put eb [.v (.int .i64 340)]).bh h6.loops.length {rec with state:=.done,pending:=some .ret})):=⟨fun K2 q1 q2 q3=>by
   have hll:=(abm.1 q1).1
   refine⟨rl hll,?_,?_⟩
   ·show((K2.put zb [.v (.int .i64 0)]).put eb [.v (.int .i64 340)]).boxes[zb]?=_
    rw[av (by omega)];exact aS q2
   ·show((K2.put zb [.v (.int .i64 0)]).put eb [.v (.int .i64 340)]).boxes[eb]?=_
    exact aS (by rw[dU];exact q3)⟩
  have kown:=ah.mk (fun q=>@K4 rows owners aa ag s q k hk hc)
  have kq:=ah.mk q
  have kog:=ah.mk og
  obtain⟨Q,hQ⟩:∃Q:Xt->ae->Prop,Q=fun o h2=>h2.loops[h6.loops.length]?=some {rec with state:=.busy}/\
   ((o=.normal/\K6 (h6.loop rec) h6.loops.length rec sumb ib zb eb rows owners aa (aM rows owners l) ag s (k+1) (h2.bh h6.loops.length rec))∨(o=.ret/\BW h6.loops.length rec zb eb (h2.bh h6.loops.length {rec with state:=.done,pending:=some .ret})/\eQ rows owners aa ag s=false)):=⟨_,rfl⟩
  have kQs:ah (∀(K2:ae),K2.loops[h6.loops.length]?=some {rec with state:=.busy}->zb<K2.boxes.length->eb<K2.boxes.length->eQ rows owners aa ag s=false->Q .ret ((K2.put zb [.v (.int .i64 0)]).put eb [.v (.int .i64 340)])):=⟨fun K2 z1 z2 z3 z4=>by
   rw[hQ];exact⟨z1,.inr ⟨rfl,kstop.out K2 z1 z2 z3,z4⟩⟩⟩
  have kQn:ah (∀(K2:ae),K2.loops[h6.loops.length]?=some {rec with state:=.busy}->K6 (h6.loop rec) h6.loops.length rec sumb ib zb eb rows owners aa (aM rows owners l) ag s (k+1) (K2.bh h6.loops.length rec)->Q .normal K2):=⟨fun K2 z1 z2=>by
   rw[hQ];exact⟨z1,.inl ⟨rfl,z2⟩⟩⟩
  rw[hK]
  suffices hrun:Run W5 rec.assign (dD h6.loops.length rec [.v (.int .i64 (k:Nat))]) H (fun o e1 h1=>o=.normal/\h1=H/\Run W5 rec.body e1 K (fun o _ h2=>Q o h2)) by
   obtain⟨o,e1,hh,z1,z2,z3,o',e2,h2',z4,z5⟩:=hrun
   refine⟨o,e1,hh,z1,z2,z3,o',e2,h2',z4,?_⟩
   rw[hQ] at z5
   obtain⟨z5,z6⟩:=z5
   refine⟨z5,?_⟩
   rcases z6 with⟨y1,y2⟩|⟨y1,y2⟩
   ·exact .inl ⟨y1,y2⟩
   ·exact .inr ⟨y1,y2⟩
  clear hQ kstop
  rw[v3,v4]
  rcases abL (cA owners ag k).length s.length with hlt|hge
  rotate_left 1
  ·have hie:(cA owners ag k).length=s.length:=by omega
   have hno:eQ rows owners aa ag s=false:=by
    cases ho:eQ rows owners aa ag s with
    |false=>rfl
    |true=>
     obtain⟨p,z1,-⟩:=kown.out ho
     rw[acf (by omega)] at z1;cases z1
   have dd:decide ((((cA owners ag k).length:Nat):Int)=(s.length:Int))=true:=decide_eq_true (by omega)
   have kfin:=ah.mk (kQs.out K hKl hzl hel hno)
   clear hie hno hge hle q og hlH hK hKb hKl hkK hsK hzK heK hwK hsumK hibK v1 v2 v3 v4 v5 v6 kQs kQn
   generalize (cA owners ag k).length=i at *
   refine gx0 ?_
   exact⟨trivial,trivial,kfin.out⟩
  obtain⟨p,hp⟩:∃p,s[(cA owners ag k).length]?=some p:=⟨_,abo hlt⟩
  have dd:decide ((((cA owners ag k).length:Nat):Int)=(s.length:Int))=false:=decide_eq_false (by omega)
  have ixS:=kf.out.2.2.2.2.ix hlt
  have ls0:=NR (H:=K) (s:=2) hp
  by_cases hrow:p.1=((k:Nat):Int)
  rotate_left 1
  ·have hno:eQ rows owners aa ag s=false:=by
    cases ho:eQ rows owners aa ag s with
    |false=>rfl
    |true=>
     obtain⟨p',z1,z2,-⟩:=kown.out ho
     rw[hp] at z1;injection z1 with z1;subst z1
     exact absurd z2 hrow
   have dr:decide (p.1=((k:Nat):Int))=false:=decide_eq_false hrow
   have kfin:=ah.mk (kQs.out K hKl hzl hel hno)
   clear hno hlt hle q og hlH hK hKb hKl hkK hsK hzK heK hwK hsumK hibK v1 v2 v3 v4 v5 v6 kQs kQn hp hrow
   generalize (cA owners ag k).length=i at *
   refine gx1 @wM ?_
   exact⟨trivial,trivial,kfin.out⟩
  have hkr:k<rows.length:=by omega
  have dr:decide (((k:Nat):Int)=((k:Nat):Int))=true:=decide_eq_true rfl
  obtain⟨pr,pv⟩:=p
  simp only at hrow
  subst hrow
  obtain⟨_,K2,cf,rfl,xf⟩:=PF K X Y C rows owners aa kf.out.1 kf.out.2.1 kf.out.2.2.1 hcl ((k:Nat):Int) pv
  have lk1:ai Tryz.prog Gt K 25 (.ptr (.box kb) 1)=some (.agg [X,Y]):=by
   rw[cP G9 (by kernel_rfl:bF Tryz.prog 25=some 2) hkK (abX rfl)];rfl
  have lk3:ai Tryz.prog Gt K 23 (.ptr (.box kb) 3)=some C:=aQ mo hkK rfl
  have ls81:=PI (H:=K) (s:=2) hp
  have hK2l:=xf.loop _ _ hKl
  have hz2:=xf.box _ _ hzK
  have he2:=xf.box _ _ heK
  rcases DZ (v:=pv) hchk hkr with⟨so,fo⟩|⟨so,fo⟩
  rotate_left 1
  ·have hno:eQ rows owners aa ag s=false:=by
    cases ho:eQ rows owners aa ag s with
    |false=>rfl
    |true=>
     obtain⟨p',z1,z2,z3⟩:=kown.out ho
     rw[hp] at z1;injection z1 with z1;subst z1
     rw[so] at z3;cases z3
   have kfin:=ah.mk (kQs.out K2 hK2l (abm.1 hz2).1 (abm.1 he2).1 hno)
   obtain⟨t1,t2,t3,t4,t5,t6⟩:=jk hz2 he2 (by omega) 0 340
   clear hno hlt hle q og hlH hK hKb hKl hkK hsK hzK heK hwK hsumK hibK v1 v2 v3 v4 v5 v6 kQs kQn hp a1 a2 a3 a4 a5 a6 xf hz2 he2 hK2l so
   unfold im at cf
   rcases fo with fo|fo
   ·rw[fo] at cf
    clear fo
    generalize (cA owners ag k).length=i at *
    refine gx3 @wM @dS @fF ?_
    refine⟨trivial,trivial,?_⟩
    refine bf gM kZq ?_
    repeat' (first|simp(maxSteps:=999999)(disch:=first|exact dZ|fail)only[gW,reduceIte,abn,gBQ,wM,dS,fF, *]|refine dX ?_ ?_<;>(intro _;try omega))
    exact kfin.out
   ·rw[fo] at cf
    clear fo
    generalize (cA owners ag k).length=i at *
    refine gx3 @wM @dS @fF ?_
    refine⟨trivial,trivial,?_⟩
    refine bf gM kZq ?_
    refine gx3 @wM @dS @fF ?_
    exact kfin.out
  rw[fo] at cf
  have hw2:=xf.box _ _ hwK
  have hs2:=xf.box _ _ hsK
  have hsum2:=xf.box _ _ hsumK
  have hib2:=xf.box _ _ hibK
  obtain⟨b6,vr6,z1,-⟩:=kW.out.dF
  have hcs:c≠sumb:=fun e=>by rw[e] at z1;rw[gsum6] at z1;unfold dQ at z1;simp at z1
  have hci:c≠ib:=fun e=>by rw[e] at z1;rw[gib6] at z1;unfold dQ at z1;simp at z1
  have hcK:=xf.box _ _ (og _ _ z1 hcs hci)
  have lwb:ai Tryz.prog Gt K2 90 (.ptr (.box wb) 0)=some (.ptr (.box c) 0):=aQ wN hw2 rfl
  have lWt:ai Tryz.prog Gt K2 23 (.ptr (.box c) 6)=some Wt:=aQ mo hcK rfl
  have ixW:=hWt.ix (i:=k) (by rw[w2,w3];exact hkr)
  have lWk:=ldi (H:=K2) (l:=aM rows owners l) (i:=k) (s:=1) (by rw[w2,w3];exact hkr)
  have lsb2:ai Tryz.prog Gt K2 36 (.ptr (.box sb) 0)=some S:=aQ M9 hs2 rfl
  have lib2:ai Tryz.prog Gt K2 3 (.ptr (.box ib) 0)=some (.v (.int .i64 ((cA owners ag k).length:Nat))):=aQ ag3 hib2 rfl
  have lsum2:ai Tryz.prog Gt K2 3 (.ptr (.box sumb) 0)=some (.v (.int .i64 (fh (aM rows owners l) (s.take (cA owners ag k).length)))):=aQ ag3 hsum2 rfl
  have ls1:=RV (H:=K2) (s:=2) hp
  have cm:=KH (at0 (aM rows owners l) k) pv
  have ca:=MT (fh (aM rows owners l) (s.take (cA owners ag k).length)) (cq (at0 (aM rows owners l) k) pv)
  have hst:=HG (y:=aM rows owners l) hp
  simp only[abB] at hst
  rw[<-hst] at ca
  have stS:=K5 (n:=fh (aM rows owners l) (s.take ((cA owners ag k).length+1))) hsum2
  have hib3:(K2.put sumb [.v (.int .i64 (fh (aM rows owners l) (s.take ((cA owners ag k).length+1))))]).boxes[ib]?=some [.v (.int .i64 ((cA owners ag k).length:Nat))]:=by rw[av (by omega)];exact hib2
  have lib3:ai Tryz.prog Gt (K2.put sumb [.v (.int .i64 (fh (aM rows owners l) (s.take ((cA owners ag k).length+1))))]) 3 (.ptr (.box ib) 0)=some (.v (.int .i64 ((cA owners ag k).length:Nat))):=aQ ag3 hib3 rfl
  have stI:=K5 (n:=(((cA owners ag k).length+1:Nat):Int)) hib3
  have hcast:(((cA owners ag k).length+1:Nat):Int)=((cA owners ag k).length:Int)+1:=by omega
  have kfin:=ah.mk (kQn.out ((K2.put sumb [.v (.int .i64 (fh (aM rows owners l) (s.take ((cA owners ag k).length+1))))]).put ib [.v (.int .i64 (((cA owners ag k).length+1:Nat):Int))]) hK2l (by
   have hll:=(abm.1 hK2l).1
   have hsl2:=(abm.1 hsum2).1
   have hil2:=(abm.1 hib2).1
   have hlen:(cA owners ag (k+1)).length=(cA owners ag k).length+1:=by rw[mZ hc];simp
   refine⟨rl hll,fun a cs ha n1 n2=>?_,?_,?_,by omega,?_,?_⟩
   ·show((K2.put sumb _).put ib _).boxes[a]?=_
    rw[av n2,av n1]
    exact xf.box _ _ (by rw[hKb];exact q.old a cs ha n1 n2)
   ·show((K2.put sumb _).put ib _).boxes[sumb]?=_
    rw[av (by omega),hlen];exact aS hsl2
   ·show((K2.put sumb _).put ib _).boxes[ib]?=_
    rw[hlen];exact aS (by rw[dU];exact hil2)
   ·rw[hlen,a9 hp,acv,q.same,mZ hc,acv];rfl
   ·rw[hlen,a9 hp,List.all_append,q.ok,Bool.true_and];simp[so]))
  clear hle q og hlH hK hKb hKl hkK hsK hzK heK hwK hsumK hibK v1 v2 v3 v4 v5 v6 kQs kQn hp a1 a2 a3 a4 a5 a6 xf hz2 he2 hK2l so fo hw2 hs2 hsum2 hib2 hib3 hcK z1 hst w2 w3
  unfold im at *
  generalize (cA owners ag k).length=i at *
  generalize fh (aM rows owners l) (s.take i)=sv at *
  generalize fh (aM rows owners l) (s.take (i+1))=sv2 at *
  generalize cq (at0 (aM rows owners l) k) pv=mv at *
  generalize at0 (aM rows owners l) k=wv at *
  rw[hcast] at stI kfin
  refine gx3 @wM @dS @fF ?_
  refine⟨trivial,trivial,?_⟩
  refine bf gM kZq ?_
  refine gx4 @wM @RW @dS @fF ?_
  refine bf gM kZq ?_
  refine gx3 @wM @RW @qH ?_
  exact kfin.out
 ·obtain⟨Hf,cF,hF⟩:=feed
  rcases hF with q|⟨q,hno⟩
  rotate_left 1
  ·have hres2:res=(0,340):=by rw[hres,if_pos hno]
   have kr:=ah.mk hres2
   refine⟨_,_,cF,_,q.lp,(show LoopState.done≠ .busy by decide),.inr ⟨rfl,?_⟩⟩
   have qz:(Hf.bh h6.loops.length {rec with state:=.exhausted,pending:=some .ret}).boxes[zb]?=some [.v (.int .i64 0)]:=q.z
   have qe:(Hf.bh h6.loops.length {rec with state:=.exhausted,pending:=some .ret}).boxes[eb]?=some [.v (.int .i64 340)]:=q.e
   have lz:ai Tryz.prog Gt (Hf.bh h6.loops.length {rec with state:=.exhausted,pending:=some .ret}) 3 (.ptr (.box zb) 0)=some (.v (.int .i64 0)):=aQ ag3 qz rfl
   have le:ai Tryz.prog Gt (Hf.bh h6.loops.length {rec with state:=.exhausted,pending:=some .ret}) 32 (.ptr (.box eb) 0)=some (.v (.int .i64 340)):=aQ DL qe rfl
   clear cF q hno hres hres2 kf kW gk6 gs6 gz6 ge6 gw6 gp6 ga6 gb6 gsum6 gib6 hm w2 w3 hWt p1 p3 hchk og1 og2 og3 og4 hlr v1 v2 v3 v4 v5 v6 qz qe hxk
   refine gx1 @jO ?_
   exact⟨_,_,rfl,by rw[kr.out]⟩
  refine⟨_,_,cF,_,q.lp,by rw[v5];decide,.inl ⟨v6,?_⟩⟩
  obtain⟨HF,hHF⟩:∃HF,Hf.bh h6.loops.length {rec with state:=.exhausted}=HF:=⟨_,rfl⟩
  have hbx:∀a:Nat,HF.boxes[a]?=Hf.boxes[a]?:=fun a=>by rw[<-hHF];rfl
  have og:∀(a:Nat) (cs:List AV),h6.boxes[a]?=some cs->a≠sumb->a≠ib->HF.boxes[a]?=some cs:=fun a cs ha n1 n2=>by rw[hbx];exact q.old a cs ha n1 n2
  have hsF:=og _ _ gs6 (by omega) (by omega)
  have hzF:=og _ _ gz6 (by omega) (by omega)
  have heF:=og _ _ ge6 (by omega) (by omega)
  have hwF:=og _ _ gw6 (by omega) (by omega)
  have hpF:=og _ _ gp6 (by omega) (by omega)
  have hsumF:=(hbx sumb).trans q.sum
  have hibF:=(hbx ib).trans q.ix
  have hle:=q.le
  have hsame:=q.same
  have hokk:=q.ok
  rw[pH] at hsumF hibF hle hsame hokk
  rw[hHF]
  have lib:ai Tryz.prog Gt HF 3 (.ptr (.box ib) 0)=some (.v (.int .i64 ((cT owners ag).length:Nat))):=aQ ag3 hibF rfl
  have lsb:ai Tryz.prog Gt HF 36 (.ptr (.box sb) 0)=some S:=aQ M9 hsF rfl
  have lSn:=kf.out.2.2.2.2.cH
  rcases abL (cT owners ag).length s.length with hlt|hge
  ·have hno:eQ rows owners aa ag s=false:=by
    cases ho:eQ rows owners aa ag s with
    |false=>rfl
    |true=>
     unfold eQ at ho
     rw[abr,decide_eq_true_eq] at ho
     have:=congrArg List.length ho.1
     rw[abu,abu] at this
     omega
   have hres2:res=(0,340):=by rw[hres,if_pos hno]
   have kr:=ah.mk hres2
   obtain⟨a1,a2,a3,a4,a5,a6⟩:=jk hzF heF (by omega) 0 340
   have dd:decide ((((cT owners ag).length:Nat):Int)<(s.length:Int))=true:=decide_eq_true (by omega)
   clear cF q hno hres hres2 kf kW gk6 gs6 gz6 ge6 gw6 gp6 ga6 gb6 gsum6 gib6 hm w2 w3 hWt p1 p3 hchk og1 og2 og3 og4 hlr v1 v2 v3 v4 v5 v6 hxk hHF hbx og hsF hzF heF hwF hpF hsumF hibF hle hsame hokk hlt
   refine gx1 @jO ?_
   exact⟨_,_,rfl,by rw[kr.out]⟩
  have hne:(cT owners ag).length=s.length:=by omega
  have hyes:eQ rows owners aa ag s=true:=by
   unfold eQ
   rw[hne,abU] at hsame hokk
   rw[hsame,hokk]
   simp
  have dd:decide ((((cT owners ag).length:Nat):Int)<(s.length:Int))=false:=decide_eq_false (by omega)
  rw[hne,abU] at hsumF
  rw[if_neg (by rw[hyes];simp)] at hres
  have c8:=mV 4 d
  have c9:=mV 4 f
  have hG:(4:Int).toNat=Gn:=rfl
  rw[iS oU,hG] at c8 c9
  have lpD:ai Tryz.prog Gt HF 3 (.ptr (.box pb) 2)=some (.v (.int .i64 x.d)):=aQ ag3 hpF rfl
  have lpE:ai Tryz.prog Gt HF 3 (.ptr (.box pb) 3)=some (.v (.int .i64 x.e)):=aQ ag3 hpF rfl
  obtain⟨a1,a2,a3,a4,a5,a6⟩:=jk hzF heF (by omega) 0 420
  by_cases hd1:((aY Gn d:Nat):Int)=x.d
  rotate_left 1
  ·have kr:=ah.mk (hres.trans (if_pos (.inl hd1)))
   have dq:decide (((aY Gn d:Nat):Int)=x.d)=false:=decide_eq_false hd1
   clear cF q hyes hres kf kW gk6 gs6 gz6 ge6 gw6 gp6 ga6 gb6 gsum6 gib6 hm w2 w3 hWt p1 p3 hchk og1 og2 og3 og4 hlr v1 v2 v3 v4 v5 v6 hxk hHF hbx og hsF hzF heF hwF hpF hsumF hibF hle hsame hokk hge hne hG hd1
   generalize ((aY Gn d:Nat):Int)=pd at *
   unfold im at *
   refine gx1 @jO ?_
   refine bU [(7,9)] gM kZq (fun p hp=>?_) ?_
   ·simp only[acg] at hp
    subst hp
    refine DY kZq rfl rfl kZq ?_ ?_
    ·simp only[abO,abY]
     refine gx2 @jO @jj ?_
     refine⟨by trivial,?_⟩
     simp[bg,yy]
    ·simp only[abO,abY]
     exact gz2 @jO @jj
   refine gx2 @jO @jj ?_
   exact⟨_,_,rfl,by rw[kr.out]⟩
  have dq:decide (((aY Gn d:Nat):Int)=x.d)=true:=decide_eq_true hd1
  by_cases hd2:((aY Gn f:Nat):Int)=x.e
  rotate_left 1
  ·have kr:=ah.mk (hres.trans (if_pos (.inr hd2)))
   have dq2:decide (((aY Gn f:Nat):Int)=x.e)=false:=decide_eq_false hd2
   clear cF q hyes hres kf kW gk6 gs6 gz6 ge6 gw6 gp6 ga6 gb6 gsum6 gib6 hm w2 w3 hWt p1 p3 hchk og1 og2 og3 og4 hlr v1 v2 v3 v4 v5 v6 hxk hHF hbx og hsF hzF heF hwF hpF hsumF hibF hle hsame hokk hge hne hG hd1 hd2
   generalize ((aY Gn d:Nat):Int)=pd at *
   generalize ((aY Gn f:Nat):Int)=pf at *
   unfold im at *
   refine gx1 @jO ?_
   refine bU [(7,9)] gM kZq (fun p hp=>?_) ?_
   ·simp only[acg] at hp
    subst hp
    refine nU (x:=.ptr (.box pb) 3) (v:=.v (.int .i64 x.e)) kZq rfl rfl kZq (by simp[cB,gB]) ?_ ?_
    ·simp only[abO,abY]
     refine gx2 @jO @jj ?_
     refine⟨by trivial,?_,by trivial,by trivial⟩
     simp[bg,yy]
    ·simp only[abO,abY]
     exact gz3 @jO @jj @and_self
   refine gx2 @jO @jj ?_
   exact⟨_,_,rfl,by rw[kr.out]⟩
  have dq2:decide (((aY Gn f:Nat):Int)=x.e)=true:=decide_eq_true hd2
  rw[if_neg (by simp[hd1,hd2])] at hres
  have kr:=ah.mk hres
  obtain⟨b6,vr6,z1,z2,z3⟩:=kW.out.dF
  have hcs:c≠sumb:=fun e=>by rw[e] at z1;rw[gsum6] at z1;unfold dQ at z1;simp at z1
  have hci:c≠ib:=fun e=>by rw[e] at z1;rw[gib6] at z1;unfold dQ at z1;simp at z1
  have hvl:=z3.1
  have hfl:=a8 z3.four
  rw[abu] at hvl
  have hlpos:0<l.length:=List.length_pos_iff.2 (fun e=>by rw[e] at kxl;simp at kxl)
  have hbs:b6≠sumb:=fun e=>by
   rw[e] at z2;rw[gsum6] at z2;injection z2 with z2;rw[<-z2] at hfl;simp at hfl;omega
  have hbi:b6≠ib:=fun e=>by
   rw[e] at z2;rw[gib6] at z2;injection z2 with z2;rw[<-z2] at hfl;simp at hfl;omega
  have WF:lQ HF c ep X Y C T L Wt ((dA (at0 aa 0) text l:Nat):Int) ((aG (at0 aa 0) text l:Nat):Int) aa text l:=
   ⟨⟨b6,vr6,og _ _ z1 hcs hci,og _ _ z2 hbs hbi,z3⟩,kW.out.com,kW.out.pos,kW.out.c0,kW.out.txt,kW.out.tl,kW.out.ll⟩
  obtain⟨_,_,cb,rfl,rfl⟩:=DX HF c ep X Y C T L Wt _ _ aa text l WF x ⟨by omega,by omega⟩
  rw[hxk] at cb
  have hcF:=og _ _ z1 hcs hci
  have lwb:ai Tryz.prog Gt HF 90 (.ptr (.box wb) 0)=some (.ptr (.box c) 0):=aQ wN hwF rfl
  have lwb2:ai Tryz.prog Gt (HF.push (aq x)) 90 (.ptr (.box wb) 0)=some (.ptr (.box c) 0):=aQ wN (aj hwF) rfl
  have lch:ai Tryz.prog Gt HF 3 (.ptr (.box c) 12)=some (.v (.int .i64 ((aG (at0 aa 0) text l:Nat):Int))):=aQ ag3 hcF rfl
  have lch2:ai Tryz.prog Gt (HF.push (aq x)) 3 (.ptr (.box c) 12)=some (.v (.int .i64 ((aG (at0 aa 0) text l:Nat):Int))):=aQ ag3 (aj hcF) rfl
  have lsu:ai Tryz.prog Gt HF 3 (.ptr (.box sumb) 0)=some (.v (.int .i64 (fh (aM rows owners l) s))):=aQ ag3 hsumF rfl
  have lsu2:ai Tryz.prog Gt (HF.push (aq x)) 3 (.ptr (.box sumb) 0)=some (.v (.int .i64 (fh (aM rows owners l) s))):=aQ ag3 (aj hsumF) rfl
  have lpp:=oW hpF
  have m1:=KH f ((dP (at0 aa 0) text l ag:Nat):Int)
  have m2:=MT d (cq f ((dP (at0 aa 0) text l ag:Nat):Int))
  have m3:=KH ((aG (at0 aa 0) text l:Nat):Int) (fh (aM rows owners l) s)
  have m4:=MT (cN d (cq f ((dP (at0 aa 0) text l ag:Nat):Int))) (cq ((aG (at0 aa 0) text l:Nat):Int) (fh (aM rows owners l) s))
  obtain⟨t1,t2,t3,t4,t5,t6⟩:=jk (Hx:=HF.push (aq x)) (aj hzF) (aj heF) (by omega) (cN (cN d (cq f ((dP (at0 aa 0) text l ag:Nat):Int))) (cq ((aG (at0 aa 0) text l:Nat):Int) (fh (aM rows owners l) s))) 0
  clear cF q hyes hres kf kW gk6 gs6 gz6 ge6 gw6 gp6 ga6 gb6 gsum6 gib6 hm w2 w3 hWt p1 p3 hchk og1 og2 og3 og4 hlr v1 v2 v3 v4 v5 v6 hxk hHF hbx og hsF hzF heF hwF hpF hsumF hibF hle hsame hokk hge hne hG hd1 hd2 a1 a2 a3 a4 a5 a6 WF hcF z1 z2 z3 hcs hci hbs hbi hvl hfl hlpos kxl
  generalize cN (cN d (cq f ((dP (at0 aa 0) text l ag:Nat):Int))) (cq ((aG (at0 aa 0) text l:Nat):Int) (fh (aM rows owners l) s))=zz at *
  generalize cN d (cq f ((dP (at0 aa 0) text l ag:Nat):Int))=za at *
  generalize cq f ((dP (at0 aa 0) text l ag:Nat):Int)=zm at *
  generalize cq ((aG (at0 aa 0) text l:Nat):Int) (fh (aM rows owners l) s)=zs at *
  generalize ((dP (at0 aa 0) text l ag:Nat):Int)=bv at *
  generalize ((aG (at0 aa 0) text l:Nat):Int)=chv at *
  generalize fh (aM rows owners l) s=wv at *
  generalize ((aY Gn d:Nat):Int)=pd at *
  generalize ((aY Gn f:Nat):Int)=pf at *
  unfold im at *
  refine gx1 @jO ?_
  refine bU [(7,9)] gM kZq (fun p hp=>?_) ?_
  ·simp only[acg] at hp
   subst hp
   refine nU (x:=.ptr (.box pb) 3) (v:=.v (.int .i64 x.e)) kZq rfl rfl kZq (by simp[cB,gB]) ?_ ?_
   ·simp only[abO,abY]
    refine gx2 @jO @jj ?_
    refine⟨by trivial,?_,by trivial,by trivial⟩
    simp[bg,yy]
   ·simp only[abO,abY]
    exact gz3 @jO @jj @and_self
  refine gx2 @jO @jj ?_
  refine bU [(4,7),(4,10),(4,11)] gM kZq (fun p hp=>?_) ?_
  ·simp only[acd,List.not_mem_nil,or_false] at hp
   rcases hp with rfl|rfl|rfl
   ·refine dI (x:=.ptr (.box wb) 0) (v:=.ptr (.box c) 0) kZq rfl rfl rfl kZq (BU c 0) ?_ ?_<;>(simp only[abO,abY];exact gz3 @jO @jj @and_self)
   ·refine dI (x:=.ptr (.box c) 12) (v:=.v (.int .i64 chv)) kZq rfl rfl rfl kZq (by simp[cB,gB]) ?_ ?_<;>(simp only[abO,abY];exact gz4 @jO @jj @qH @and_self)
   ·refine dI (x:=.ptr (.box sumb) 0) (v:=.v (.int .i64 wv)) kZq rfl rfl rfl kZq (by simp[cB,gB]) ?_ ?_<;>(simp only[abO,abY];exact gz4 @jO @jj @qH @and_self)
  refine gx3 @jO @jj @qH ?_
  exact⟨_,_,rfl,by rw[kr.out]⟩
def L6:List FuncId:=L5++[17,20,22,26,41,44,45,56,63,75,80,133,134]
noncomputable def D0:FuncId->Option (List AV->ae->Option (AV × ae)):=fx W5 L6
noncomputable abbrev W6:=whole Tryz.prog Gt D0
theorem rV:jo D0 L6:=nE
section
variable (a b n x:Int)
theorem K7:∀h,W6.call 28 [im a,im b] h=some (.ret (im (cN a b)),h):=aF (L:=L6) rfl rfl rfl (MT a b _) rfl rfl
theorem Uc:∀h,W6.call 30 [im a,im n] h=some (.ret (.tuple [im (iL a n),im (lG a)]),h):=aF (L:=L6) rfl rfl rfl (BG a n _) rfl rfl
theorem Wv:∀h,W6.call 94 [im x] h=some (.ret (.v (.bool (aX x))),h):=aF (L:=L6) rfl rfl rfl (Wu x _) rfl rfl
theorem Xk:∀h,W6.call 140 [im a,im b] h=some (.ret (.tuple [im (pO a b),im (mP a b)]),h):=aF (L:=L6) rfl rfl rfl (Xi a b _) rfl rfl
theorem V2:∀h,W6.call 132 [im a,im n] h=some (.ret (.tuple [im (iL a n),im (lG a)]),h):=aF (L:=L6) rfl rfl rfl (Xj a n _) rfl rfl
theorem WR:∀h,W6.call 120 [im n] h=some (.ret (.agg (cE 1 n [] .nil 0 [])),h):=aF (L:=L6) rfl rfl rfl (Yc n _) rfl rfl
end
theorem vU:∀l:List Pr,eF (eR l)=eR l
 | []=>rfl
 |p::l=>by
  show eF (aq p::eR l)=_
  rw[eF,vU l];rfl
theorem ye:∀l:List Pr,gH 0 0 0 (eR l)=true
 | []=>rfl
 |p::l=>by
  show gH 0 0 0 (aq p::eR l)=_
  rw[gH,ye l];rfl
theorem tP:∀l:List (Int × Int),eF (bL l)=bL l
 | []=>rfl
 |p::l=>by
  show eF (eu p::bL l)=_
  rw[eF,tP l];rfl
theorem nL:∀l:List (Int × Int),gH 0 0 0 (bL l)=true
 | []=>rfl
 |p::l=>by
  show gH 0 0 0 (eu p::bL l)=_
  rw[gH,nL l];rfl
theorem yf:∀l:List Int,eF (l.map vO)=l.map vO
 | []=>rfl
 |p::l=>by rw[abK,eF,yf l];rfl
theorem BY:∀l:List Int,gH 0 0 0 (l.map vO)=true
 | []=>rfl
 |p::l=>by rw[abK,gH,BY l];rfl
theorem PL.hold{x:AV}{l:List Pr}(h:PL x l):PL (au x) l/\aV 0 0 0 (au x)=true:=by
 obtain⟨k,s,rfl,hs⟩:=h
 rw[au,vU]
 exact⟨⟨di k,s,rfl,hs⟩,by rw[aV,bV,ye];rfl⟩
theorem SL.hold{x:AV}{l:List (Int × Int)}(h:SL x l):SL (au x) l/\aV 0 0 0 (au x)=true:=by
 obtain⟨k,s,rfl,hs⟩:=h
 rw[au,tP]
 exact⟨⟨di k,s,rfl,hs⟩,by rw[aV,bV,nL];rfl⟩
theorem UL.hold{x:AV}{l:List Int}(h:UL x l):UL (au x) l/\aV 0 0 0 (au x)=true:=by
 obtain⟨⟨k,s,rfl,hs⟩,hr⟩:=h
 rw[au,yf]
 exact⟨⟨⟨di k,s,rfl,hs⟩,hr⟩,by rw[aV,bV,BY];rfl⟩
theorem BL.hold{x:AV}{b:List UInt8}(h:BL x b):BL (au x) b/\aV 0 0 0 (au x)=true:=by
 obtain⟨k,s,rfl,hs⟩:=h
 rw[au,iQ]
 exact⟨⟨di k,s,rfl,hs⟩,by rw[aV,bV,fT];rfl⟩
theorem vV{X Y C:AV}{rows:List (List Int)}{owners aa:List Int}(ep:Int)(hx:RL X rows)(hy:IL Y owners)(hc:IL C aa):
 ∃X' Y' C',au (.agg (cI ep X Y C))=.agg (cI ep X' Y' C')/\RL X' rows/\IL Y' owners/\IL C' aa/\aV 0 0 0 (.agg (cI ep X' Y' C'))=true:=by
 obtain⟨h1,h2⟩:=hx.xS
 obtain⟨h3,h4⟩:=hy.hold
 obtain⟨h5,h6⟩:=hc.hold
 exact⟨_,_,_,rfl,h1,h3,h5,by simp[cI,aV,bA,h2,h4,h6]⟩
section
variable (ep:Int) (X Y C T L:AV) (rows:List (List Int)) (owners aa:List Int) (text:List UInt8) (l:List Pr)
 (hx:RL X rows) (hy:IL Y owners) (hc:IL C aa) (ht:BL T text) (hp:PL L l) (hcl:aa.length<=1000000) (hll:l.length<=1000000)
include hx hy hc ht hp hcl hll
theorem E3:(cd rows owners ep aa text l≠0/\∀h,W6.call 17 [.agg (cI ep X Y C),T,L] h=some (.ret (.tuple [.list .nil 0 [],im 0,im 0,im (cd rows owners ep aa text l)]),h))∨
 (cd rows owners ep aa text l=0/\∃Z,IL Z (mr (at0 aa 0) text l)/\∀h,W6.call 17 [.agg (cI ep X Y C),T,L] h=some (.ret (.tuple [Z,im ((dA (at0 aa 0) text l:Nat):Int),im ((aG (at0 aa 0) text l:Nat):Int),im 0]),h)):=by
 obtain⟨X',Y',C',e1,h1,h2,h3,h4⟩:=vV ep hx hy hc
 obtain⟨h5,h6⟩:=ht.hold
 obtain⟨h7,h8⟩:=hp.hold
 have ea:bM [.agg (cI ep X Y C),T,L]=[.agg (cI ep X' Y' C'),au T,au L]:=by
  rw[bM,bM,bM,bM,e1]
 have ef:bA 0 0 0 [.agg (cI ep X' Y' C'),au T,au L]=true:=by
  rw[bA,bA,bA,bA,h4,h6,h8];rfl
 obtain⟨r,h',c,⟨q,rfl⟩|⟨q,Z,rfl,hZ⟩⟩:=PN ⟨[],[],0,[]⟩ ok0 ep X' Y' C' (au T) (au L) rows owners aa text l h1 h2 h3 h5 h7 hcl hll
 ·exact .inl ⟨q,aF (L:=L6) rfl ea ef c rfl rfl⟩
 ·obtain⟨k,s,rfl,hs⟩:=hZ
  refine .inr ⟨q,.list (di k) s (ints _),⟨_,_,rfl,hs⟩,aF (L:=L6) rfl ea ef c ?_ ?_⟩
  ·rfl
  ·rw[aV,bA,aV,bV,fJ];rfl
theorem NX(S:AV)(s:List (Int × Int))(ag d f:Int)(hs:SL S s)(hsl:s.length<=1000000):
 ∀h,W6.call 20 [.agg (cI ep X Y C),T,L,im ag,S,im d,im f] h=some (.ret (.tuple [im (fN rows owners ep aa text l ag s d f).1,im (fN rows owners ep aa text l ag s d f).2]),h):=by
 obtain⟨X',Y',C',e1,h1,h2,h3,h4⟩:=vV ep hx hy hc
 obtain⟨h5,h6⟩:=ht.hold
 obtain⟨h7,h8⟩:=hp.hold
 obtain⟨h9,h10⟩:=hs.hold
 obtain⟨r,h',c,rfl⟩:=PS ⟨[],[],0,[]⟩ ok0 ep X' Y' C' (au T) (au L) (au S) rows owners aa text l s ag d f h1 h2 h3 h5 h7 h9 hcl hll hsl
 exact aF (L:=L6) rfl (by simp only[bM];rw[e1];rfl) (by simp only[bA];rw[h4,h6,h8,h10];rfl) c rfl rfl
theorem NY(ag z:Int):
 ∀h,W6.call 22 [.agg (cI ep X Y C),T,L,im ag,im z] h=some (.ret (.tuple [.v (.bool (ia rows owners ep aa text l ag z).1),im (ia rows owners ep aa text l ag z).2]),h):=by
 obtain⟨X',Y',C',e1,h1,h2,h3,h4⟩:=vV ep hx hy hc
 obtain⟨h5,h6⟩:=ht.hold
 obtain⟨h7,h8⟩:=hp.hold
 obtain⟨r,h',c,rfl⟩:=PQ ⟨[],[],0,[]⟩ ok0 ep X' Y' C' (au T) (au L) rows owners aa text l ag z h1 h2 h3 h5 h7 hcl hll
 exact aF (L:=L6) rfl (by simp only[bM];rw[e1];rfl) (by simp only[bA];rw[h4,h6,h8];rfl) c rfl rfl
end
theorem E4(key e s:Int)(T:AV)(text:List UInt8)(ht:BL T text)(hl:text.length<=1000000):
 ∀h,W6.call 26 [im key,T,.agg [im e,im s]] h=some (.ret (.v (.bool (iO key text e s))),h):=by
 obtain⟨⟨k,z,e1,hs⟩,h2⟩:=ht.hold
 obtain⟨r,h',c,rfl,-⟩:=KK ⟨[],[],0,[]⟩ key e s k z text hs hl
 exact aF (L:=L6) rfl (by simp only[bM];rw[e1];rfl) (by rw[<-e1];simp only[bA];rw[h2];rfl) c rfl rfl
theorem PV(x y:AV)(rows:List (List Int))(owners:List Int)(hx:RL x rows)(hy:IL y owners):∀h,W6.call 75 [.agg [x,y]] h=some (.ret (.v (.bool (jN rows owners))),h):=by
 obtain⟨h1,h2,h3,h4⟩:=fA hx hy
 obtain⟨r,h',c,rfl⟩:=M3 ⟨[],[],0,[]⟩ (au x) (au y) rows owners h1 h2
 exact aF (L:=L6) (args':=[.agg [au x,au y]]) rfl rfl (by simp[bA,aV,h3,h4]) c rfl rfl
theorem N1(x y z:AV)(rows:List (List Int))(owners random:List Int)(bp:Int)(hx:RL x rows)(hy:IL y owners)(hz:IL z random)(hl:random.length<=1000)(hrr:rows.length<=1000000):
 (mb rows owners bp random≠0/\∀h,W6.call 44 [.agg [x,y],im bp,z] h=some (.ret (.tuple [.list .nil 0 [],.list .nil 0 [],im (mb rows owners bp random)]),h))∨
 (mb rows owners bp random=0/\∃U V,SL U (fV rows (bp::random))/\IL V (ax (bp::random))/\∀h,W6.call 44 [.agg [x,y],im bp,z] h=some (.ret (.tuple [U,V,im 0]),h)):=by
 obtain⟨h1,h2,h3,h4⟩:=fA hx hy
 obtain⟨h5,h6⟩:=hz.hold
 have ef:bA 0 0 0 [.agg [au x,au y],im bp,au z]=true:=by simp[bA,aV,h3,h4,h6,im]
 obtain⟨r,h',c,⟨q,rfl⟩|⟨q,t1,s1,t2,s2,rfl,g1,g2⟩⟩:=PG ⟨[],[],0,[]⟩ ok0 (au x) (au y) (au z) rows owners random bp h1 h2 h5 hl hrr
 ·exact .inl ⟨q,aF (L:=L6) (args':=[.agg [au x,au y],im bp,au z]) rfl rfl ef c rfl rfl⟩
 ·refine .inr ⟨q,.list (di t1) s1 (bL _),.list (di t2) s2 (ints _),⟨_,_,rfl,g1⟩,⟨_,_,rfl,fun _=>g2⟩,aF (L:=L6) (args':=[.agg [au x,au y],im bp,au z]) rfl rfl ef c ?_ ?_⟩
  ·rfl
  ·rw[aV,bA,aV,bV,nL,bA,aV,bV,fJ];rfl
theorem BZ(x y:AV)(rows:List (List Int))(owners:List Int)(hx:RL x rows)(hy:IL y owners):∀h,W6.call 42 [.agg [x,y]] h=some (.ret (im (aK rows:Nat)),h):=by
 obtain⟨h1,h2,h3,h4⟩:=fA hx hy
 exact aF (L:=L6) (args':=[.agg [au x,au y]]) rfl rfl (by simp[bA,aV,h3,h4]) (tM (au x) (au y) rows owners h1 h2 _) rfl rfl
theorem Ut(x:AV)(l:List Int)(hx:IL x l)(hl:l.length<=9223372036854775807):∀h,W6.call 92 [x] h=some (.ret (.v (.bool (l.all inQ))),h):=by
 obtain⟨h1,h2⟩:=hx.hold
 exact aF (L:=L6) (args':=[au x]) rfl rfl (by simp[bA,h2]) (U3 (au x) l h1 hl _) rfl rfl
theorem Vi(x:AV)(l:List Int)(hx:IL x l)(hl:l.length<=9223372036854775807):∀h,W6.call 93 [x] h=some (.ret (.v (.bool (cS (-1) l))),h):=by
 obtain⟨h1,h2⟩:=hx.hold
 exact aF (L:=L6) (args':=[au x]) rfl rfl (by simp[bA,h2]) (Vh (au x) l h1 hl _) rfl rfl
theorem K9(x y z:AV)(rows:List (List Int))(owners who:List Int)(hx:RL x rows)(hy:IL y owners)(hz:IL z who)(hwl:who.length<=1099511627776):
 (∃e,bJ rows owners who=([],false,e)/\∀h,W6.call 76 [.agg [x,y],z] h=some (.ret (.tuple [.list .nil 0 [],.v (.bool false),im e]),h))∨
 ∃l,bJ rows owners who=(l,true,0)/\l.length=rows.length/\∃Z,IL Z l/\∀h,W6.call 76 [.agg [x,y],z] h=some (.ret (.tuple [Z,.v (.bool true),im 0]),h):=by
 obtain⟨h1,h2,h3,h4⟩:=fA hx hy
 obtain⟨h5,h6⟩:=hz.hold
 have ef:bA 0 0 0 [.agg [au x,au y],au z]=true:=by simp[bA,aV,h3,h4,h6]
 obtain⟨k,s,xs,e1,-⟩:=h1.form
 rw[e1] at h1
 rcases BJ k s xs (au y) (au z) rows owners who h1 h2 h5 hwl with⟨e,q,c⟩|⟨l,q,ql,c⟩
 ·rw[<-e1] at c
  exact .inl ⟨e,q,aF (L:=L6) (args':=[.agg [au x,au y],au z]) rfl rfl ef (c _) rfl rfl⟩
 ·rw[<-e1] at c
  refine .inr ⟨l,q,ql,.list .held 1 (ints l),⟨_,_,rfl,fun _=>rfl⟩,aF (L:=L6) (args':=[.agg [au x,au y],au z]) rfl rfl ef (c _) ?_ ?_⟩
  ·rfl
  ·rw[aV,bA,aV,fJ];rfl
theorem rW{rows:List (List Int)}{owners who:List Int}(hp:bC rows owners=0)(hw:cS (-1) who=true):(bJ rows owners who).2.2=0:=by
 unfold bJ
 rw[if_neg (by rw[hp];simp),hw]
 simp only[aeJ,abW,if_false]
 split<;>rfl
def dG(ep:Int)(X Y C S W L N:AV):List AV:=[im ep,X,Y,C,S,W,L,N]
abbrev nl:AV:=.list .nil 0 []
theorem Nc:bF Tryz.prog 27=some 4:=kZq
theorem Tr:bF Tryz.prog 29=some 1:=kZq
theorem Ts:bF Tryz.prog 36=some 1:=kZq
theorem Tt:∃i,Tryz.prog.info? 85=some i/\i.size=4/\i.bytes<=64/\(i.zero.map fun z=>z.cells.size)=some 4:=by
 have h:(match Tryz.prog.info? 85 with|some i=>Nat.beq i.size 4&&Nat.ble i.bytes 64&&decide ((i.zero.map fun z=>z.cells.size)=some 4)|none=>false)=true:=kZq
 cases hi:Tryz.prog.info? 85 with
 |none=>rw[hi] at h;cases h
 |some i=>
  rw[hi] at h
  simp only[abr,decide_eq_true_eq] at h
  exact⟨i,rfl,Nat.eq_of_beq_eq_true h.1.1,abX h.1.2,h.2⟩
theorem Sc(p:Pr):aN Tryz.prog 29 1 [(0,.agg (aq p))]=some (.list .tight 4 [aq p]):=kZq
theorem Tu{H:ae}{k:Tok}{n0 sz:Nat}{l:List Pr}{p:Pr}(hl:l.length<1000000)(hs:sz=4∨(l=[]/\k=.nil))(hk:bG n0 H k):
 bP Tryz.prog H #[29,29] (.list k sz (eR l)) (.list .tight 4 [aq p])=some (.list (.free H.tn) 4 (eR (l++[p])),H.app k):=by
 have:=apT (T:=29) (E:=85) (n:=4) (H:=H) (k:=k) (n0:=n0) (sz:=sz) (es:=eR l) (r:=aq p) Tryz.underlying29 Tt (by omega) (by rw[mX];omega) (hs.imp_right fun q=>⟨by rw[q.1];rfl,q.2⟩) hk
 rw[this];unfold eR;rw[acv];rfl
structure TI(h H:ae)(X Y:AV)(T:List AV)(t:Tok):Prop where
 ext:Ext h H
 ok:aZ H=true
 can:bG h.tn H t
 pb:H.boxes[h.boxes.length]?=some [X,Y]
 tb:H.boxes[h.boxes.length+1]?=some T
section
variable {h H:ae} {X Y:AV} {T:List AV} {t:Tok}
theorem TI.app(b:TI h H X Y T t):TI h (H.app t) X Y T (.free H.tn):=by
 have gr:=Grown.one b.can b.ok b.ext.tn
 exact⟨gr.ext b.ext (abq _),gr.ok,gr.can,by rw[aT];exact b.pb,by rw[aT];exact b.tb⟩
theorem TI.push(b:TI h H X Y T t)(cs:List AV):TI h (H.push cs) X Y T t:=⟨b.ext.trans (.push _ _),b.ok,by rw[ij];exact b.can,aj b.pb,aj b.tb⟩
theorem TI.put(b:TI h H X Y T t)(T2:List AV):TI h (H.put (h.boxes.length+1) T2) X Y T2 t:=by
 have hl:=(abm.1 b.tb).1
 exact⟨b.ext.bZ (by omega) _,b.ok,by rw[jd];exact b.can,by rw[av (by omega)];exact b.pb,aS hl⟩
theorem TI.nil(b:TI h H X Y T t):TI h H X Y T .nil:=⟨b.ext,b.ok,.inl rfl,b.pb,b.tb⟩
end
section
variable {H:ae} {b:Nat} {ep:Int} {X Y C S W L N x:AV}
theorem stS(hb:H.boxes[b]?=some (dG ep X Y C S W L N))(hx:x.aC=some [x]):aA Tryz.prog H 36 (.ptr (.box b) 4) x=some (H.put b (dG ep X Y C x W L N)):=
 aW (off:=4) (cs:=dG ep X Y C S W L N) (xs:=[x]) hx Ts hb rfl (abX rfl)
theorem RL.Uu{x:AV}{l:List (List Int)}(h:RL x l):x.aC=some [x]:=by obtain⟨k,s,xs,rfl,-⟩:=h.form;rfl
theorem PL.Uu{x:AV}{l:List Pr}(h:PL x l):x.aC=some [x]:=by obtain⟨k,s,rfl,-⟩:=h;rfl
theorem IL.Uu{x:AV}{l:List Int}(h:IL x l):x.aC=some [x]:=by obtain⟨k,s,rfl,-⟩:=h;rfl
end
structure Lc(rows:List (List Int))(owners aa:List Int)(sh:List (Int × Int))(who:List Int)(l:List Pr)(nn:List Int)(X Y C S W L N:AV):Prop where
 x:RL X rows
 y:IL Y owners
 c:IL C aa
 s:SL S sh
 w:IL W who
 p:PL L l
 n:IL N nn
 wl:who.length<=16
 nl:nn.length=2 * who.length
 sl:sh.length<=1000
 inn:∀p∈sh,0<=p.1/\p.1<owners.length
 cl:aa.length<=1000000
 ll:l.length<=1000000
structure TB(h H:ae)(T:List AV)(t:Tok):Prop where
 ext:Ext h H
 ok:aZ H=true
 can:bG h.tn H t
 tb:H.boxes[h.boxes.length]?=some T
section
variable {h H:ae} {T:List AV} {t:Tok}
theorem TB.app(b:TB h H T t):TB h (H.app t) T (.free H.tn):=by
 have gr:=Grown.one b.can b.ok b.ext.tn
 exact⟨gr.ext b.ext (abq _),gr.ok,gr.can,by rw[aT];exact b.tb⟩
theorem TB.push(b:TB h H T t)(cs:List AV):TB h (H.push cs) T t:=⟨b.ext.trans (.push _ _),b.ok,by rw[ij];exact b.can,aj b.tb⟩
theorem TB.start(hok:aZ h=true)(T:List AV):TB h (h.push T) T .nil:=⟨.push _ _,hok,.inl rfl,ak _ _⟩
end
theorem Sf:(ej Tryz.prog 50).bind AV.aC=some [im 0,im 0]:=kZq
theorem P1:bF Tryz.prog 50=some 2:=kZq
theorem Tv:cZ Tryz.prog 50=some true:=kZq
theorem Sh{H:ae}{b:Nat}{x y:Int}(hb:H.boxes[b]?=some [im x,im y]):ai Tryz.prog Gt H 50 (.ptr (.box b) 0)=some (.agg [im x,im y]):=by
 rw[cP Tv P1 hb (abq 2)];rfl
theorem Tw{H:ae}{b:Nat}{x y u v:Int}(hb:H.boxes[b]?=some [im x,im y]):aA Tryz.prog H 50 (.ptr (.box b) 0) (.agg [im u,im v])=some (H.put b [im u,im v]):=
 aW (off:=0) (cs:=[im x,im y]) (xs:=[im u,im v]) rfl P1 hb rfl (abq 2)
def sU(z:List Int)(k:Nat):Int:=(z.take k).foldl cN 0
theorem HK{z:List Int}{k:Nat}(h:k<z.length):sU z (k+1)=cN (sU z k) (at0 z k):=by
 unfold sU
 rw[a9 (abo h),List.foldl_append,bN h];rfl
structure nM(who N:List Int)(l:List Pr):Prop where
 len:l.length=who.length
 nl:N.length=2 * who.length
 ok:∀x∈N,okF x
 at_:∀i<who.length,∃no:Int,0<=no/\no<4096/\l[i]?=some ⟨at0 who i,no,(aY Gn (at0 N (2 * i)):Nat),(aY Gn (at0 N (2 * i+1)):Nat)⟩
theorem nM.ok1{who N:List Int}{l:List Pr}(c:nM who N l){i:Nat}(h:i<who.length):okF (at0 N (2 * i))/\okF (at0 N (2 * i+1)):=⟨c.ok _ (zC (by rw[c.nl];omega)),c.ok _ (zC (by rw[c.nl];omega))⟩
theorem nM.dj{who N:List Int}{l:List Pr}(c:nM who N l):l.map Pr.ag=who:=by
 refine acG fun i=>?_
 rcases abL i who.length with h|h
 ·obtain⟨no,-,-,q⟩:=c.at_ i h
  rw[abF,q,abJ,bN h,abo h]
 ·rw[acf (by rw[abu,c.len];exact h),acf h]
theorem uo(n:Int):aX ((aY Gn n:Nat):Int)=true:=by
 have h:=iq gZ n
 unfold aX
 rw[abB,h,adW,decide_eq_true_eq]
 have:=(elem_iff.1 h).1
 omega
theorem nV:∀{l:List Pr} {last:Int},cS last (l.map Pr.ag)=true->(∀p∈l,0<=p.no/\p.no<4096/\aX p.d=true/\aX p.e=true)->dy last l=true:=by
 intro l
 induction l with
 |nil=>intro _ _ _;rfl
 |cons p l ih=>
  intro last h1 h2
  rw[abK,cS] at h1
  simp only[abr,decide_eq_true_eq] at h1
  obtain⟨q1,q2,q3,q4⟩:=h2 p abM
  rw[NT.dy,ih h1.2 fun q hq=>h2 q (abH _ hq),q3,q4]
  simp only[adW,abr,decide_eq_true_eq]
  omega
theorem nM.mem{who N:List Int}{l:List Pr}(c:nM who N l){p:Pr}(hp:p∈l):∃i,∃(_:i<who.length) (no:Int),0<=no/\no<4096/\l[i]?=some p/\p=⟨at0 who i,no,(aY Gn (at0 N (2 * i)):Nat),(aY Gn (at0 N (2 * i+1)):Nat)⟩:=by
 obtain⟨i,hi⟩:=List.getElem?_of_mem hp
 have hil:=(abm.1 hi).1
 rw[c.len] at hil
 obtain⟨no,n1,n2,q⟩:=c.at_ i hil
 rw[hi] at q
 injection q with q
 exact⟨i,hil,no,n1,n2,hi,q⟩
theorem nM.E6{who N:List Int}{l:List Pr}(c:nM who N l)(hw:cS (-1) who=true):dy (-1) l=true:=by
 refine nV (by rw[c.dj];exact hw) fun p hp=>?_
 obtain⟨i,hi,no,n1,n2,-,rfl⟩:=c.mem hp
 exact⟨n1,n2,uo _,uo _⟩
def ixW(who:List Int)(k:Int):Nat:=who.idxOf k
theorem Lf{who:List Int}(hn:who.Nodup){i:Nat}(h:i<who.length):ixW who (at0 who i)=i:=by
 unfold ixW
 rw[bN h]
 exact hn.idxOf_getElem i h
theorem nM.Ty{who N:List Int}{l:List Pr}(c:nM who N l)(hw:cS (-1) who=true):O1 l (fun k=>at0 N (2 * ixW who k)) (fun k=>at0 N (2 * ixW who k+1)):=by
 intro p hp
 obtain⟨i,hi,no,n1,n2,-,rfl⟩:=c.mem hp
 simp only[Lf (nH hw).2 hi]
 exact⟨trivial,trivial⟩
theorem P2{rows:List (List Int)}{owners s:List Int}(hl:rows.length=owners.length)(k:Int):ofF owners [k] (fV rows s)=gK owners (bO rows s) k:=by
 unfold ofF gK cT fV
 rw[hl]
 have e:∀(L:List Nat),(∀i∈L,i<rows.length)->(L.map fun i=>(((i:Nat):Int),oa (rows.getD i []) s)).flatMap (mc owners [k])=(L.filter fun i=>decide (at0 owners i=k)).map fun i=>(((i:Nat):Int),at0 (bO rows s) i):=by
  intro L
  induction L with
  |nil=>intro _;rfl
  |cons i L ih=>
   intro hL
   have hi:=hL i abM
   rw[abK,adV,ih fun j hj=>hL j (abH _ hj),aej]
   unfold mc
   rw[abB]
   by_cases q:at0 owners i=k
   ·rw[if_pos (by simp[q]),adY (by simp[q]),abK,abK,sN hi];rfl
   ·rw[if_neg (by simp[q]),adX (by simp[Ne.symm q])];rfl
 exact e _ fun i hi=>by rw[hl];exact abQ.1 hi
section
variable {rows:List (List Int)} {owners who N s y:List Int} {l:List Pr} {text:List UInt8} {ep:Int}
theorem nN{aa:List Int}(c:nM who N l)(ha:bJ rows owners who=(y,true,0))(hne:who≠[])(hwl:who.length<=64)(ht:text.length<=65536)(he:0<=ep/\ep<=64)(hc:aa.length=aK rows)(hce:aa.all aX=true):cd rows owners ep aa text l=0:=by
 obtain⟨hp,hw,-⟩:=e7 ha
 unfold cd
 rw[if_neg (by simp[hp]),if_neg (by simp[hc,hce,he.1,he.2]),if_neg (by omega),if_neg (by rw[c.len];omega),if_neg (by rw[c.E6 hw];simp),c.dj,ha]
 have:who.length≠0:=fun q=>hne (List.length_eq_zero_iff.1 q)
 simp[c.len,this]
theorem eE(hs:s.length=aK rows):(ax s).length=aK rows/\(ax s).all aX=true:=⟨by unfold ax;rw[abu,hs],zx⟩
theorem sV(c:nM who N l)(ha:bJ rows owners who=(y,true,0))(hne:who≠[])(hwl:who.length<=64)(ht:text.length<=65536)(he:0<=ep/\ep<=64)(hs:s.length=aK rows){i:Nat}(hi:i<who.length):
 fN rows owners ep (ax s) text l (at0 who i) (gK owners (bO rows s) (at0 who i)) (at0 N (2 * i)) (at0 N (2 * i+1))=
  (fD rows owners (ax s) text l (at0 who i) (at0 N (2 * i)) (at0 N (2 * i+1)) (gK owners (bO rows s) (at0 who i)),0):=by
 obtain⟨hp,hw,-⟩:=e7 ha
 unfold fN
 rw[if_neg (by rw[nN c ha hne hwl ht he (eE hs).1 (eE hs).2];simp)]
 obtain⟨no,-,-,q⟩:=c.at_ i hi
 have hm:=abz q
 exact MA hp hs (c.E6 hw) hm rfl rfl (c.ok1 hi).1 (c.ok1 hi).2
theorem HL(c:nM who N l)(ha:bJ rows owners who=(y,true,0))(hne:who≠[])(hwl:who.length<=64)(ht:text.length<=65536)(he:0<=ep/\ep<=64)(hs:s.length=aK rows){i:Nat}(hi:i<who.length){z:Int}(hz:okF z):
 ia rows owners ep (ax s) text l (at0 who i) z=
  (decide (z=fD rows owners (ax s) text l (at0 who i) (at0 N (2 * i)) (at0 N (2 * i+1)) (gK owners (bO rows s) (at0 who i))),0):=by
 obtain⟨hp,hw,-⟩:=e7 ha
 unfold ia
 rw[if_neg (by rw[nN c ha hne hwl ht he (eE hs).1 (eE hs).2];simp)]
 obtain⟨no,-,-,q⟩:=c.at_ i hi
 have hm:=abz q
 have hpo:=EA (c.E6 hw) hm
 unfold tG
 rw[hpo]
 simp only[iP.2 hz,aeJ,abW,if_false]
 rw[JF hp hs rfl rfl hz]
theorem vY(c:nM who N l)(ha:bJ rows owners who=(y,true,0))(hs:s.length=aK rows):
 iO (at0 (ax s) 0) text ((aG (at0 (ax s) 0) text l:Nat):Int) (((aby who.length).map fun i=>fD rows owners (ax s) text l (at0 who i) (at0 N (2 * i)) (at0 N (2 * i+1)) (gK owners (bO rows s) (at0 who i))).foldl cN 0)=true:=by
 obtain⟨hp,hw,-⟩:=e7 ha
 have hsg:=QU (text:=text) (l:=l) (by rw[c.dj];exact ha) hs (c.Ty hw)
 rw[c.dj] at hsg
 have e:(who.map fun k=>fD rows owners (ax s) text l k (at0 N (2 * ixW who k)) (at0 N (2 * ixW who k+1)) (gK owners (bO rows s) k))=(aby who.length).map fun i=>fD rows owners (ax s) text l (at0 who i) (at0 N (2 * i)) (at0 N (2 * i+1)) (gK owners (bO rows s) (at0 who i)):=by
  refine acG fun i=>?_
  rcases abL i who.length with h|h
  ·have hx:=Lf (nH hw).2 h
   rw[abF,abF,ada h,abo h,abJ,abJ]
   rw[bN h] at hx ⊢
   rw[hx]
  ·rw[acf (by simpa using h),acf (by simpa using h)]
 rw[e] at hsg
 exact hsg
end
def R3:List (List Int):=[[1,1],[1,2],[1,3]]
def O3:List Int:=[0,1,2]
def S2:List Int:=[10,4]
def txt:List UInt8:=[116,101,120,116]
def pA:Pr:=⟨0,0,(aY Gn 5:Nat),(aY Gn 6:Nat)⟩
def pB:Pr:=⟨2,2,(aY Gn 7:Nat),(aY Gn 8:Nat)⟩
theorem BR:bJ R3 O3 [0,2]=([536870896,0,536870894],true,0):=by decide+kernel
abbrev C3:List Int:=ax S2
abbrev b3(k:Int):Int:=((dP (at0 C3 0) txt [pA,pB] k:Nat):Int)
abbrev ch3:Int:=((aG (at0 C3 0) txt [pA,pB]:Nat):Int)
def x3:Int:=cN (cN 5 (cq 6 (b3 0))) (cq ch3 21)
def y3:Int:=cN (cN 7 (cq 8 (b3 2))) (cq ch3 1073741778)
def X3:AV:=.list .tight 1 [[.list .tight 1 (ints [1,1])],[.list .tight 1 (ints [1,2])],[.list .tight 1 (ints [1,3])]]
def T3:AV:=.list .held 1 (u8s txt)
theorem B8(h:ae)(hok:aZ h=true)(es:List (List AV)):∃H5 H6,h.fresh 1 es=(.list (.free h.tn) 1 es,H5)/\fm Tryz.prog H5 28 28 (.list (.free h.tn) 1 es)=some (.list .held 1 es,H6)/\Ext h H6/\H6.boxes=h.boxes:=by
 have hal:alive {h with tn:=h.tn+1} h.tn=true:=by
  unfold aZ at hok
  unfold alive
  simp only[abr,decide_eq_true_eq,Bool.not_eq_true']
  refine⟨Nat.lt_succ_self _,?_⟩
  cases hc:h.dead.contains h.tn with
  |false=>rfl
  |true=>
   have:=abE.1 hok h.tn (by simpa using hc)
   simp at this
 have u28:=Tryz.underlying28
 have u5:Tryz.prog.underlying 5=some (.int .u8):=kZq
 refine⟨{h with tn:=h.tn+1},{h with tn:=h.tn+1,dead:=h.tn::h.dead},rfl,?_,?_,rfl⟩
 ·unfold fm
  rw[u28]
  simp only[u5,hal,and_self,if_true]
 ·refine⟨fun _ _ q=>q,fun _ _ q=>q,Nat.le_succ _,fun n hn q=>?_,fun ho=>?_⟩
  ·rcases acd.1 q with q|q
   ·omega
   ·exact q
  ·unfold aZ at *
   rw[List.all_cons,abr]
   refine⟨by simp,abE.2 fun x hx=>?_⟩
   have:=abE.1 ho x hx
   simp at this ⊢
   omega
theorem TH(a b:Int):fj Tryz.prog 50 [(0,im a),(1,im b)]=some (.agg [im a,im b]):=kZq
section
variable {rows:List (List Int)} {owners random eg:List Int} {bp sm:Int} {text:List UInt8}
def yh(rows:List (List Int))(owners s who N:List Int)(l:List Pr)(text:List UInt8)(i:Nat):Int:=
 fD rows owners (ax s) text l (at0 who i) (at0 N (2 * i)) (at0 N (2 * i+1)) (gK owners (bO rows s) (at0 who i))
end
theorem BL.Uu{x:AV}{b:List UInt8}(h:BL x b):x.aC=some [x]:=by obtain⟨k,s,rfl,-⟩:=h;rfl
def okZ(l:List Pr)(z:List Int):Bool:=decide (z.length=l.length)&&z.all inQ
def rA(l:List Pr)(i:Nat):Int:=at0 (l.map Pr.ag) i
def QK(rows:List (List Int))(owners:List Int)(ep:Int)(aa:List Int)(text:List UInt8)(l:List Pr)(z:List Int):(Int × Int) × Bool × Int:=
 if cd rows owners ep aa text l≠0 then ((0,0),false,cd rows owners ep aa text l)
 else if okZ l z=false then ((0,0),false,1)
 else if iO (at0 aa 0) text ((aG (at0 aa 0) text l:Nat):Int) (z.foldl cN 0) then ((((aG (at0 aa 0) text l:Nat):Int),z.foldl cN 0),true,0)
 else ((0,0),false,0)
def Uv(rows:List (List Int))(owners:List Int)(ep:Int)(aa:List Int)(text:List UInt8)(l:List Pr)(z:List Int)(i:Nat):List Int:=
 if (ia rows owners ep aa text l (rA l i) (at0 z i)).1 then [] else [rA l i]
def UF(rows:List (List Int))(owners:List Int)(ep:Int)(aa:List Int)(text:List UInt8)(l:List Pr)(z:List Int)(k:Nat):List Int:=
 (aby k).flatMap (Uv rows owners ep aa text l z)
def sw(rows:List (List Int))(owners:List Int)(ep:Int)(aa:List Int)(text:List UInt8)(l:List Pr)(z:List Int):List Int × Int:=
 if cd rows owners ep aa text l≠0 then ([],cd rows owners ep aa text l)
 else if okZ l z=false then ([],1)
 else (UF rows owners ep aa text l z l.length,0)
theorem UH(rows:List (List Int))(owners:List Int)(ep:Int)(aa:List Int)(text:List UInt8)(l:List Pr)(z:List Int)(k:Nat):
 UF rows owners ep aa text l z (k+1)=UF rows owners ep aa text l z k++Uv rows owners ep aa text l z k:=by
 unfold UF
 rw[acx,List.flatMap_append];simp
theorem QO{l:List Pr}{z:List Int}:okZ l z=true↔z.length=l.length/\∀x∈z,okF x:=by
 unfold okZ
 simp only[abr,decide_eq_true_eq,abE,iP]
theorem UI{l:List Pr}{i:Nat}{p:Pr}(h:l[i]?=some p):rA l i=p.ag:=by
 have hl:=(abm.1 h)
 obtain⟨hi,e⟩:=hl
 unfold rA
 rw[bN (by rw[abu];exact hi),acA,e]
theorem U4{l:List Pr}{i:Nat}{p:Pr}(h:l[i]?=some p):∃q,gl l p.ag=some q:=by
 unfold gl
 cases hq:l.find? fun x=>decide (x.ag=p.ag) with
 |some q=>exact⟨q,rfl⟩
 |none=>
  have:=List.find?_eq_none.1 hq p (abz h)
  simp at this
theorem VD{rows:List (List Int)}{owners aa:List Int}{ep:Int}{text:List UInt8}{l:List Pr}{z:List Int}(hb:cd rows owners ep aa text l=0)(hz:okZ l z=true){i:Nat}(hi:i<l.length):
 (ia rows owners ep aa text l (rA l i) (at0 z i)).2=0:=by
 obtain⟨hl,ho⟩:=QO.1 hz
 have hp:l[i]?=some l[i]:=abo hi
 rw[UI hp]
 obtain⟨q,hq⟩:=U4 hp
 have hin:inQ (at0 z i)=true:=iP.2 (ho _ (zC (by omega)))
 unfold ia tG
 rw[if_neg (by rw[hb];simp),hq]
 simp[hin]
theorem U5{α:Type}(f:Nat->α)(p:Nat->Bool):∀L:List Nat,L.flatMap (fun i=>if p i then [] else [f i])=(L.filter fun i=> !p i).map f:=by
 intro L
 induction L with
 |nil=>rfl
 |cons a L ih=>
  rw[adV,ih,aej]
  cases p a<;>rfl
theorem filter_one{n i:Nat}(h:i<n):((aby n).filter fun j=>decide (j=i))=[i]:=by
 induction n with
 |zero=>omega
 |succ n ih=>
  rw[acx,ady]
  by_cases e:i=n
  ·subst e
   have:((aby i).filter fun j=>decide (j=i))=[]:=ae7.2 fun j hj=>by have:=abQ.1 hj;simp;omega
   rw[this];simp
  ·rw[ih (by omega)]
   have:decide (n=i)=false:=decide_eq_false (by omega)
   simp[this]
theorem Vj{n:Nat}(h:2<=n):((aby n).filter fun j=>decide (j<2))=[0,1]:=by
 induction n with
 |zero=>omega
 |succ n ih=>
  by_cases e:n=1
  ·subst e;rfl
  ·rw[acx,ady,ih (by omega)]
   have:decide (n<2)=false:=decide_eq_false (by omega)
   simp[this]
theorem V3:∀{who:List Int},2<=who.length->[0,1].map (at0 who)=who.take 2
 | [],h=>by simp at h
 | [_],h=>by simp at h
 |a::b::t,_=>rfl
section
variable {rows:List (List Int)} {owners who N s y z:List Int} {l:List Pr} {text:List UInt8} {ep:Int}
def db(rows:List (List Int))(owners s who N:List Int)(l:List Pr)(text:List UInt8):List Int:=(aby who.length).map (yh rows owners s who N l text)
theorem hU:(db rows owners s who N l text).length=who.length:=by unfold db;simp
theorem NS{i:Nat}(h:i<who.length):at0 (db rows owners s who N l text) i=yh rows owners s who N l text i:=by
 unfold db
 rw[bN (by simpa using h),acA,List.getElem_range]
theorem Uk(i:Nat):okF (yh rows owners s who N l text i):=JC
theorem Ug(c:nM who N l):okZ l (db rows owners s who N l text)=true:=by
 refine QO.2 ⟨by rw[hU,c.len],fun x hx=>?_⟩
 unfold db at hx
 obtain⟨i,-,rfl⟩:=List.mem_map.1 hx
 exact Uk i
theorem VE(c:nM who N l)(i:Nat):rA l i=at0 who i:=by unfold rA;rw[c.dj]
structure lP(rows:List (List Int))(owners who N s y:List Int)(l:List Pr)(text:List UInt8)(ep:Int):Prop where
 Ur:nM who N l
 acc:bJ rows owners who=(y,true,0)
 ne:who≠[]
 wl:who.length<=64
 tl:text.length<=65536
 ep:0<=ep/\ep<=64
 sl:s.length=aK rows
theorem lP.UA(c:lP rows owners who N s y l text ep):cd rows owners ep (ax s) text l=0:=
 nN c.Ur c.acc c.ne c.wl c.tl c.ep (eE c.sl).1 (eE c.sl).2
theorem lP.QU(c:lP rows owners who N s y l text ep):iO (at0 (ax s) 0) text ((aG (at0 (ax s) 0) text l:Nat):Int) ((db rows owners s who N l text).foldl cN 0)=true:=
 vY c.Ur c.acc c.sl
theorem lP.comb(c:lP rows owners who N s y l text ep):QK rows owners ep (ax s) text l (db rows owners s who N l text)=
 ((((aG (at0 (ax s) 0) text l:Nat):Int),(db rows owners s who N l text).foldl cN 0),true,0):=by
 unfold QK
 rw[if_neg (by rw[c.UA];simp),if_neg (by rw[Ug c.Ur];simp),c.QU,if_pos rfl]
theorem lP.UQ(c:lP rows owners who N s y l text ep)(hz:okZ l z=true):QK rows owners ep (ax s) text l z=
 if iO (at0 (ax s) 0) text ((aG (at0 (ax s) 0) text l:Nat):Int) (z.foldl cN 0) then ((((aG (at0 (ax s) 0) text l:Nat):Int),z.foldl cN 0),true,0) else ((0,0),false,0):=by
 unfold QK
 rw[if_neg (by rw[c.UA];simp),if_neg (by rw[hz];simp)]
theorem lP.U6(c:lP rows owners who N s y l text ep)(hz:okZ l z=false):QK rows owners ep (ax s) text l z=((0,0),false,1):=by
 unfold QK
 rw[if_neg (by rw[c.UA];simp),if_pos hz]
theorem lP.UJ(c:lP rows owners who N s y l text ep)(hz:okZ l z=false):sw rows owners ep (ax s) text l z=([],1):=by
 unfold sw
 rw[if_neg (by rw[c.UA];simp),if_pos hz]
theorem lP.U7(c:lP rows owners who N s y l text ep)(hz:okZ l z=true):sw rows owners ep (ax s) text l z=
 (((aby who.length).filter fun i=> !decide (at0 z i=yh rows owners s who N l text i)).map (at0 who),0):=by
 unfold sw
 rw[if_neg (by rw[c.UA];simp),if_neg (by rw[hz];simp)]
 rw[<-U5]
 unfold UF
 rw[c.Ur.len]
 refine congrArg (fun q=>(q,(0:Int))) ?_
 obtain⟨hl,ho⟩:=QO.1 hz
 have key:∀L:List Nat,(∀i∈L,i<who.length)->L.flatMap (Uv rows owners ep (ax s) text l z)=L.flatMap fun i=>if decide (at0 z i=yh rows owners s who N l text i) then [] else [at0 who i]:=by
  intro L
  induction L with
  |nil=>intro _;rfl
  |cons i L ih=>
   intro hL
   have hi:=hL i abM
   rw[adV,adV,ih fun j hj=>hL j (abH _ hj)]
   unfold Uv
   rw[VE c.Ur,HL c.Ur c.acc c.ne c.wl c.tl c.ep c.sl hi (ho _ (zC (by rw[hl,c.Ur.len];exact hi)))]
   rfl
 exact key _ fun i hi=>abQ.1 hi
theorem lP.UB(c:lP rows owners who N s y l text ep):sw rows owners ep (ax s) text l (db rows owners s who N l text)=([],0):=by
 rw[c.U7 (Ug c.Ur)]
 refine congrArg (fun q=>(q,(0:Int))) ?_
 rw[adG]
 refine ae7.2 fun i hi=>?_
 rw[NS (abQ.1 hi)];simp
theorem lP.Ww(c:lP rows owners who N s y l text ep)(hz:okZ l z=true)(h:(sw rows owners ep (ax s) text l z).1=[]):z=db rows owners s who N l text:=by
 rw[c.U7 hz] at h
 obtain⟨hl,-⟩:=QO.1 hz
 have h2:=ae7.1 (adG.1 h)
 refine acG fun i=>?_
 rcases abL i who.length with q|q
 ·have h3:=h2 i (abQ.2 q)
  simp at h3
  have hz1:i<z.length:=by rw[hl,c.Ur.len];exact q
  have hz2:i<(db rows owners s who N l text).length:=by rw[hU];exact q
  rw[<-NS q,bN hz1,bN hz2] at h3
  rw[abo hz1,abo hz2,h3]
 ·rw[acf (by rw[hl,c.Ur.len];exact q),acf (by rw[hU];exact q)]
theorem lP.UK(c:lP rows owners who N s y l text ep){i:Nat}(hi:i<who.length){v:Int}(hv:okF v)(hne:v≠yh rows owners s who N l text i):
 sw rows owners ep (ax s) text l ((db rows owners s who N l text).set i v)=([at0 who i],0)/\okZ l ((db rows owners s who N l text).set i v)=true:=by
 have ok:okZ l ((db rows owners s who N l text).set i v)=true:=by
  obtain⟨h1,h2⟩:=QO.1 (Ug (rows:=rows) (owners:=owners) (s:=s) (text:=text) c.Ur)
  refine QO.2 ⟨by rw[aca];exact h1,fun x hx=>?_⟩
  rcases ach hx with q|rfl
  ·exact h2 x q
  ·exact hv
 refine⟨?_,ok⟩
 rw[c.U7 ok]
 refine congrArg (fun q=>(q,(0:Int))) ?_
 have e:((aby who.length).filter fun j=> !decide (at0 ((db rows owners s who N l text).set i v) j=yh rows owners s who N l text j))=((aby who.length).filter fun j=>decide (j=i)):=by
  refine ags fun j hj=>?_
  have hj:=abQ.1 hj
  rw[bN (by rw[aca,hU];exact hj),adi]
  by_cases q:i=j
  ·subst q
   simp[hne]
  ·rw[if_neg q,<-bN (by rw[hU];exact hj),NS hj]
   have:¬j=i:=fun z=>q z.symm
   simp[this]
 rw[e,filter_one hi];rfl
theorem lP.VF(c:lP rows owners who N s y l text ep)(hi:2<=who.length){v w:Int}(hv:okF v)(hw:okF w)(hne:v≠yh rows owners s who N l text 0)(hnf:w≠yh rows owners s who N l text 1):
 sw rows owners ep (ax s) text l (((db rows owners s who N l text).set 0 v).set 1 w)=(who.take 2,0)/\okZ l (((db rows owners s who N l text).set 0 v).set 1 w)=true:=by
 have ok:okZ l (((db rows owners s who N l text).set 0 v).set 1 w)=true:=by
  obtain⟨h1,h2⟩:=QO.1 (Ug (rows:=rows) (owners:=owners) (s:=s) (text:=text) c.Ur)
  refine QO.2 ⟨by rw[aca,aca];exact h1,fun x hx=>?_⟩
  rcases ach hx with q|rfl
  ·rcases ach q with q|rfl
   ·exact h2 x q
   ·exact hv
  ·exact hw
 refine⟨?_,ok⟩
 rw[c.U7 ok]
 refine congrArg (fun q=>(q,(0:Int))) ?_
 have e:((aby who.length).filter fun j=> !decide (at0 (((db rows owners s who N l text).set 0 v).set 1 w) j=yh rows owners s who N l text j))=((aby who.length).filter fun j=>decide (j<2)):=by
  refine ags fun j hj=>?_
  have hj:=abQ.1 hj
  rw[bN (by rw[aca,aca,hU];exact hj),adi]
  by_cases q:1=j
  ·subst q
   simp[hnf]
  ·rw[if_neg q,adi]
   by_cases q0:0=j
   ·subst q0
    simp[hne]
   ·rw[if_neg q0,<-bN (by rw[hU];exact hj),NS hj]
    have:¬j<2:=by omega
    simp[this]
 rw[e,Vj hi]
 exact V3 hi
theorem V4{a b v w:Int}{t:List Int}(h:(v+w - (a+b))%Qi=0):(v::w::t).foldl cN 0=(a::b::t).foldl cN 0:=by
 show t.foldl cN (cN (cN 0 v) w)=t.foldl cN (cN (cN 0 a) b)
 have e:cN (cN 0 v) w=cN (cN 0 a) b:=by
  simp only[jU,Qi] at *
  omega
 rw[e]
end
theorem QR:Tryz.f38.results.toList=[.cell 12 66,.tmp 13,.tmp 14]:=kZq
def fa(ep:Int)(X Y C T L Z:AV):List AV:=[im ep,X,Y,C,T,L,Z]
theorem VG:(ej Tryz.prog 66).bind AV.aC=some (fa 0 nl nl nl nl nl nl):=kZq
theorem Uo:bF Tryz.prog 66=some 7:=kZq
theorem YO:cZ Tryz.prog 66=some true:=kZq
theorem Tx:(∀b,aJ Tryz.prog 66 (.ptr (.box b) 0) 0=some (.ptr (.box b) 0))/\(∀b,aJ Tryz.prog 66 (.ptr (.box b) 0) 1=some (.ptr (.box b) 4))/\(∀b,aJ Tryz.prog 66 (.ptr (.box b) 0) 2=some (.ptr (.box b) 5))/\∀b,aJ Tryz.prog 66 (.ptr (.box b) 0) 3=some (.ptr (.box b) 6):=
 ⟨fun b=>kZq,fun b=>kZq,fun b=>kZq,fun b=>kZq⟩
theorem Yd:(∀b,aJ Tryz.prog 81 (.ptr (.box b) 0) 0=some (.ptr (.box b) 0))/\∀b,aJ Tryz.prog 81 (.ptr (.box b) 0) 1=some (.ptr (.box b) 1):=⟨fun b=>kZq,fun b=>kZq⟩
theorem YP:(ej Tryz.prog 81).bind AV.aC=some (eu (0,0)):=kZq
theorem Ye{H:ae}(p:Int × Int):aA Tryz.prog (H.push (eu (0,0))) 81 (.ptr (.box H.boxes.length) 0) (.agg (eu p))=some (H.push (eu p)):=cQ rfl M4 rfl rfl
theorem Yf{H:ae}{b:Nat}{p:Int × Int}(hb:H.boxes[b]?=some (eu p)):ai Tryz.prog Gt H 81 (.ptr (.box b) 0)=some (.agg (eu p)):=by
 rw[cP Th M4 hb (abq 2)];rfl
section
variable {H:ae} {b:Nat} {ep:Int} {X Y C S L Z x:AV}
theorem Yg{T:List AV}(hb:H.boxes[b]?=some T)(hl:T.length=7):ai Tryz.prog Gt H 66 (.ptr (.box b) 0)=some (.agg T):=by
 rw[cP YO Uo hb (by omega)]
 rw[List.drop_zero,abD (by omega)]
theorem Yh{T T2:List AV}(hb:H.boxes[b]?=some T)(hl:T.length=7)(hx:(AV.agg T2).aC=some T2)(hl2:T2.length=7):aA Tryz.prog H 66 (.ptr (.box b) 0) (.agg T2)=some (H.put b T2):=by
 rw[aW (off:=0) (cs:=T) (xs:=T2) hx Uo hb hl2 (by omega),jc (by omega)]
theorem Yi{ep2:Int}{X2 Y2 C2:AV}(hb:H.boxes[b]?=some (fa ep X Y C S L Z))(hx:(AV.agg (cI ep2 X2 Y2 C2)).aC=some (cI ep2 X2 Y2 C2)):aA Tryz.prog H 27 (.ptr (.box b) 0) (.agg (cI ep2 X2 Y2 C2))=some (H.put b (fa ep2 X2 Y2 C2 S L Z)):=
 aW (off:=0) (cs:=fa ep X Y C S L Z) (xs:=cI ep2 X2 Y2 C2) hx Nc hb rfl (abX rfl)
theorem Yj(hb:H.boxes[b]?=some (fa ep X Y C S L Z))(hx:x.aC=some [x]):aA Tryz.prog H 28 (.ptr (.box b) 4) x=some (H.put b (fa ep X Y C x L Z)):=
 aW (off:=4) (cs:=fa ep X Y C S L Z) (xs:=[x]) hx SP hb rfl (abX rfl)
theorem Yk(hb:H.boxes[b]?=some (fa ep X Y C S L Z))(hx:x.aC=some [x]):aA Tryz.prog H 29 (.ptr (.box b) 5) x=some (H.put b (fa ep X Y C S x Z)):=
 aW (off:=5) (cs:=fa ep X Y C S L Z) (xs:=[x]) hx Tr hb rfl (abX rfl)
theorem Yl(hb:H.boxes[b]?=some (fa ep X Y C S L Z))(hx:x.aC=some [x]):aA Tryz.prog H 23 (.ptr (.box b) 6) x=some (H.put b (fa ep X Y C S L x)):=
 aW (off:=6) (cs:=fa ep X Y C S L Z) (xs:=[x]) hx jC hb rfl (abX rfl)
theorem WS(hb:H.boxes[b]?=some (fa ep X Y C S L Z)):ai Tryz.prog Gt H 27 (.ptr (.box b) 0)=some (.agg (cI ep X Y C)):=by
 rw[cP kZq Nc hb (abX rfl)];rfl
theorem N0{rows:List (List Int)}{owners aa z:List Int}{text:List UInt8}{l:List Pr}(hx:RL X rows)(hy:IL Y owners)(hc:IL C aa)(hs:BL S text)(hl:PL L l)(hn:IL Z z):
 (AV.agg (fa ep X Y C S L Z)).aC=some (fa ep X Y C S L Z):=by
 obtain⟨_,_,_,rfl,-⟩:=hx.form
 obtain⟨_,_,rfl,-⟩:=hy
 obtain⟨_,_,rfl,-⟩:=hc
 obtain⟨_,_,rfl,-⟩:=hs
 obtain⟨_,_,rfl,-⟩:=hl
 obtain⟨_,_,rfl,-⟩:=hn
 rfl
end
structure TI2(h H:ae)(X Y:AV)(T:List AV)(abb to:Tok):Prop where
 ti:TI h H X Y T abb
 co:bG h.tn H to
 ne:∀a,abb=.free a->to≠ .free a
theorem TI2.start{h H:ae}{X Y:AV}{T:List AV}{abb:Tok}(b:TI h H X Y T abb):TI2 h H X Y T abb .nil:=⟨b,.inl rfl,fun _ _ q=>by cases q⟩
theorem TI2.push{h H:ae}{X Y:AV}{T:List AV}{abb to:Tok}(b:TI2 h H X Y T abb to)(cs:List AV):TI2 h (H.push cs) X Y T abb to:=⟨b.ti.push cs,by rw[ij];exact b.co,b.ne⟩
theorem TI2.app{h H:ae}{X Y:AV}{T:List AV}{abb to:Tok}(b:TI2 h H X Y T abb to):TI2 h (H.app to) X Y T abb (.free H.tn):=by
 have gr:=Grown.one b.co b.ti.ok b.ti.ext.tn
 refine⟨⟨gr.ext b.ti.ext (abq _),gr.ok,xR b.ti.can fun a ha he=>b.ne a he ha,by rw[aT];exact b.ti.pb,by rw[aT];exact b.ti.tb⟩,gr.can,fun a ha he=>?_⟩
 injection he with he
 subst he
 rcases b.ti.can with q|q|⟨m,q,-,q2⟩
 ·rw[q] at ha;cases ha
 ·rw[q] at ha;cases ha
 ·rw[q] at ha
  injection ha with ha
  have:=gG q2
  omega
def bq(who N:List Int):List Pr:=(aby who.length).map fun i=>⟨at0 who i,(i:Int),(aY Gn (at0 N (2 * i)):Nat),(aY Gn (at0 N (2 * i+1)):Nat)⟩
theorem rB(who N:List Int):(bq who N).length=who.length:=by unfold bq;simp
theorem U8(who N:List Int)(h1:N.length=2 * who.length)(h2:∀x∈N,okF x)(h3:who.length<=4096):nM who N (bq who N):=
 ⟨rB _ _,h1,h2,fun i hi=>⟨(i:Int),by omega,by omega,by unfold bq;rw[abF,ada hi];rfl⟩⟩
def okC(rows:List (List Int))(owners:List Int)(bp:Int)(random who N:List Int)(text:List UInt8):Bool:=
 jN rows owners&&(decide (1<=bp)&&(decide (bp<1073741789)&&(decide (random.length=aK rows - 1)&&(random.all inQ&&(cS (-1) who&&(decide (who.length≠0)&&(decide (who.length<=7)&&(decide (N.length=2 * who.length)&&(N.all inQ&&decide (text.length<=300))))))))))
def UC(rows:List (List Int))(owners:List Int)(bp:Int)(random who N:List Int)(text:List UInt8):Bool:=okC rows owners bp random who N text&&(bJ rows owners who).2.1
theorem QM{rows:List (List Int)}{owners:List Int}{bp:Int}{random who N:List Int}{text:List UInt8}(h:UC rows owners bp random who N text=true):
 ∃y,lP rows owners who N (bp::random) y (bq who N) text 0/\rows.length<=16/\aK rows<=16/\1<=bp/\bp<1073741789/\who.length<=7/\text.length<=300/\bC rows owners=0:=by
 unfold UC okC at h
 simp only[abr,decide_eq_true_eq] at h
 obtain⟨⟨h1,h2,h3,h4,h5,h6,h7,h8,h9,h10,h11⟩,h12⟩:=h
 unfold jN at h1
 simp only[abr,decide_eq_true_eq] at h1
 have h13:=rW h1.1.2 h6
 have hcp:=(fI h1.1.2).1
 refine⟨(bJ rows owners who).1,⟨U8 who N h9 (fun x hx=>iP.1 (abE.1 h10 x hx)) (by omega),?_,fun q=>h7 (by rw[q];rfl),by omega,by omega,by decide,by rw[ab0];omega⟩,h1.1.1,h1.2,h2,h3,h8,h11,h1.1.2⟩
 rw[<-h12,<-h13]
def Vt(rows:List (List Int))(owners:List Int)(X Y T:AV)(bp:Int)(random who N:List Int)(text:List UInt8)(r:Res):Prop:=
 (UC rows owners bp random who N text=false/\r=.ret (.tuple [.agg (fa 0 nl nl nl nl nl nl),.v (.bool false),.v (.bool true)]))∨
 (UC rows owners bp random who N text=true/\∃C L Z,r=.ret (.tuple [.agg (fa 0 X Y C T L Z),.v (.bool true),.v (.bool true)])/\IL C (ax (bp::random))/\PL L (bq who N)/\IL Z (db rows owners (bp::random) who N (bq who N) text))
theorem VH(h:ae)(hok:aZ h=true)(X Y R W aar T:AV)(rows:List (List Int))(owners:List Int)(bp:Int)(random who N:List Int)(text:List UInt8)
 (hx:RL X rows) (hy:IL Y owners) (hr:IL R random) (hw:IL W who) (hn:IL aar N) (ht:BL T text) (hrl:random.length<=9223372036854775807) (hwl:who.length<=9223372036854775807) (hnl:N.length<=9223372036854775807):
 ∃r h',W6.call 38 [.agg [X,Y],im bp,R,W,aar,T] h=some (r,h')/\Ext h h'/\Vt rows owners X Y T bp random who N text r:=by
 have bx:=ff hx hy
 have zc:=VG
 have c1:=PV X Y rows owners hx hy
 have c2:=BZ X Y rows owners hx hy
 have c3:=Ut R random hr (by omega)
 have c4:=Vi W who hw (by omega)
 have c5:=Ut aar N hn (by omega)
 have lnR:=hr.cH
 have lnW:=hw.cH
 have lnN:=hn.cH
 have lnT:=ht.cH
 have hok0:TI h ((h.push [X,Y]).push (fa 0 nl nl nl nl nl nl)) X Y (fa 0 nl nl nl nl nl nl) .nil:=
  ⟨(Ext.push _ _).trans (.push _ _),hok,.inl rfl,aj (ak _ _),by
    have:=ak (h.push [X,Y]) (fa 0 nl nl nl nl nl nl)
    rwa [az] at this⟩
 have hn1:(h.push [X,Y]).boxes.length=h.boxes.length+1:=az _ _
 obtain⟨H0,hH0⟩:∃H0,(h.push [X,Y]).push (fa 0 nl nl nl nl nl nl)=H0:=⟨_,rfl⟩
 rw[hH0] at hok0
 have l1:ai Tryz.prog Gt H0 25 (.ptr (.box h.boxes.length) 0)=some (.agg [X,Y]):=ma hok0.pb
 have l2:=Yg hok0.tb rfl
 have s2:=Yh hok0.tb rfl (T2:=fa 0 nl nl nl nl nl nl) rfl rfl
 rw[ec hok0.tb] at s2
 have kT:=ah.mk hok0
 have kf:=ah.mk (abp hx (abp hy (abp hr (abp hw (abp hn (abp ht hok))))))
 have kd:ah (okC rows owners bp random who N text=(jN rows owners&&(decide (1<=bp)&&(decide (bp<1073741789)&&(decide (random.length=aK rows - 1)&&(random.all inQ&&(cS (-1) who&&(decide (who.length≠0)&&(decide (who.length<=7)&&(decide (N.length=2 * who.length)&&(N.all inQ&&decide (text.length<=300)))))))))))):=⟨rfl⟩
 have kno:ah (okC rows owners bp random who N text=false->Vt rows owners X Y T bp random who N text (.ret (.tuple [.agg (fa 0 nl nl nl nl nl nl),.v (.bool false),.v (.bool true)]))):=⟨fun q=>.inl ⟨by unfold UC;rw[q];rfl,rfl⟩⟩
 clear hx hy hr hw hn ht hok hok0
 refine aL rfl Tryz.func38 rfl ?_
 by_cases hs:jN rows owners=true
 rotate_left 1
 ·have kz:ah (okC rows owners bp random who N text=false):=⟨by rw[kd.out];simp[hs]⟩
  have hs':jN rows owners=false:=by simpa using hs
  rw[hs'] at c1
  clear hs hs'
  clear kd
  unfold im at *
  repeat' (first|simp(maxSteps:=999999)(disch:=first|exact dZ|fail)only[gW,reduceIte,abn,gBQ,QR,aw,hn1,hH0, *]|refine dX ?_ ?_<;>(intro _;try omega))
  exact⟨_,_,rfl,kT.out.ext,kno.out kz.out⟩
 rw[hs] at c1
 have hpr:bC rows owners=0/\rows.length<=16/\aK rows<=16:=by
  have:=hs;unfold jN at this;simp only[abr,decide_eq_true_eq] at this;exact⟨this.1.2,this.1.1,this.2⟩
 have hcp:0<aK rows:=(fI hpr.1).1
 have hc16:aK rows<=16:=hpr.2.2
 have kpr:=ah.mk hpr
 clear hpr
 by_cases h2:1<=bp
 rotate_left 1
 ·have kz:ah (okC rows owners bp random who N text=false):=⟨by rw[kd.out];simp[hs,h2]⟩
  have g:bp<1:=by omega
  clear h2
  clear kd
  unfold im at *
  repeat' (first|simp(maxSteps:=999999)(disch:=first|exact dZ|fail)only[gW,reduceIte,abn,gBQ,QR,aw,hn1,hH0, *]|refine dX ?_ ?_<;>(intro _;try omega))
  exact⟨_,_,rfl,kT.out.ext,kno.out kz.out⟩
 by_cases h3:bp<1073741789
 rotate_left 1
 ·have kz:ah (okC rows owners bp random who N text=false):=⟨by rw[kd.out];simp[hs,h2,h3]⟩
  have g:1073741789<=bp:=by omega
  clear h3
  clear kd
  unfold im at *
  repeat' (first|simp(maxSteps:=999999)(disch:=first|exact dZ|fail)only[gW,reduceIte,abn,gBQ,QR,aw,hn1,hH0, *]|refine dX ?_ ?_<;>(intro _;try omega))
  exact⟨_,_,rfl,kT.out.ext,kno.out kz.out⟩
 by_cases h4:random.length=aK rows - 1
 rotate_left 1
 ·have kz:ah (okC rows owners bp random who N text=false):=⟨by rw[kd.out];simp[hs,h2,h3,h4]⟩
  have g:¬((random.length:Nat):Int)=((aK rows:Nat):Int) - 1:=by omega
  clear h4
  clear kd
  unfold im at *
  repeat' (first|simp(maxSteps:=999999)(disch:=first|exact dZ|fail)only[gW,reduceIte,abn,gBQ,QR,aw,hn1,hH0, *]|refine dX ?_ ?_<;>(intro _;try omega))
  exact⟨_,_,rfl,kT.out.ext,kno.out kz.out⟩
 by_cases h5:random.all inQ=true
 rotate_left 1
 ·have kz:ah (okC rows owners bp random who N text=false):=⟨by rw[kd.out];simp[hs,h2,h3,h4,h5]⟩
  have h5':random.all inQ=false:=by simpa using h5
  rw[h5'] at c3
  clear h5 h5'
  clear kd
  unfold im at *
  repeat' (first|simp(maxSteps:=999999)(disch:=first|exact dZ|fail)only[gW,reduceIte,abn,gBQ,QR,aw,hn1,hH0, *]|refine dX ?_ ?_<;>(intro _;try omega))
  exact⟨_,_,rfl,kT.out.ext,kno.out kz.out⟩
 rw[h5] at c3
 by_cases h6:cS (-1) who=true
 rotate_left 1
 ·have kz:ah (okC rows owners bp random who N text=false):=⟨by rw[kd.out];simp[hs,h2,h3,h4,h5,h6]⟩
  have h6':cS (-1) who=false:=by simpa using h6
  rw[h6'] at c4
  clear h6 h6'
  clear kd
  unfold im at *
  repeat' (first|simp(maxSteps:=999999)(disch:=first|exact dZ|fail)only[gW,reduceIte,abn,gBQ,QR,aw,hn1,hH0, *]|refine dX ?_ ?_<;>(intro _;try omega))
  exact⟨_,_,rfl,kT.out.ext,kno.out kz.out⟩
 rw[h6] at c4
 by_cases h7:who.length≠0
 rotate_left 1
 ·have kz:ah (okC rows owners bp random who N text=false):=⟨by rw[kd.out];simp[hs,h2,h3,h4,h5,h6,h7]⟩
  have g:((who.length:Nat):Int)=0:=by omega
  clear h7
  clear kd
  unfold im at *
  repeat' (first|simp(maxSteps:=999999)(disch:=first|exact dZ|fail)only[gW,reduceIte,abn,gBQ,QR,aw,hn1,hH0, *]|refine dX ?_ ?_<;>(intro _;try omega))
  exact⟨_,_,rfl,kT.out.ext,kno.out kz.out⟩
 by_cases h8:who.length<=7
 rotate_left 1
 ·have kz:ah (okC rows owners bp random who N text=false):=⟨by rw[kd.out];simp[hs,h2,h3,h4,h5,h6,h7,h8]⟩
  have g:(7:Int)<((who.length:Nat):Int):=by omega
  clear h8
  clear kd
  unfold im at *
  repeat' (first|simp(maxSteps:=999999)(disch:=first|exact dZ|fail)only[gW,reduceIte,abn,gBQ,QR,aw,hn1,hH0, *]|refine dX ?_ ?_<;>(intro _;try omega))
  exact⟨_,_,rfl,kT.out.ext,kno.out kz.out⟩
 by_cases h9:N.length=2 * who.length
 rotate_left 1
 ·have kz:ah (okC rows owners bp random who N text=false):=⟨by rw[kd.out];simp[hs,h2,h3,h4,h5,h6,h7,h8,h9]⟩
  have g:¬((N.length:Nat):Int)=2 * ((who.length:Nat):Int):=by omega
  clear h9
  clear kd
  unfold im at *
  repeat' (first|simp(maxSteps:=999999)(disch:=first|exact dZ|fail)only[gW,reduceIte,abn,gBQ,QR,aw,hn1,hH0, *]|refine dX ?_ ?_<;>(intro _;try omega))
  exact⟨_,_,rfl,kT.out.ext,kno.out kz.out⟩
 by_cases h10:N.all inQ=true
 rotate_left 1
 ·have kz:ah (okC rows owners bp random who N text=false):=⟨by rw[kd.out];simp[hs,h2,h3,h4,h5,h6,h7,h8,h9,h10]⟩
  have h10':N.all inQ=false:=by simpa using h10
  rw[h10'] at c5
  clear h10 h10'
  clear kd
  unfold im at *
  repeat' (first|simp(maxSteps:=999999)(disch:=first|exact dZ|fail)only[gW,reduceIte,abn,gBQ,QR,aw,hn1,hH0, *]|refine dX ?_ ?_<;>(intro _;try omega))
  exact⟨_,_,rfl,kT.out.ext,kno.out kz.out⟩
 rw[h10] at c5
 by_cases h11:text.length<=300
 rotate_left 1
 ·have kz:ah (okC rows owners bp random who N text=false):=⟨by rw[kd.out];simp[hs,h2,h3,h4,h5,h6,h7,h8,h9,h10,h11]⟩
  have g:(300:Int)<((text.length:Nat):Int):=by omega
  clear h11
  clear kd
  unfold im at *
  repeat' (first|simp(maxSteps:=999999)(disch:=first|exact dZ|fail)only[gW,reduceIte,abn,gBQ,QR,aw,hn1,hH0, *]|refine dX ?_ ?_<;>(intro _;try omega))
  exact⟨_,_,rfl,kT.out.ext,kno.out kz.out⟩
 have kyes:ah (okC rows owners bp random who N text=true):=⟨by rw[kd.out];simp[hs,h2,h3,h4,h5,h6,h7,h8,h9,h10,h11]⟩
 clear kd kno
 have gA:((random.length:Nat):Int)=((aK rows:Nat):Int) - 1:=by omega
 have aaI:¬((who.length:Nat):Int)=0:=by omega
 have aaJ:((N.length:Nat):Int)=2 * ((who.length:Nat):Int):=by omega
 have hde:mb rows owners bp random=0:=by
  unfold mb
  rw[if_neg (by simp[kpr.out.1]),if_pos]
  rw[abr,abr]
  exact⟨⟨iP.2 ⟨by omega,h3⟩,h5⟩,decide_eq_true (by omega)⟩
 obtain⟨S,C,hS,hC,c6⟩:∃S C,SL S (fV rows (bp::random))/\IL C (ax (bp::random))/\∀h,W6.call 44 [.agg [X,Y],im bp,R] h=some (.ret (.tuple [S,C,im 0]),h):=by
  rcases N1 X Y R rows owners random bp kf.out.1 kf.out.2.1 kf.out.2.2.1 (by omega) (by have:=kpr.out.2.1;omega) with⟨z,-⟩|⟨-,z⟩
  ·exact absurd hde z
  ·exact z
 have hS2:(bp::random).length=aK rows:=by rw[ab0];omega
 have hacc:=K9 X Y W rows owners who kf.out.1 kf.out.2.1 kf.out.2.2.2.1 (by omega)
 have hz:(bJ rows owners who).2.2=0:=rW kpr.out.1 h6
 have lnS:=hS.cH
 rw[pF] at lnS
 have lnC:=hC.cH
 rw[show(ax (bp::random)).length=aK rows by unfold ax;rw[abu,hS2]] at lnC
 have kSC:=ah.mk (abp hS hC)
 rcases hacc with⟨er,q,c7⟩|⟨y,q,ql,Zy,-,c7⟩
 ·have her:er=0:=by rw[q] at hz;exact hz
  subst her
  have ku:ah (Vt rows owners X Y T bp random who N text (.ret (.tuple [.agg (fa 0 nl nl nl nl nl nl),.v (.bool false),.v (.bool true)]))):=⟨.inl ⟨by unfold UC;rw[q];simp,rfl⟩⟩
  clear q hz hde hS hC
  unfold im at *
  repeat' (first|simp(maxSteps:=999999)(disch:=first|exact dZ|fail)only[gW,reduceIte,abn,gBQ,QR,aw,hn1,hH0, *]|refine dX ?_ ?_<;>(intro _;try omega))
  exact⟨_,_,rfl,kT.out.ext,ku.out⟩
 have ku:ah (UC rows owners bp random who N text=true):=⟨by unfold UC;rw[kyes.out,q];rfl⟩
 obtain⟨_,cr,-⟩:=QM ku.out
 have kcr:=ah.mk cr
 have bk:fj Tryz.prog 27 [(1,.agg [X,Y]),(2,C)]=some (.agg (cI 0 X Y C)):=by
  obtain⟨_,_,_,rfl,-⟩:=kf.out.1.form
  obtain⟨_,_,rfl,-⟩:=kf.out.2.1
  obtain⟨_,_,rfl,-⟩:=hC
  kernel_rfl
 have s3:=Yi kT.out.tb (hY (ep:=0) kf.out.1 kf.out.2.1 hC)
 have t1:=kT.out.put (fa 0 X Y C nl nl nl)
 have s4:=Yj t1.tb kf.out.2.2.2.2.2.1.Uu
 have t2:=t1.put (fa 0 X Y C T nl nl)
 have kT3:=ah.mk t2
 clear q hz hde hS hC t1 t2 cr kT h4
 unfold im at *
 repeat' (first|simp(maxSteps:=999999)(disch:=first|exact dZ|fail)only[gW,reduceIte,abn,gBQ,QR,aw,hn1,hH0,Tx, *]|refine dX ?_ ?_<;>(intro _;try omega))
 refine Run.gen fun e0 he0 hd0 hp0 hr0=>?_
 have f4:e0.get 4=aar:=by rw[he0];exact gS
 have f5:e0.get 5=T:=by rw[he0];exact gS
 have f3:e0.get 3=W:=by rw[he0];exact gS
 have f6:e0.get 6=.ptr (.box h.boxes.length) 0:=by rw[he0];exact gS
 have f12:e0.get 12=.ptr (.box (h.boxes.length+1)) 0:=by rw[he0];simp only[gW,reduceIte,abn,gBQ,hn1]
 have f15:e0.get 15=S:=by rw[he0];exact gS
 have f16:e0.get 16=C:=by rw[he0];exact gS
 have f123:e0.get 123=W:=by rw[he0];exact gS
 have f124:e0.get 124=.v (.int .i64 (who.length:Nat)):=by rw[he0];exact gS
 have f125:e0.get 125=.v (.int .i64 (0:Nat)):=by rw[he0];exact gR
 have fd:e0.defers=[]:=by rw[hd0];exact gS
 clear he0 hd0 hp0 hr0 c1 c2 c4 c6 c7 l1 l2 s2 s3 s4 bk bx zc hn1 hH0 gA aaI lnT
 have h9:N.length=2 * who.length:=by omega
 have hpk:∀k<who.length,(bq who N)[k]?=some ⟨at0 who k,(k:Int),(aY Gn (at0 N (2 * k)):Nat),(aY Gn (at0 N (2 * k+1)):Nat)⟩:=fun k hk=>by
  unfold bq;rw[abF,ada hk];rfl
 have kpk:=ah.mk hpk
 clear hpk
 refine aD (fun m e H=>∃(i:Nat) (t:Tok) (sz:Nat),i<=who.length/\m=who.length - i/\ah (TI h H X Y (fa 0 X Y C T (.list t sz (eR ((bq who N).take i))) nl) t)/\ah (sz=4∨((bq who N).take i=[]/\t=.nil))/\
  e.get 3=W/\e.get 4=aar/\e.get 5=T/\e.get 6=.ptr (.box h.boxes.length) 0/\e.get 12=.ptr (.box (h.boxes.length+1)) 0/\e.get 15=S/\e.get 16=C/\e.get 123=W/\e.get 124=.v (.int .i64 (who.length:Nat))/\e.get 125=.v (.int .i64 (i:Nat))/\e.defers=[]) ?_ who.length _ _ ?_
 rotate_left 1
 ·exact⟨0,.nil,0,abG _,rfl,kT3,⟨.inr ⟨rfl,rfl⟩⟩,f3,f4,f5,f6,f12,f15,f16,f123,f124,f125,fd⟩
 clear f3 f4 f5 f6 f12 f15 f16 f123 f124 f125 fd kT3 H0
 rintro m e H ⟨i,t,sz,hi,rfl,kT,ksz,g3,g4,g5,g6,g12,g15,g16,g123,g124,g125,hd⟩
 by_cases hlt:i<who.length
 ·have ixW:=kf.out.2.2.2.1.ix hlt
  have ldW:=ldi (H:=H) (s:=1) hlt
  have ixA:=kf.out.2.2.2.2.1.ix (i:=2 * i) (by omega)
  have ixB:=kf.out.2.2.2.2.1.ix (i:=2 * i+1) (by omega)
  have ldA:∀K:ae,ai Tryz.prog Gt K 3 (.elem 1 (ints N) (2 * i) 0)=some (.v (.int .i64 (at0 N (2 * i)))):=fun K=>ldi (by omega)
  have ldB:∀K:ae,ai Tryz.prog Gt K 3 (.elem 1 (ints N) (2 * i+1) 0)=some (.v (.int .i64 (at0 N (2 * i+1)))):=fun K=>ldi (by omega)
  rw[show((2 * i:Nat):Int)=2 * (i:Int) by omega] at ixA
  rw[show((2 * i+1:Nat):Int)=2 * (i:Int)+1 by omega] at ixB
  have hwA:IntKind.i64.wrap (2 * (i:Int))=2 * (i:Int):=bT (by omega) (by omega)
  have hwB:IntKind.i64.wrap (2 * (i:Int)+1)=2 * (i:Int)+1:=bT (by omega) (by omega)
  have hpi:=kpk.out i hlt
  have c8:=Uc 4 (at0 N (2 * i))
  have c9:=Uc 4 (at0 N (2 * i+1))
  rw[iS oU,show lG 4=0 from if_pos oU] at c8 c9
  have ktk:=ah.mk (a9 hpi)
  clear hpi
  have bdp:=Tg (at0 who i) (i:Int) ((aY Gn (at0 N (2 * i)):Nat):Int) ((aY Gn (at0 N (2 * i+1)):Nat):Int)
  change ∀h,W6.call 30 [im 4,im (at0 N (2 * i))] h=some (.ret (.tuple [im ((aY Gn (at0 N (2 * i)):Nat):Int),im 0]),h) at c8
  change ∀h,W6.call 30 [im 4,im (at0 N (2 * i+1))] h=some (.ret (.tuple [im ((aY Gn (at0 N (2 * i+1)):Nat):Int),im 0]),h) at c9
  generalize hpr:(⟨at0 who i,(i:Int),((aY Gn (at0 N (2 * i)):Nat):Int),((aY Gn (at0 N (2 * i+1)):Nat):Int)⟩:Pr)=pr at *
  have lL:ai Tryz.prog Gt H 29 (.ptr (.box (h.boxes.length+1)) 5)=some (.list t sz (eR ((bq who N).take i))):=aQ KP kT.out.tb rfl
  have ap:=Tu (p:=pr) (l:=(bq who N).take i) (by rw[abI];omega) ksz.out kT.out.can
  rw[<-ktk.out] at ap
  have bl:=Sc pr
  have t2:=kT.out.app
  have sL:=Yk t2.tb (x:=.list (.free H.tn) 4 (eR ((bq who N).take (i+1)))) rfl
  have kT2:=ah.mk (t2.put (fa 0 X Y C T (.list (.free H.tn) 4 (eR ((bq who N).take (i+1)))) nl))
  have hltI:(i:Int)<(who.length:Int):=by omega
  clear t2 kT hpr
  unfold im at *
  generalize at0 who i=wi at *
  generalize at0 N (2 * i)=nA at *
  generalize at0 N (2 * i+1)=nB at *
  generalize ((aY Gn nA:Nat):Int)=aaB at *
  generalize ((aY Gn nB:Nat):Int)=aaC at *
  repeat' (first|simp(maxSteps:=999999)(disch:=first|exact dZ|fail)only[gW,reduceIte,abn,gBQ,QR,Tx, *]|refine dX ?_ ?_<;>(intro _;try omega))
  exact⟨who.length - (i+1),by omega,i+1,_,4,by omega,rfl,(by first|exact kT2|trivial),⟨.inl rfl⟩,by simp⟩
 have hie:i=who.length:=by omega
 subst hie
 rw[abD (by rw[rB];exact abq _)] at kT ksz
 have hP:PL (.list t sz (eR (bq who N))) (bq who N):=⟨t,sz,rfl,fun q=>ksz.out.resolve_right fun z=>q z.1⟩
 have kP:=ah.mk hP
 have kT3:=ah.mk kT.out.nil
 change ah (TI h H X Y (fa 0 X Y C T (.list t sz (eR (bq who N))) nl) .nil) at kT3
 clear hP ksz kT kpk hi hlt
 generalize AV.list t sz (eR (bq who N))=L at *
 repeat' (first|simp(maxSteps:=999999)(disch:=first|exact dZ|fail)only[gW,reduceIte,abn,gBQ,QR, *]|refine dX ?_ ?_<;>(intro _;try omega))
 refine Run.gen fun e0 he0 hd0 hp0 hr0=>?_
 have f4:e0.get 4=aar:=by rw[he0];exact gA
 have f5:e0.get 5=T:=by rw[he0];exact gA
 have f6:e0.get 6=.ptr (.box h.boxes.length) 0:=by rw[he0];exact gA
 have f12:e0.get 12=.ptr (.box (h.boxes.length+1)) 0:=by rw[he0];exact gA
 have f15:e0.get 15=S:=by rw[he0];exact gA
 have f16:e0.get 16=C:=by rw[he0];exact gA
 have f167:e0.get 167=W:=by rw[he0];exact gA
 have f168:e0.get 168=.v (.int .i64 (who.length:Nat)):=by rw[he0];exact gA
 have f169:e0.get 169=.v (.int .i64 (0:Nat)):=by rw[he0];exact gR
 have fd:e0.defers=[]:=by rw[hd0];exact gA
 clear he0 hd0 hp0 hr0 g3 g4 g5 g6 g12 g15 g16 g123 g124 g125 hd lnW
 obtain⟨PU,hPU⟩:∃PU,db rows owners (bp::random) who N (bq who N) text=PU:=⟨_,rfl⟩
 have kfin:ah (∀Z,IL Z PU->Vt rows owners X Y T bp random who N text (.ret (.tuple [.agg (fa 0 X Y C T L Z),.v (.bool true),.v (.bool true)]))):=⟨fun Z hZ=>.inr ⟨ku.out,C,L,Z,rfl,kSC.out.2,kP.out,by rw[hPU];exact hZ⟩⟩
 have kpk:ah (∀k<who.length,PU[k]?=some (yh rows owners (bp::random) who N (bq who N) text k)):=⟨fun k hk=>by
  rw[<-hPU];unfold db;rw[abF,ada hk];rfl⟩
 have kpl:ah (PU.length=who.length):=⟨by rw[<-hPU];exact hU⟩
 clear hPU
 have kol:=ah.mk (fk kpr.out.1).1
 have hr16:=kpr.out.2.1
 refine aD (fun m e H=>∃(i:Nat) (t:Tok) (sz:Nat),i<=who.length/\m=who.length - i/\ah (TI h H X Y (fa 0 X Y C T L (.list t sz (ints (PU.take i)))) t)/\ah (sz=1∨(PU.take i=[]/\t=.nil))/\
  e.get 4=aar/\e.get 5=T/\e.get 6=.ptr (.box h.boxes.length) 0/\e.get 12=.ptr (.box (h.boxes.length+1)) 0/\e.get 15=S/\e.get 16=C/\e.get 167=W/\e.get 168=.v (.int .i64 (who.length:Nat))/\e.get 169=.v (.int .i64 (i:Nat))/\e.defers=[]) ?_ who.length _ _ ?_
 rotate_left 1
 ·exact⟨0,.nil,0,abG _,rfl,kT3,⟨.inr ⟨rfl,rfl⟩⟩,f4,f5,f6,f12,f15,f16,f167,f168,f169,fd⟩
 clear f4 f5 f6 f12 f15 f16 f167 f168 f169 fd kT3
 rintro m e H ⟨i,t,sz,hi,rfl,kT,ksz,g4,g5,g6,g12,g15,g16,g167,g168,g169,hd⟩
 by_cases hlt:i<who.length
 rotate_left 1
 ·have hie:i=who.length:=by omega
  subst hie
  rw[abD (by rw[kpl.out];exact abq _)] at kT ksz
  have hZ:IL (.list t sz (ints PU)) PU:=⟨t,sz,rfl,fun q=>ksz.out.resolve_right fun z=>q z.1⟩
  have kZ:=ah.mk (kfin.out _ hZ)
  have htab:=N0 (ep:=0) kf.out.1 kf.out.2.1 kSC.out.2 kf.out.2.2.2.2.2.1 kP.out hZ
  clear hZ ksz
  generalize AV.list t sz (ints PU)=Z at *
  have l2:=Yg kT.out.tb rfl
  have s2:=Yh kT.out.tb rfl htab rfl
  rw[ec kT.out.tb] at s2
  have aaD:decide ((0:Int)<((aK rows:Nat):Int))=true:=decide_eq_true (by omega)
  clear htab hi hlt
  repeat' (first|simp(maxSteps:=999999)(disch:=first|exact dZ|fail)only[gW,reduceIte,abn,gBQ,QR, *]|refine dX ?_ ?_<;>(intro _;try omega))
  exact⟨_,_,rfl,kT.out.ext,kZ.out⟩
 have ixW:=kf.out.2.2.2.1.ix hlt
 have ldW:=ldi (H:=H) (s:=1) hlt
 have hltI:(i:Int)<(who.length:Int):=by omega
 have kT2:=ah.mk (TI2.start kT.out)
 clear kT
 generalize hwi:at0 who i=wi at *
 repeat' (first|simp(maxSteps:=999999)(disch:=first|exact dZ|fail)only[gW,reduceIte,abn,gBQ,QR, *]|refine dX ?_ ?_<;>(intro _;try omega))
 refine Run.gen fun e0 he0 hd0 hp0 hr0=>?_
 have f4:e0.get 4=aar:=by rw[he0];exact gA
 have f5:e0.get 5=T:=by rw[he0];exact gA
 have f6:e0.get 6=.ptr (.box h.boxes.length) 0:=by rw[he0];exact gA
 have f12:e0.get 12=.ptr (.box (h.boxes.length+1)) 0:=by rw[he0];exact gA
 have f15:e0.get 15=S:=by rw[he0];exact gA
 have f16:e0.get 16=C:=by rw[he0];exact gA
 have f167:e0.get 167=W:=by rw[he0];exact gA
 have f168:e0.get 168=.v (.int .i64 (who.length:Nat)):=by rw[he0];exact gA
 have f169:e0.get 169=.v (.int .i64 (i:Nat)):=by rw[he0];exact gA
 have f27:e0.get 27=.v (.int .i64 (i:Nat)):=by rw[he0];exact gA
 have f28:e0.get 28=.v (.int .i64 wi):=by rw[he0];exact gA
 have f29:e0.get 29=.list .nil 0 []:=by rw[he0];exact gR
 have f174:e0.get 174=S:=by rw[he0];exact gA
 have f175:e0.get 175=.v (.int .i64 (rows.length:Nat)):=by rw[he0];exact gA
 have f176:e0.get 176=.v (.int .i64 (0:Nat)):=by rw[he0];exact gR
 have fd:e0.defers=[]:=by rw[hd0];exact gA
 clear he0 hd0 hp0 hr0 g4 g5 g6 g12 g15 g16 g167 g168 g169 hd ixW ldW
 obtain⟨D,aaL⟩:∃D,fV rows (bp::random)=D:=⟨_,rfl⟩
 have hDl:D.length=rows.length:=by rw[<-aaL];exact pF _ _
 have kDk:ah (∀j<rows.length,D[j]?=some ((j:Int),oa (rows.getD j []) (bp::random))):=⟨fun j hj=>by
  rw[<-aaL];unfold fV;rw[abF,ada hj];rfl⟩
 have kS:ah (SL S D):=⟨by rw[<-aaL];exact kSC.out.1⟩
 have aaR:=ah.mk aaL
 clear aaL
 refine aD (fun m e H=>∃(j:Nat) (t2:Tok) (s2:Nat),j<=rows.length/\m=rows.length - j/\ah (TI2 h H X Y (fa 0 X Y C T L (.list t sz (ints (PU.take i)))) t t2)/\ah (s2=2∨(ofF owners [wi] (D.take j)=[]/\t2=.nil))/\
  e.get 4=aar/\e.get 5=T/\e.get 6=.ptr (.box h.boxes.length) 0/\e.get 12=.ptr (.box (h.boxes.length+1)) 0/\e.get 15=S/\e.get 16=C/\e.get 167=W/\e.get 168=.v (.int .i64 (who.length:Nat))/\e.get 169=.v (.int .i64 (i:Nat))/\
  e.get 27=.v (.int .i64 (i:Nat))/\e.get 28=.v (.int .i64 wi)/\e.get 29=.list t2 s2 (bL (ofF owners [wi] (D.take j)))/\e.get 174=S/\e.get 175=.v (.int .i64 (rows.length:Nat))/\e.get 176=.v (.int .i64 (j:Nat))/\e.defers=[]) ?_ rows.length _ _ ?_
 rotate_left 1
 ·exact⟨0,.nil,0,abG _,rfl,kT2,⟨.inr ⟨rfl,rfl⟩⟩,f4,f5,f6,f12,f15,f16,f167,f168,f169,f27,f28,f29,f174,f175,f176,fd⟩
 clear f4 f5 f6 f12 f15 f16 f167 f168 f169 f27 f28 f29 f174 f175 f176 fd kT2 H
 rintro m e H ⟨j,t2,s2,hj,rfl,kT,ks2,g4,g5,g6,g12,g15,g16,g167,g168,g169,g27,g28,g29,g174,g175,g176,hd⟩
 by_cases hjt:j<rows.length
 ·have hp:=kDk.out j hjt
  have ixS:=kS.out.ix (i:=j) (by omega)
  have ldS:=PI (H:=H) (s:=2) hp
  have zc:=YP
  generalize hpv:(((j:Int),oa (rows.getD j []) (bp::random)):Int × Int)=p at *
  have hp1:p.1=(j:Int):=by rw[<-hpv]
  have st:=Ye (H:=H) p
  have t1:=kT.out.push (eu p)
  have b1:=ak H (eu p)
  have q0:ai Tryz.prog Gt (H.push (eu p)) 3 (.ptr (.box H.boxes.length) 0)=some (.v (.int .i64 (j:Int))):=by rw[<-hp1];exact aQ ag3 b1 rfl
  have q1:ai Tryz.prog Gt (H.push (eu p)) 23 (.ptr (.box h.boxes.length) 1)=some Y:=aQ mo t1.ti.pb rfl
  have q2:=Yf b1
  have lnY:=kf.out.2.1.cH
  have ixY:=kf.out.2.1.ix (i:=j) (by have:=kol.out;omega)
  have ldY:∀K:ae,ai Tryz.prog Gt K 3 (.elem 1 (ints owners) j 0)=some (.v (.int .i64 (at0 owners j))):=fun K=>ldi (by have:=kol.out;omega)
  have hjI:(j:Int)<(rows.length:Int):=by omega
  have hjO:(j:Int)<(owners.length:Int):=by have:=kol.out;omega
  have hst:=KL (owners:=owners) (who:=[wi]) hp
  have hpick:mc owners [wi] p=if wi=at0 owners j then [p] else []:=by
   unfold mc
   rw[hp1,abB]
   by_cases q:wi=at0 owners j
   ·rw[if_pos q,adY (by simp[q])];rfl
   ·rw[if_neg q,adX (by simp[q])];rfl
  rw[hpick] at hst
  have hol2:(ofF owners [wi] (D.take j)).length<=16:=by
   refine abT (zM owners [wi] _) ?_
   rw[abI,aeC];omega
  have u36:=Tryz.underlying36
  by_cases hq:wi=at0 owners j
  ·rw[if_pos hq] at hst
   have dq:decide (at0 owners j=wi)=true:=decide_eq_true hq.symm
   have ap:=apT (T:=36) (r:=eu p) (es:=bL (ofF owners [wi] (D.take j))) (sz:=s2) u36 RS (by decide) (by rw[nK];omega) (ks2.out.imp_right fun q=>⟨by rw[q.1];rfl,q.2⟩) t1.co
   rw[BP,<-hst] at ap
   have kT2:=ah.mk t1.app
   have bl:aN Tryz.prog 36 1 [(0,.agg (eu p))]=some (.list .tight 2 [eu p]):=RT p.1 p.2
   clear hq hst hpick hp1 hpv hp t1 b1 kT
   generalize at0 owners j=ow at *
   have ldS2:ai Tryz.prog Gt H 81 (.elem 2 (bL D) j 0)=some (.agg (eu p)):=ldS
   clear ldS
   generalize eu p=sr at *
   repeat' (first|simp(maxSteps:=999999)(disch:=first|exact dZ|fail)only[gW,reduceIte,abn,gBQ,QR,Yd,cW,aw, *]|refine dX ?_ ?_<;>(intro _;try omega))
   exact⟨rows.length - (j+1),by omega,j+1,_,2,by omega,rfl,(by first|exact kT2|trivial),⟨.inl rfl⟩,by simp⟩
  ·rw[if_neg hq,List.append_nil] at hst
   have dq:decide (at0 owners j=wi)=false:=decide_eq_false fun q=>hq q.symm
   rw[<-hst] at g29 ks2
   have kT2:=ah.mk t1
   have ldS2:ai Tryz.prog Gt H 81 (.elem 2 (bL D) j 0)=some (.agg (eu p)):=ldS
   clear hq hst hpick hp1 hpv hp t1 b1 kT ldS
   generalize at0 owners j=ow at *
   generalize eu p=sr at *
   repeat' (first|simp(maxSteps:=999999)(disch:=first|exact dZ|fail)only[gW,reduceIte,abn,gBQ,QR,Yd,cW,aw, *]|refine dX ?_ ?_<;>(intro _;try omega))
   exact⟨rows.length - (j+1),by omega,j+1,t2,s2,by omega,rfl,(by first|exact kT2|trivial),(by first|exact ks2|trivial),by simp⟩
 have hje:j=rows.length:=by omega
 subst hje
 rw[abD (by rw[hDl];exact abq _)] at g29 ks2
 have hO:SL (.list t2 s2 (bL (ofF owners [wi] D))) (ofF owners [wi] D):=⟨t2,s2,rfl,fun q=>ks2.out.resolve_right fun z=>q z.1⟩
 have hol2:(ofF owners [wi] D).length<=16:=by
  refine abT (zM owners [wi] _) ?_
  rw[aeC];omega
 have hcl:(ax (bp::random)).length<=1000000:=by unfold ax;rw[abu,hS2];omega
 have mk:=NX 0 X Y C T L rows owners (ax (bp::random)) text (bq who N) kf.out.1 kf.out.2.1 kSC.out.2 kf.out.2.2.2.2.2.1 kP.out hcl (by rw[rB];omega) _ _ wi (at0 N (2 * i)) (at0 N (2 * i+1)) hO (by omega)
 have hmk:fN rows owners 0 (ax (bp::random)) text (bq who N) wi (ofF owners [wi] D) (at0 N (2 * i)) (at0 N (2 * i+1))=(yh rows owners (bp::random) who N (bq who N) text i,0):=by
  rw[<-aaR.out,P2 kol.out,<-hwi]
  exact sV kcr.out.Ur kcr.out.acc kcr.out.ne kcr.out.wl kcr.out.tl (by decide) kcr.out.sl hlt
 rw[hmk] at mk
 have ixA:=kf.out.2.2.2.2.1.ix (i:=2 * i) (by omega)
 have ixB:=kf.out.2.2.2.2.1.ix (i:=2 * i+1) (by omega)
 have ldA:∀K:ae,ai Tryz.prog Gt K 3 (.elem 1 (ints N) (2 * i) 0)=some (.v (.int .i64 (at0 N (2 * i)))):=fun K=>ldi (by omega)
 have ldB:∀K:ae,ai Tryz.prog Gt K 3 (.elem 1 (ints N) (2 * i+1) 0)=some (.v (.int .i64 (at0 N (2 * i+1)))):=fun K=>ldi (by omega)
 rw[show((2 * i:Nat):Int)=2 * (i:Int) by omega] at ixA
 rw[show((2 * i+1:Nat):Int)=2 * (i:Int)+1 by omega] at ixB
 have hwA:IntKind.i64.wrap (2 * (i:Int))=2 * (i:Int):=bT (by omega) (by omega)
 have hwB:IntKind.i64.wrap (2 * (i:Int)+1)=2 * (i:Int)+1:=bT (by omega) (by omega)
 have hpi:=kpk.out i hlt
 have ktk:=ah.mk (a9 hpi)
 have hPl:=kpl.out
 clear hpi hmk hO
 generalize yh rows owners (bp::random) who N (bq who N) text i=zi at *
 have lK:=WS kT.out.ti.tb
 have lL:ai Tryz.prog Gt H 29 (.ptr (.box (h.boxes.length+1)) 5)=some L:=aQ KP kT.out.ti.tb rfl
 have aaY:ai Tryz.prog Gt H 23 (.ptr (.box (h.boxes.length+1)) 6)=some (.list t sz (ints (PU.take i))):=aQ mo kT.out.ti.tb rfl
 have ap:=wI (x:=zi) (es:=PU.take i) (by rw[abI];omega) ksz.out kT.out.ti.can
 rw[<-ktk.out] at ap
 have bl:=pQ zi
 have t3:=kT.out.ti.app
 have aa7:=Yl t3.tb (x:=.list (.free H.tn) 1 (ints (PU.take (i+1)))) rfl
 have kT2:=ah.mk (t3.put (fa 0 X Y C T L (.list (.free H.tn) 1 (ints (PU.take (i+1))))))
 clear t3 kT hol2 hcl hj hjt hPl
 unfold im at *
 generalize at0 N (2 * i)=nA at *
 generalize at0 N (2 * i+1)=nB at *
 repeat' (first|simp(maxSteps:=999999)(disch:=first|exact dZ|fail)only[gW,reduceIte,abn,gBQ,QR,Tx, *]|refine dX ?_ ?_<;>(intro _;try omega))
 refine bf rV kZq ?_
 repeat' (first|simp(maxSteps:=999999)(disch:=first|exact dZ|fail)only[gW,reduceIte,abn,gBQ,QR,Tx, *]|refine dX ?_ ?_<;>(intro _;try omega))
 exact⟨who.length - (i+1),by omega,i+1,_,1,by omega,rfl,(by first|exact kT2|trivial),⟨.inl rfl⟩,by simp⟩
theorem xS(k:Tok):di (di k)=di k:=by cases k<;>rfl
theorem Wx{l:List Vl}{rows:List (List AV)}(hr:oP l rows)(hh:eF rows=rows)(k:Tok)(hm:rows.length<=1000000):∀h,W2.call 119 [.list k 4 rows] h=some (.ret (.agg (cE 3 0 [] (di k) 4 rows)),h):=by
 have hv:eo (.list l) (cE 3 0 [] k 4 rows):=.list l k 4 rows hr.1 (fun _=>rfl) hm hr.2
 obtain⟨h1,h2⟩:=eo.hold _ _ hv
 have e:bM (cE 3 0 [] k 4 rows)=cE 3 0 [] (di k) 4 (eF rows):=rfl
 rw[e,hh] at h1 h2
 refine aF (L:=L2) (args':=[.list (di k) 4 rows]) rfl ?_ ?_ (VY _ _ _ _) ?_ ?_
 ·simp only[bM,au,hh]
 ·unfold cE at h2
  simp only[bA,abr] at h2 ⊢
  exact⟨h2.2.2.2.1,trivial⟩
 ·show AV.agg [im 3,im 0,sv [],.list (di (di k)) 4 rows]=_
  rw[xS];rfl
 ·rw[aV];exact h2
theorem Xl(s:List UInt8):∀h,W3.call 121 [sv s] h=some (.ret (.agg (cE 2 0 s .nil 0 [])),h):=aF (L:=L3) rfl rfl rfl (Xc s _) rfl rfl
theorem Xm(tag b:List UInt8)(k:Tok)(hb:b.length<=1099511610000)(ht:tag.length<=1099511610000):∀h,W3.call 123 [.v (.string (bs tag)),.list k 1 (u8s b)] h=some (.ret (im (mK (dV tag b):Nat)),h):=
 aF (L:=L3) (args':=[.v (.string (bs tag)),.list (di k) 1 (u8s b)]) rfl (by rw[bM,bM,au.eq_1,iQ];rfl) (by simp[bA,aV,bV,fT]) (Xd tag b _ hb ht _) rfl rfl
theorem V5{v:Vl}{r:List AV}(hv:eo v r)(hd:eD v<=16)(hl:(fB v).length<=1099511600000):∃t,∀h,W3.call 118 [.agg r] h=some (.ret (.tuple [.list t 1 (u8s (fB v)),.v (.int .i64 0)]),h):=by
 obtain⟨h1,h2⟩:=eo.hold v r hv
 obtain⟨t,c⟩:=VZ h1 hd hl
 exact⟨di t,aF (L:=L3) (args':=[.agg (bM r)]) rfl rfl (by simpa [bA,aV] using h2) (c _) rfl (by simp[aV,bA,bV,fT])⟩
theorem Wy{l:List Vl}{rows:List (List AV)}(hr:oP l rows)(hh:eF rows=rows)(k:Tok)(hm:rows.length<=1000000):∀h,W3.call 119 [.list k 4 rows] h=some (.ret (.agg (cE 3 0 [] (di k) 4 rows)),h):=by
 have hv:eo (.list l) (cE 3 0 [] k 4 rows):=.list l k 4 rows hr.1 (fun _=>rfl) hm hr.2
 obtain⟨h1,h2⟩:=eo.hold _ _ hv
 have e:bM (cE 3 0 [] k 4 rows)=cE 3 0 [] (di k) 4 (eF rows):=rfl
 rw[e,hh] at h1 h2
 refine aF (L:=L3) (args':=[.list (di k) 4 rows]) rfl ?_ ?_ (Wx hr hh (di k) hm _) ?_ ?_
 ·simp only[bM,au,hh]
 ·unfold cE at h2
  simp only[bA,abr] at h2 ⊢
  exact⟨h2.2.2.2.1,trivial⟩
 ·show AV.agg [im 3,im 0,sv [],.list (di (di (di k))) 4 rows]=_
  rw[xS,xS];rfl
 ·rw[aV];exact h2
theorem Xn(s:List UInt8):∀h,W4.call 121 [sv s] h=some (.ret (.agg (cE 2 0 s .nil 0 [])),h):=aF (L:=L4) rfl rfl rfl (Xl s _) rfl rfl
theorem Xo(tag b:List UInt8)(k:Tok)(hb:b.length<=1099511610000)(ht:tag.length<=1099511610000):∀h,W4.call 123 [.v (.string (bs tag)),.list k 1 (u8s b)] h=some (.ret (im (mK (dV tag b):Nat)),h):=
 aF (L:=L4) (args':=[.v (.string (bs tag)),.list (di k) 1 (u8s b)]) rfl (by rw[bM,bM,au.eq_1,iQ];rfl) (by simp[bA,aV,bV,fT]) (Xm tag b _ hb ht _) rfl rfl
theorem V6{v:Vl}{r:List AV}(hv:eo v r)(hd:eD v<=16)(hl:(fB v).length<=1099511600000):∃t,∀h,W4.call 118 [.agg r] h=some (.ret (.tuple [.list t 1 (u8s (fB v)),.v (.int .i64 0)]),h):=by
 obtain⟨h1,h2⟩:=eo.hold v r hv
 obtain⟨t,c⟩:=V5 h1 hd hl
 exact⟨di t,aF (L:=L4) (args':=[.agg (bM r)]) rfl rfl (by simpa [bA,aV] using h2) (c _) rfl (by simp[aV,bA,bV,fT])⟩
theorem Wz{l:List Vl}{rows:List (List AV)}(hr:oP l rows)(hh:eF rows=rows)(k:Tok)(hm:rows.length<=1000000):∀h,W4.call 119 [.list k 4 rows] h=some (.ret (.agg (cE 3 0 [] (di k) 4 rows)),h):=by
 have hv:eo (.list l) (cE 3 0 [] k 4 rows):=.list l k 4 rows hr.1 (fun _=>rfl) hm hr.2
 obtain⟨h1,h2⟩:=eo.hold _ _ hv
 have e:bM (cE 3 0 [] k 4 rows)=cE 3 0 [] (di k) 4 (eF rows):=rfl
 rw[e,hh] at h1 h2
 refine aF (L:=L4) (args':=[.list (di k) 4 rows]) rfl ?_ ?_ (Wy hr hh (di k) hm _) ?_ ?_
 ·simp only[bM,au,hh]
 ·unfold cE at h2
  simp only[bA,abr] at h2 ⊢
  exact⟨h2.2.2.2.1,trivial⟩
 ·show AV.agg [im 3,im 0,sv [],.list (di (di (di k))) 4 rows]=_
  rw[xS,xS];rfl
 ·rw[aV];exact h2
theorem Xp(s:List UInt8):∀h,W5.call 121 [sv s] h=some (.ret (.agg (cE 2 0 s .nil 0 [])),h):=dm (L:=L5) rfl rfl rfl (Xn s _) rfl rfl
theorem Xq(tag b:List UInt8)(k:Tok)(hb:b.length<=1099511610000)(ht:tag.length<=1099511610000):∀h,W5.call 123 [.v (.string (bs tag)),.list k 1 (u8s b)] h=some (.ret (im (mK (dV tag b):Nat)),h):=
 dm (L:=L5) (args':=[.v (.string (bs tag)),.list (di k) 1 (u8s b)]) rfl (by rw[bM,bM,au.eq_1,iQ];rfl) (by simp[bA,aV,bV,fT]) (Xo tag b _ hb ht _) rfl rfl
theorem V7{v:Vl}{r:List AV}(hv:eo v r)(hd:eD v<=16)(hl:(fB v).length<=1099511600000):∃t,∀h,W5.call 118 [.agg r] h=some (.ret (.tuple [.list t 1 (u8s (fB v)),.v (.int .i64 0)]),h):=by
 obtain⟨h1,h2⟩:=eo.hold v r hv
 obtain⟨t,c⟩:=V6 h1 hd hl
 exact⟨di t,dm (L:=L5) (args':=[.agg (bM r)]) rfl rfl (by simpa [bA,aV] using h2) (c _) rfl (by simp[aV,bA,bV,fT])⟩
theorem WA{l:List Vl}{rows:List (List AV)}(hr:oP l rows)(hh:eF rows=rows)(k:Tok)(hm:rows.length<=1000000):∀h,W5.call 119 [.list k 4 rows] h=some (.ret (.agg (cE 3 0 [] (di k) 4 rows)),h):=by
 have hv:eo (.list l) (cE 3 0 [] k 4 rows):=.list l k 4 rows hr.1 (fun _=>rfl) hm hr.2
 obtain⟨h1,h2⟩:=eo.hold _ _ hv
 have e:bM (cE 3 0 [] k 4 rows)=cE 3 0 [] (di k) 4 (eF rows):=rfl
 rw[e,hh] at h1 h2
 refine dm (L:=L5) (args':=[.list (di k) 4 rows]) rfl ?_ ?_ (Wz hr hh (di k) hm _) ?_ ?_
 ·simp only[bM,au,hh]
 ·unfold cE at h2
  simp only[bA,abr] at h2 ⊢
  exact⟨h2.2.2.2.1,trivial⟩
 ·show AV.agg [im 3,im 0,sv [],.list (di (di (di k))) 4 rows]=_
  rw[xS,xS];rfl
 ·rw[aV];exact h2
theorem Xr(s:List UInt8):∀h,W6.call 121 [sv s] h=some (.ret (.agg (cE 2 0 s .nil 0 [])),h):=aF (L:=L6) rfl rfl rfl (Xp s _) rfl rfl
theorem Xs(tag b:List UInt8)(k:Tok)(hb:b.length<=1099511610000)(ht:tag.length<=1099511610000):∀h,W6.call 123 [.v (.string (bs tag)),.list k 1 (u8s b)] h=some (.ret (im (mK (dV tag b):Nat)),h):=
 aF (L:=L6) (args':=[.v (.string (bs tag)),.list (di k) 1 (u8s b)]) rfl (by rw[bM,bM,au.eq_1,iQ];rfl) (by simp[bA,aV,bV,fT]) (Xq tag b _ hb ht _) rfl rfl
theorem V8{v:Vl}{r:List AV}(hv:eo v r)(hd:eD v<=16)(hl:(fB v).length<=1099511600000):∃t,∀h,W6.call 118 [.agg r] h=some (.ret (.tuple [.list t 1 (u8s (fB v)),.v (.int .i64 0)]),h):=by
 obtain⟨h1,h2⟩:=eo.hold v r hv
 obtain⟨t,c⟩:=V7 h1 hd hl
 exact⟨di t,aF (L:=L6) (args':=[.agg (bM r)]) rfl rfl (by simpa [bA,aV] using h2) (c _) rfl (by simp[aV,bA,bV,fT])⟩
theorem WB{l:List Vl}{rows:List (List AV)}(hr:oP l rows)(hh:eF rows=rows)(k:Tok)(hm:rows.length<=1000000):∀h,W6.call 119 [.list k 4 rows] h=some (.ret (.agg (cE 3 0 [] (di k) 4 rows)),h):=by
 have hv:eo (.list l) (cE 3 0 [] k 4 rows):=.list l k 4 rows hr.1 (fun _=>rfl) hm hr.2
 obtain⟨h1,h2⟩:=eo.hold _ _ hv
 have e:bM (cE 3 0 [] k 4 rows)=cE 3 0 [] (di k) 4 (eF rows):=rfl
 rw[e,hh] at h1 h2
 refine aF (L:=L6) (args':=[.list (di k) 4 rows]) rfl ?_ ?_ (WA hr hh (di k) hm _) ?_ ?_
 ·simp only[bM,au,hh]
 ·unfold cE at h2
  simp only[bA,abr] at h2 ⊢
  exact⟨h2.2.2.2.1,trivial⟩
 ·show AV.agg [im 3,im 0,sv [],.list (di (di (di k))) 4 rows]=_
  rw[xS,xS];rfl
 ·rw[aV];exact h2
end Go.Proofs.YtnfciiiohoafaaaGreatDoor
end
