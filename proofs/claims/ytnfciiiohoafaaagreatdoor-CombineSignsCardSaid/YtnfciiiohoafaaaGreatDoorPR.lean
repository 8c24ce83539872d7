/-
  Part of the proof: PR.
-/
import Derived.Test.YtnfciiiohoafaaaGreatDoorPQ
import Derived.Test.YtnfciiiohoafaaaGreatDoorPO
import Derived.Test.YtnfciiiohoafaaaGreatDoorPP
set_option maxHeartbeats 64000000
set_option maxRecDepth 100000
set_option linter.unusedSimpArgs false
set_option linter.unusedVariables false
set_option linter.constructorNameAsVariable false
section
namespace Go.Proofs.YtnfciiiohoafaaaGreatDoor
open Go.AE Go.NT
theorem jk{Hx:ae}{zb eb:Nat}{x y:AV}(hz:Hx.boxes[zb]?=some [x])(he:Hx.boxes[eb]?=some [y])(hne:zb≠eb)(n m:Int):
 aA Tryz.prog Hx 3 (.ptr (.box zb) 0) (.v (.int .i64 n))=some (Hx.put zb [.v (.int .i64 n)])/\ai Tryz.prog Gt Hx 32 (.ptr (.box eb) 0)=some y/\ai Tryz.prog Gt (Hx.put zb [.v (.int .i64 n)]) 32 (.ptr (.box eb) 0)=some y/\
  aA Tryz.prog (Hx.put zb [.v (.int .i64 n)]) 32 (.ptr (.box eb) 0) (.v (.int .i64 m))=some ((Hx.put zb [.v (.int .i64 n)]).put eb [.v (.int .i64 m)])/\
  ai Tryz.prog Gt ((Hx.put zb [.v (.int .i64 n)]).put eb [.v (.int .i64 m)]) 3 (.ptr (.box zb) 0)=some (.v (.int .i64 n))/\ai Tryz.prog Gt ((Hx.put zb [.v (.int .i64 n)]).put eb [.v (.int .i64 m)]) 32 (.ptr (.box eb) 0)=some (.v (.int .i64 m)):=by
 have hz1:=(List.getElem?_eq_some_iff.1 hz).1
 have he1:=(List.getElem?_eq_some_iff.1 he).1
 have q:(Hx.put zb [AV.v (.int .i64 n)]).boxes[eb]?=some [y]:=by rw[av (Ne.symm hne)];exact he
 have q2:((Hx.put zb [AV.v (.int .i64 n)]).put eb [AV.v (.int .i64 m)]).boxes[zb]?=some [.v (.int .i64 n)]:=by rw[av hne];exact aS hz1
 have q3:((Hx.put zb [AV.v (.int .i64 n)]).put eb [AV.v (.int .i64 m)]).boxes[eb]?=some [.v (.int .i64 m)]:=aS (by rw[dU];exact he1)
 exact⟨K5 hz,aQ DL he rfl,aQ DL q rfl,BV q,aQ ag3 q2 rfl,aQ DL q3 rfl⟩
def fN(rows:List (List Int))(owners:List Int)(ep:Int)(aa:List Int)(text:List UInt8)(l:List Pr)(ag:Int)(s:List (Int × Int))(d f:Int):Int × Int:=
 if cd rows owners ep aa text l≠0 then (0,cd rows owners ep aa text l) else rN rows owners aa text l ag s d f
theorem HH{rows:List (List Int)}{owners aa:List Int}{text:List UInt8}{l:List Pr}{ag:Int}{s:List (Int × Int)}{d f:Int}(h:gl l ag=none∨[d,f].all inQ=false):rN rows owners aa text l ag s d f=(0,1):=by
 unfold rN
 cases hp:gl l ag with
 |none=>rfl
 |some x=>
  rcases h with q|q
  ·rw[hp] at q;cases q
  ·have:(inQ d&&inQ f)=false:=by simpa using q
   simp only[this];rfl
theorem HI{rows:List (List Int)}{owners aa:List Int}{text:List UInt8}{l:List Pr}{ag:Int}{s:List (Int × Int)}{d f:Int}{x:Pr}(h:gl l ag=some x)(hq:[d,f].all inQ=true):rN rows owners aa text l ag s d f=
 if eQ rows owners aa ag s=false then (0,340) else if ¬((aY Gn d:Nat):Int)=x.d∨¬((aY Gn f:Nat):Int)=x.e then (0,420)
 else (cN (cN d (cq f (dP (at0 aa 0) text l ag))) (cq (aG (at0 aa 0) text l) (fh (aM rows owners l) s)),0):=by
 unfold rN
 have:(inQ d&&inQ f)=true:=by simpa using hq
 rw[h]
 simp only[this]
 cases eQ rows owners aa ag s<;>rfl
theorem Na(a b:Int):aN Tryz.prog 23 2 [(0,.v (.int .i64 a)),(1,.v (.int .i64 b))]=some (.list .tight 1 (ints [a,b])):=kZq
theorem PS(h:ae)(hok:aZ h=true)(ep:Int)(X Y C T L S:AV)(rows:List (List Int))(owners aa:List Int)(text:List UInt8)(l:List Pr)(s:List (Int × Int))(ag d f:Int)
 (hx:RL X rows) (hy:IL Y owners) (hc:IL C aa) (ht:BL T text) (hp:PL L l) (hs:SL S s) (hcl:aa.length<=1000000) (hll:l.length<=1000000) (hsl:s.length<=1000000):
 ∃r h',W5.call 20 [.agg (cI ep X Y C),T,L,.v (.int .i64 ag),S,.v (.int .i64 d),.v (.int .i64 f)] h=some (r,h')/\r= .ret (.tuple [.v (.int .i64 (fN rows owners ep aa text l ag s d f).1),.v (.int .i64 (fN rows owners ep aa text l ag s d f).2)]):=by
 have bx:=hY (ep:=ep) hx hy hc
 have bS:=hs.aC
 have zc:=R6
 have zp:=zK
 have z3:=Tp
 have z32:=R8
 obtain⟨h0,hh0⟩:∃h0,(((h.push (cI ep X Y C)).push [S]).push [.v (.int .i64 0)]).push [.v (.int .i64 0)]=h0:=⟨_,rfl⟩
 obtain⟨sb,hsb⟩:∃n,(h.push (cI ep X Y C)).boxes.length=n:=⟨_,rfl⟩
 obtain⟨zb,hzb⟩:∃n,((h.push (cI ep X Y C)).push [S]).boxes.length=n:=⟨_,rfl⟩
 obtain⟨eb,heb⟩:∃n,(((h.push (cI ep X Y C)).push [S]).push [.v (.int .i64 0)]).boxes.length=n:=⟨_,rfl⟩
 obtain⟨kb,hkb⟩:∃n,h.boxes.length=n:=⟨_,rfl⟩
 have o1:kb<sb/\sb<zb/\zb<eb:=by rw[<-hkb,<-hsb,<-hzb,<-heb];simp only[az];omega
 have gk:h0.boxes[kb]?=some (cI ep X Y C):=by rw[<-hh0,<-hkb];exact aj (aj (aj (ak _ _)))
 have gs:h0.boxes[sb]?=some [S]:=by rw[<-hh0,<-hsb];exact aj (aj (ak _ _))
 have gz:h0.boxes[zb]?=some [.v (.int .i64 0)]:=by rw[<-hh0,<-hzb];exact aj (ak _ _)
 have ge:h0.boxes[eb]?=some [.v (.int .i64 0)]:=by rw[<-hh0,<-heb];exact ak _ _
 have hok0:aZ h0=true:=by rw[<-hh0];exact hok
 obtain⟨r1,h1,c1,x1,post⟩:=zO h0 hok0 ep X Y C T L rows owners aa text l hx hy hc ht hp hcl hll
 have l0:ai Tryz.prog Gt h0 27 (.ptr (.box kb) 0)=some (.agg (cI ep X Y C)):=by
  rw[cP kZq (by kernel_rfl:bF Tryz.prog 27=some 4) gk (Nat.le_of_ble_eq_true rfl)];rfl
 have kE1:ah (cd rows owners ep aa text l≠0->fN rows owners ep aa text l ag s d f=(0,cd rows owners ep aa text l)):=⟨fun q=>by unfold fN;rw[if_pos q]⟩
 have kE2:ah (cd rows owners ep aa text l=0->fN rows owners ep aa text l ag s d f=rN rows owners aa text l ag s d f):=⟨fun q=>by unfold fN;rw[if_neg (by simp[q])]⟩
 have kbo:=ah.mk (fun q=>@rU rows owners aa ep text l q)
 have kwt:=ah.mk (fun q=>@vT rows owners aa ep text l q)
 have kf:=ah.mk (And.intro hx (And.intro hy (And.intro hc (And.intro hp hs))))
 have gk1:=x1.box _ _ gk
 have gs1:=x1.box _ _ gs
 have gz1:=x1.box _ _ gz
 have ge1:=x1.box _ _ ge
 have hok1:=x1.ok hok0
 have lS:=hs.cH
 generalize fN rows owners ep aa text l ag s d f=res at *
 generalize cd rows owners ep aa text l=be at *
 have hle1:=(List.getElem?_eq_some_iff.1 ge1).1
 clear hx hy hc ht hp hs x1 gk gs gz ge hok0 hok
 refine aL rfl Tryz.func20 rfl ?_
 rcases post with⟨q,rfl⟩|⟨q,c,Wt,rfl,hWt,w⟩
 ·have kr:=ah.mk (kE1.out q)
  have stn:aA Tryz.prog (h1.push [.v (.pointer none)]) 90 (.ptr (.box h1.boxes.length) 0) (.v (.pointer none))=some (h1.push [.v (.pointer none)]):=cQ rfl kZq rfl rfl
  have ste:aA Tryz.prog (h1.push [.v (.pointer none)]) 32 (.ptr (.box eb) 0) (.v (.int .i64 be))=some ((h1.push [.v (.pointer none)]).put eb [.v (.int .i64 be)]):=BV (aj ge1)
  obtain⟨a1,a2,a3,a4,a5,a6⟩:=jk (Hx:=(h1.push [.v (.pointer none)]).put eb [.v (.int .i64 be)]) (zb:=zb) (eb:=eb) (x:= .v (.int .i64 0)) (y:= .v (.int .i64 be)) (by rw[av (by omega)];exact aj gz1) (aS (by rw[az];omega)) (by omega) 0 be
  clear kE1 kE2 kbo kwt gk1 gs1 gz1 ge1 hok1
  repeat' (first|simp(maxSteps:=999999) (disch:=first|exact dZ|fail) only[gW,reduceIte,Nat.reduceEqDiff,beq_self_eq_true,jO,aw, *] | (refine dX ?_ ?_<;>(intro _;try omega)))
  refine bU [(0,1)] gM kZq (fun p hp=>?_) ?_
  ·simp only[List.mem_singleton] at hp
   subst hp
   refine dH (x:= .ptr (.box eb) 0) (v:= .v (.int .i64 be)) kZq rfl rfl rfl kZq (by simp[cB,gB]) ?_ ?_<;>(simp only[List.take_succ_cons,List.take_zero];repeat' (first|simp(maxSteps:=999999) (disch:=first|exact dZ|fail) only[gW,reduceIte,Nat.reduceEqDiff,beq_self_eq_true,jO,and_self, *] | (refine dX ?_ ?_<;>(intro _;try omega))))
  repeat' (first|simp(maxSteps:=999999) (disch:=first|exact dZ|fail) only[gW,reduceIte,Nat.reduceEqDiff,beq_self_eq_true,jO, *] | (refine dX ?_ ?_<;>(intro _;try omega)))
  exact⟨_,_,rfl,by rw[kr.out]⟩
 obtain⟨p1,p2,p3,p4,p5,p6⟩:=kbo.out q
 obtain⟨y,w1,w2,w3⟩:=kwt.out q
 have hres:=kE2.out q
 have hchk:=BX p1 p2 p3
 subst q
 clear kE1 kE2 kbo kwt
 obtain⟨h2,hh2⟩:∃h2,h1.push [.ptr (.box c) 0]=h2:=⟨_,rfl⟩
 obtain⟨wb,hwb⟩:∃n,h1.boxes.length=n:=⟨_,rfl⟩
 have stn:aA Tryz.prog (h1.push [.v (.pointer none)]) 90 (.ptr (.box wb) 0) (.ptr (.box c) 0)=some h2:=by rw[<-hh2,<-hwb];exact K3 c
 have gk2:h2.boxes[kb]?=some (cI ep X Y C):=by rw[<-hh2];exact aj gk1
 have gs2:h2.boxes[sb]?=some [S]:=by rw[<-hh2];exact aj gs1
 have gz2:h2.boxes[zb]?=some [.v (.int .i64 0)]:=by rw[<-hh2];exact aj gz1
 have ge2:h2.boxes[eb]?=some [.v (.int .i64 0)]:=by rw[<-hh2];exact aj ge1
 have gw2:h2.boxes[wb]?=some [.ptr (.box c) 0]:=by rw[<-hh2,<-hwb];exact ak _ _
 have ste:aA Tryz.prog h2 32 (.ptr (.box eb) 0) (.v (.int .i64 0))=some h2:=by rw[BV ge2,ec ge2]
 have le2:ai Tryz.prog Gt h2 32 (.ptr (.box eb) 0)=some (.v (.int .i64 0)):=aQ DL ge2 rfl
 have lw2:ai Tryz.prog Gt h2 90 (.ptr (.box wb) 0)=some (.ptr (.box c) 0):=aQ wN gw2 rfl
 have W2:lQ h2 c ep X Y C T L Wt ((dA (at0 aa 0) text l:Nat):Int) ((aG (at0 aa 0) text l:Nat):Int) aa text l:=by rw[<-hh2];exact w.mono (.push _ _)
 have hok2:aZ h2=true:=by rw[<-hh2];exact hok1
 obtain⟨b,vr,w4,-⟩:=W2.dF
 obtain⟨_,h3,c2,x3,post⟩:=KW h2 c _ L l ag [d,f] (.list .tight 1 (ints [d,f])) w4 rfl kf.out.2.2.2.1 hll ⟨_,_,rfl,fun _=>rfl⟩ (by simp)
 have bl:=Na d f
 have hwbe:eb<wb:=by rw[<-hwb];exact hle1
 clear w4 w gk1 gs1 gz1 ge1 hok1 hle1
 have gz3:=x3.box _ _ gz2
 have ge3:=x3.box _ _ ge2
 rcases post with⟨q,rfl⟩|⟨x,q1,q2,rfl⟩
 ·have kr:=ah.mk (hres.trans (HH q))
  have sq:=oV (H:=h3) ⟨0,0,0,0⟩
  have se:aA Tryz.prog (h3.push (aq ⟨0,0,0,0⟩)) 32 (.ptr (.box eb) 0) (.v (.int .i64 1))=some ((h3.push (aq ⟨0,0,0,0⟩)).put eb [.v (.int .i64 1)]):=BV (aj ge3)
  obtain⟨a1,a2,a3,a4,a5,a6⟩:=jk (Hx:=(h3.push (aq ⟨0,0,0,0⟩)).put eb [.v (.int .i64 1)]) (zb:=zb) (eb:=eb) (x:= .v (.int .i64 0)) (y:= .v (.int .i64 1)) (by rw[av (by omega)];exact aj gz3) (aS (by rw[az];have:=(List.getElem?_eq_some_iff.1 ge3).1;omega)) (by omega) 0 1
  clear hres q W2 x3 gk2 gs2 gz2 ge2 gw2 hok2 gz3 ge3 p1 p2 p3 p6 w1 w2 w3 hchk hWt
  repeat' (first|simp(maxSteps:=999999) (disch:=first|exact dZ|fail) only[gW,reduceIte,Nat.reduceEqDiff,beq_self_eq_true,jO,aw, *] | (refine dX ?_ ?_<;>(intro _;try omega)))
  refine bU [(0,1)] gM kZq (fun p hp=>?_) ?_
  ·simp only[List.mem_singleton] at hp
   subst hp
   refine dH (x:= .ptr (.box eb) 0) (v:= .v (.int .i64 1)) kZq rfl rfl rfl kZq (by simp[cB,gB]) ?_ ?_<;>(simp only[List.take_succ_cons,List.take_zero];repeat' (first|simp(maxSteps:=999999) (disch:=first|exact dZ|fail) only[gW,reduceIte,Nat.reduceEqDiff,beq_self_eq_true,jO,and_self, *] | (refine dX ?_ ?_<;>(intro _;try omega))))
  repeat' (first|simp(maxSteps:=999999) (disch:=first|exact dZ|fail) only[gW,reduceIte,Nat.reduceEqDiff,beq_self_eq_true,jO, *] | (refine dX ?_ ?_<;>(intro _;try omega)))
  exact⟨_,_,rfl,by rw[kr.out]⟩
 rw[HI q1 q2] at hres
 obtain⟨hxl,hxk⟩:=EY q1
 have hm:=iy p6 x hxl
 have sq:=oV (H:=h3) x
 obtain⟨h4,hh4⟩:∃h4,h3.push (aq x)=h4:=⟨_,rfl⟩
 obtain⟨pb,hpb⟩:∃n,h3.boxes.length=n:=⟨_,rfl⟩
 rw[hh4,hpb] at sq
 have o3:wb<pb:=by
  have z1:=(List.getElem?_eq_some_iff.1 gw2).1
  have z2:=x3.len
  omega
 have X4:Ext h2 h4:=by rw[<-hh4];exact x3.trans (.push _ _)
 have gk4:=X4.box _ _ gk2
 have gs4:=X4.box _ _ gs2
 have gz4:=X4.box _ _ gz2
 have ge4:=X4.box _ _ ge2
 have gw4:=X4.box _ _ gw2
 have gp4:h4.boxes[pb]?=some (aq x):=by rw[<-hh4,<-hpb];exact ak _ _
 have W4':=W2.mono X4
 have ste4:aA Tryz.prog h4 32 (.ptr (.box eb) 0) (.v (.int .i64 0))=some h4:=by rw[BV ge4,ec ge4]
 have le4:ai Tryz.prog Gt h4 32 (.ptr (.box eb) 0)=some (.v (.int .i64 0)):=aQ DL ge4 rfl
 obtain⟨h5,hh5⟩:∃h5,(h4.push [.v (.int .i64 0)]).push [.v (.int .i64 0)]=h5:=⟨_,rfl⟩
 obtain⟨sumb,hsumb⟩:∃n,h4.boxes.length=n:=⟨_,rfl⟩
 obtain⟨ib,hib⟩:∃n,(h4.push [.v (.int .i64 0)]).boxes.length=n:=⟨_,rfl⟩
 have o2:pb<sumb/\sumb<ib:=by
  refine⟨?_,by rw[<-hsumb,<-hib,az];omega⟩
  rw[<-hsumb];exact(List.getElem?_eq_some_iff.1 gp4).1
 have gsum5:h5.boxes[sumb]?=some [.v (.int .i64 0)]:=by rw[<-hh5,<-hsumb];exact aj (ak _ _)
 have gib5:h5.boxes[ib]?=some [.v (.int .i64 0)]:=by rw[<-hh5,<-hib];exact ak _ _
 have X5:Ext h4 h5:=by rw[<-hh5];exact(Ext.push _ _).trans (.push _ _)
 have st5a:aA Tryz.prog h5 3 (.ptr (.box sumb) 0) (.v (.int .i64 0))=some h5:=by rw[K5 gsum5,ec gsum5]
 have st5b:aA Tryz.prog h5 3 (.ptr (.box ib) 0) (.v (.int .i64 0))=some h5:=by rw[K5 gib5,ec gib5]
 have gw5:=X5.box _ _ gw4
 have lw5:ai Tryz.prog Gt h5 90 (.ptr (.box wb) 0)=some (.ptr (.box c) 0):=aQ wN gw5 rfl
 have c3:=KX h5 c ag
 obtain⟨h6,hh6⟩:∃h6,(h5.push [.ptr (.box c) 0]).push [.v (.int .i64 ag)]=h6:=⟨_,rfl⟩
 rw[hh6] at c3
 have X6:Ext h4 h6:=by rw[<-hh6];exact X5.trans ((Ext.push _ _).trans (.push _ _))
 have gsum6:h6.boxes[sumb]?=some [.v (.int .i64 0)]:=by rw[<-hh6];exact aj (aj gsum5)
 have gib6:h6.boxes[ib]?=some [.v (.int .i64 0)]:=by rw[<-hh6];exact aj (aj gib5)
 have ga6:h6.boxes[h5.boxes.length]?=some [.ptr (.box c) 0]:=by rw[<-hh6];exact aj (ak _ _)
 have gb6:h6.boxes[h5.boxes.length+1]?=some [.v (.int .i64 ag)]:=by rw[<-hh6];exact cD (by rw[az])
 have l5:sumb<h5.boxes.length/\ib<h5.boxes.length:=⟨(List.getElem?_eq_some_iff.1 gsum5).1,(List.getElem?_eq_some_iff.1 gib5).1⟩
 have kall:=ah.mk (And.intro hres (And.intro hxk (And.intro hm (And.intro w2 (And.intro w3 hWt)))))
 have kprog:=ah.mk (And.intro p1 (And.intro p3 hchk))
 have gk6:=X6.box _ _ gk4
 have gs6:=X6.box _ _ gs4
 have gz6:=X6.box _ _ gz4
 have ge6:=X6.box _ _ ge4
 have gw6:=X6.box _ _ gw4
 have gp6:=X6.box _ _ gp4
 have W6':=W4'.mono X6
 have kst:=ah.mk (And.intro gk6 (And.intro gs6 (And.intro gz6 (And.intro ge6 (And.intro gw6 (And.intro gp6 W6'))))))
 have sumv:sumb<h4.boxes.length+1:=by omega
 have kxl:=hxl
 clear hres hxk hm w1 w2 w3 hWt p1 p3 hchk gk6 gs6 gz6 ge6 gw6 gp6 W6' W4' W2 gk4 gs4 gz4 ge4 gw4 gp4 gk2 gs2 gz2 ge2 gw2 gz3 ge3 q1 q2 hxl x3 X4 X5 gw5 gsum5 gib5 hok2 p2 p6 sumv
 repeat' (first|simp(maxSteps:=999999) (disch:=first|exact dZ|fail) only[gW,reduceIte,Nat.reduceEqDiff,beq_self_eq_true,jO,aw, *] | (refine dX ?_ ?_<;>(intro _;try omega)))
 refine Run.gen fun e4 he4 hd4 hp4 hr4=>?_
 have f5:e4.get 5= .v (.int .i64 d):=by rw[he4];exact gS
 have f6:e4.get 6= .v (.int .i64 f):=by rw[he4];exact gS
 have f7:e4.get 7= .ptr (.box kb) 0:=by rw[he4];exact gS
 have f11:e4.get 11= .ptr (.box sb) 0:=by rw[he4];exact gS
 have f14:e4.get 14= .ptr (.box zb) 0:=by rw[he4];exact gS
 have f15:e4.get 15= .ptr (.box eb) 0:=by rw[he4];exact gS
 have f16:e4.get 16= .ptr (.box wb) 0:=by rw[he4];exact gS
 have f17:e4.get 17= .ptr (.box pb) 0:=by rw[he4];exact gS
 have f18:e4.get 18= .ptr (.box sumb) 0:=by rw[he4];exact gS
 have f19:e4.get 19= .ptr (.box ib) 0:=by rw[he4];exact gS
 have f47:e4.get 47= .func (.func 128) [] [.ptr (.box h5.boxes.length) 0,.ptr (.box (h5.boxes.length+1)) 0]:=by rw[he4];exact gS
 have fd:e4.defers=[]:=by rw[hd4];exact gS
 clear he4 hd4 hp4 hr4 c1 c2 c3 l0 lS bl stn ste le2 lw2 sq ste4 le4 st5a st5b lw5 zc zp z3 z32 bx bS hh0 hsb hzb heb hkb hh2 hwb hh4 hpb hh5 hsumb hib hh6
 obtain⟨gk6,gs6,gz6,ge6,gw6,gp6,W6⟩:=kst.out
 obtain⟨p1,p3,hchk⟩:=kprog.out
 obtain⟨hres,hxk,hm,w2,w3,hWt⟩:=kall.out
 have kW:=ah.mk W6
 clear kst kprog kall W6
 obtain⟨og1,og2,og3,og4⟩:=fk p1
 have hxr:aZ h6=aZ h6:=rfl
 refine kD (by rw[lv];exact f47) fun rec v1 v2 v3 v4 v5 v6=>?_
 have hlr:(h6.loop rec).loops[h6.loops.length]?=some rec:=@kC h6 rec
 have feed:=yd h6.loops.length h5.boxes.length (h5.boxes.length+1) c Y owners ag (K6 (h6.loop rec) h6.loops.length rec sumb ib zb eb rows owners aa (aM rows owners l) ag s)
  (fun H=>BW h6.loops.length rec zb eb H/\eQ rows owners aa ag s=false) kf.out.2.1 (by omega)
  (fun k H q=>by
   obtain⟨b6,vr6,z1,-⟩:=kW.out.dF
   refine⟨q.old _ _ ga6 (by omega) (by omega),q.old _ _ gb6 (by omega) (by omega),_,q.old _ _ z1 (fun e=>?_) (fun e=>?_),rfl⟩
   ·rw[e] at z1;rw[gsum6] at z1;unfold dQ at z1;simp at z1
   ·rw[e] at z1;rw[gib6] at z1;unfold dQ at z1;simp at z1)
  ?_
  (fun k H hk hc q=>⟨q.lp,q.old,by rw[lR hc];exact q.sum,by rw[lR hc];exact q.ix,by rw[lR hc];exact q.le,by rw[lR hc];exact q.same,by rw[lR hc];exact q.ok⟩)
  (h6.loop rec) ⟨hlr,fun a cs ha _ _=>ha,gsum6,gib6,Nat.zero_le _,by simp[cA],by simp[cA]⟩
 rotate_left 1
 ·intro k H hk hc q
  have hlH:=q.lp
  suffices hs:∃b H',W5.round h6.loops.length [.v (.int .i64 (k:Nat))] H=some (.ret (.v (.bool b)),H')/\if b=true then K6 (h6.loop rec) h6.loops.length rec sumb ib zb eb rows owners aa (aM rows owners l) ag s (k+1) H' else (BW h6.loops.length rec zb eb H'/\eQ rows owners aa ag s=false) by
   obtain⟨b,H',q1,q2⟩:=hs
   cases b with
   |true=>exact .inl ⟨H',q1,q2⟩
   |false=>exact .inr ⟨H',q1,q2⟩
  refine Hw (Post:=fun b H'=>if b=true then K6 (h6.loop rec) h6.loops.length rec sumb ib zb eb rows owners aa (aM rows owners l) ag s (k+1) H' else (BW h6.loops.length rec zb eb H'/\eQ rows owners aa ag s=false)) hlH (by rw[v2];rfl) v5 v6 ?_
  have r1:∀t,(dD h6.loops.length rec [.v (.int .i64 (k:Nat))]).get t=if 48=t then .v (.int .i64 (k:Nat)) else e4.get t:=fun t=>rm v2 v1
  have d1:(dD h6.loops.length rec [.v (.int .i64 (k:Nat))]).defers=[]:=rfl
  obtain⟨K,hK⟩:∃K,H.busy h6.loops.length rec=K:=⟨_,rfl⟩
  have hKb:∀a:Nat,K.boxes[a]?=H.boxes[a]?:=fun a=>by rw[<-hK];rfl
  have hKl:K.loops[h6.loops.length]?=some {rec with state:= .busy}:=by
   rw[<-hK]
   have:=(List.getElem?_eq_some_iff.1 hlH).1
   show(H.loops.set _ _)[_]?=_
   simp[this]
  have og:∀(a:Nat) (cs:List AV),h6.boxes[a]?=some cs->a≠sumb->a≠ib->K.boxes[a]?=some cs:=fun a cs ha n1 n2=>by rw[hKb];exact q.old a cs ha n1 n2
  have hkK:=og _ _ gk6 (by omega) (by omega)
  have hsK:=og _ _ gs6 (by omega) (by omega)
  have hzK:=og _ _ gz6 (by omega) (by omega)
  have heK:=og _ _ ge6 (by omega) (by omega)
  have hwK:=og _ _ gw6 (by omega) (by omega)
  have hsumK:=(hKb sumb).trans q.sum
  have hibK:=(hKb ib).trans q.ix
  have hle:=q.le
  have lib:ai Tryz.prog Gt K 3 (.ptr (.box ib) 0)=some (.v (.int .i64 ((cA owners ag k).length:Nat))):=aQ ag3 hibK rfl
  have lsb:ai Tryz.prog Gt K 36 (.ptr (.box sb) 0)=some S:=aQ M9 hsK rfl
  have lSn:=kf.out.2.2.2.2.cH
  obtain⟨a1,a2,a3,a4,a5,a6⟩:=jk hzK heK (by omega) 0 340
  have hzl:=(List.getElem?_eq_some_iff.1 hzK).1
  have hel:=(List.getElem?_eq_some_iff.1 heK).1
  have kstop:ah (∀(K2:ae),K2.loops[h6.loops.length]?=some {rec with state:= .busy}->zb<K2.boxes.length->eb<K2.boxes.length->BW h6.loops.length rec zb eb (((K2.put zb [.v (.int .i64 0)]).put eb [.v (.int .i64 340)]).bh h6.loops.length {rec with state:= .done,pending:=some .ret})):=⟨fun K2 q1 q2 q3=>by
   have hll:=(List.getElem?_eq_some_iff.1 q1).1
   refine⟨rl hll,?_,?_⟩
   ·show((K2.put zb [.v (.int .i64 0)]).put eb [.v (.int .i64 340)]).boxes[zb]?=_
    rw[av (by omega)];exact aS q2
   ·show((K2.put zb [.v (.int .i64 0)]).put eb [.v (.int .i64 340)]).boxes[eb]?=_
    exact aS (by rw[dU];exact q3)⟩
  have kown:=ah.mk (fun q=>@K4 rows owners aa ag s q k hk hc)
  have kq:=ah.mk q
  have kog:=ah.mk og
  obtain⟨Q,hQ⟩:∃Q:Xt->ae->Prop,Q=fun o h2=>h2.loops[h6.loops.length]?=some {rec with state:= .busy}/\
   ((o= .normal/\K6 (h6.loop rec) h6.loops.length rec sumb ib zb eb rows owners aa (aM rows owners l) ag s (k+1) (h2.bh h6.loops.length rec))∨(o= .ret/\BW h6.loops.length rec zb eb (h2.bh h6.loops.length {rec with state:= .done,pending:=some .ret})/\eQ rows owners aa ag s=false)):=⟨_,rfl⟩
  have kQs:ah (∀(K2:ae),K2.loops[h6.loops.length]?=some {rec with state:= .busy}->zb<K2.boxes.length->eb<K2.boxes.length->eQ rows owners aa ag s=false->Q .ret ((K2.put zb [.v (.int .i64 0)]).put eb [.v (.int .i64 340)])):=⟨fun K2 z1 z2 z3 z4=>by
   rw[hQ];exact⟨z1,.inr ⟨rfl,kstop.out K2 z1 z2 z3,z4⟩⟩⟩
  have kQn:ah (∀(K2:ae),K2.loops[h6.loops.length]?=some {rec with state:= .busy}->K6 (h6.loop rec) h6.loops.length rec sumb ib zb eb rows owners aa (aM rows owners l) ag s (k+1) (K2.bh h6.loops.length rec)->Q .normal K2):=⟨fun K2 z1 z2=>by
   rw[hQ];exact⟨z1,.inl ⟨rfl,z2⟩⟩⟩
  rw[hK]
  suffices hrun:Run W5 rec.assign (dD h6.loops.length rec [.v (.int .i64 (k:Nat))]) H (fun o e1 h1=>o= .normal/\h1=H/\Run W5 rec.body e1 K (fun o _ h2=>Q o h2)) by
   obtain⟨o,e1,hh,z1,z2,z3,o',e2,h2',z4,z5⟩:=hrun
   refine⟨o,e1,hh,z1,z2,z3,o',e2,h2',z4,?_⟩
   rw[hQ] at z5
   obtain⟨z5,z6⟩:=z5
   refine⟨z5,?_⟩
   rcases z6 with⟨y1,y2⟩|⟨y1,y2⟩
   ·exact .inl ⟨y1,y2⟩
   ·exact .inr ⟨y1,y2⟩
  clear hQ kstop
  rw[v3,v4]
  rcases Nat.lt_or_ge (cA owners ag k).length s.length with hlt|hge
  rotate_left 1
  ·have hie:(cA owners ag k).length=s.length:=by omega
   have hno:eQ rows owners aa ag s=false:=by
    cases ho:eQ rows owners aa ag s with
    |false=>rfl
    |true=>
     obtain⟨p,z1,-⟩:=kown.out ho
     rw[List.getElem?_eq_none (by omega)] at z1;cases z1
   have dd:decide ((((cA owners ag k).length:Nat):Int)=(s.length:Int))=true:=decide_eq_true (by omega)
   have kfin:=ah.mk (kQs.out K hKl hzl hel hno)
   clear hie hno hge hle q og hlH hK hKb hKl hkK hsK hzK heK hwK hsumK hibK v1 v2 v3 v4 v5 v6 kQs kQn
   generalize (cA owners ag k).length=i at *
   repeat' (first|simp(maxSteps:=999999) (disch:=first|exact dZ|fail) only[gW,reduceIte,Nat.reduceEqDiff,beq_self_eq_true, *] | (refine dX ?_ ?_<;>(intro _;try omega)))
   exact⟨trivial,trivial,kfin.out⟩
  obtain⟨p,hp⟩:∃p,s[(cA owners ag k).length]?=some p:=⟨_,List.getElem?_eq_getElem hlt⟩
  have dd:decide ((((cA owners ag k).length:Nat):Int)=(s.length:Int))=false:=decide_eq_false (by omega)
  have ixS:=kf.out.2.2.2.2.ix hlt
  have ls0:=NR (H:=K) (s:=2) hp
  by_cases hrow:p.1=((k:Nat):Int)
  rotate_left 1
  ·have hno:eQ rows owners aa ag s=false:=by
    cases ho:eQ rows owners aa ag s with
    |false=>rfl
    |true=>
     obtain⟨p',z1,z2,-⟩:=kown.out ho
     rw[hp] at z1;injection z1 with z1;subst z1
     exact absurd z2 hrow
   have dr:decide (p.1=((k:Nat):Int))=false:=decide_eq_false hrow
   have kfin:=ah.mk (kQs.out K hKl hzl hel hno)
   clear hno hlt hle q og hlH hK hKb hKl hkK hsK hzK heK hwK hsumK hibK v1 v2 v3 v4 v5 v6 kQs kQn hp hrow
   generalize (cA owners ag k).length=i at *
   repeat' (first|simp(maxSteps:=999999) (disch:=first|exact dZ|fail) only[gW,reduceIte,Nat.reduceEqDiff,beq_self_eq_true,wM, *] | (refine dX ?_ ?_<;>(intro _;try omega)))
   exact⟨trivial,trivial,kfin.out⟩
  have hkr:k<rows.length:=by omega
  have dr:decide (((k:Nat):Int)=((k:Nat):Int))=true:=decide_eq_true rfl
  obtain⟨pr,pv⟩:=p
  simp only at hrow
  subst hrow
  obtain⟨_,K2,cf,rfl,xf⟩:=PF K X Y C rows owners aa kf.out.1 kf.out.2.1 kf.out.2.2.1 hcl ((k:Nat):Int) pv
  have lk1:ai Tryz.prog Gt K 25 (.ptr (.box kb) 1)=some (.agg [X,Y]):=by
   rw[cP G9 (by kernel_rfl:bF Tryz.prog 25=some 2) hkK (Nat.le_of_ble_eq_true rfl)];rfl
  have lk3:ai Tryz.prog Gt K 23 (.ptr (.box kb) 3)=some C:=aQ mo hkK rfl
  have ls81:=PI (H:=K) (s:=2) hp
  have hK2l:=xf.loop _ _ hKl
  have hz2:=xf.box _ _ hzK
  have he2:=xf.box _ _ heK
  rcases DZ (v:=pv) hchk hkr with⟨so,fo⟩|⟨so,fo⟩
  rotate_left 1
  ·have hno:eQ rows owners aa ag s=false:=by
    cases ho:eQ rows owners aa ag s with
    |false=>rfl
    |true=>
     obtain⟨p',z1,z2,z3⟩:=kown.out ho
     rw[hp] at z1;injection z1 with z1;subst z1
     rw[so] at z3;cases z3
   have kfin:=ah.mk (kQs.out K2 hK2l (List.getElem?_eq_some_iff.1 hz2).1 (List.getElem?_eq_some_iff.1 he2).1 hno)
   obtain⟨t1,t2,t3,t4,t5,t6⟩:=jk hz2 he2 (by omega) 0 340
   clear hno hlt hle q og hlH hK hKb hKl hkK hsK hzK heK hwK hsumK hibK v1 v2 v3 v4 v5 v6 kQs kQn hp a1 a2 a3 a4 a5 a6 xf hz2 he2 hK2l so
   unfold im at cf
   rcases fo with fo|fo
   ·rw[fo] at cf
    clear fo
    generalize (cA owners ag k).length=i at *
    repeat' (first|simp(maxSteps:=999999) (disch:=first|exact dZ|fail) only[gW,reduceIte,Nat.reduceEqDiff,beq_self_eq_true,wM,dS,fF, *] | (refine dX ?_ ?_<;>(intro _;try omega)))
    refine⟨trivial,trivial,?_⟩
    refine bf gM kZq ?_
    repeat' (first|simp(maxSteps:=999999) (disch:=first|exact dZ|fail) only[gW,reduceIte,Nat.reduceEqDiff,beq_self_eq_true,wM,dS,fF, *] | (refine dX ?_ ?_<;>(intro _;try omega)))
    exact kfin.out
   ·rw[fo] at cf
    clear fo
    generalize (cA owners ag k).length=i at *
    repeat' (first|simp(maxSteps:=999999) (disch:=first|exact dZ|fail) only[gW,reduceIte,Nat.reduceEqDiff,beq_self_eq_true,wM,dS,fF, *] | (refine dX ?_ ?_<;>(intro _;try omega)))
    refine⟨trivial,trivial,?_⟩
    refine bf gM kZq ?_
    repeat' (first|simp(maxSteps:=999999) (disch:=first|exact dZ|fail) only[gW,reduceIte,Nat.reduceEqDiff,beq_self_eq_true,wM,dS,fF, *] | (refine dX ?_ ?_<;>(intro _;try omega)))
    exact kfin.out
  rw[fo] at cf
  have hw2:=xf.box _ _ hwK
  have hs2:=xf.box _ _ hsK
  have hsum2:=xf.box _ _ hsumK
  have hib2:=xf.box _ _ hibK
  obtain⟨b6,vr6,z1,-⟩:=kW.out.dF
  have hcs:c≠sumb:=fun e=>by rw[e] at z1;rw[gsum6] at z1;unfold dQ at z1;simp at z1
  have hci:c≠ib:=fun e=>by rw[e] at z1;rw[gib6] at z1;unfold dQ at z1;simp at z1
  have hcK:=xf.box _ _ (og _ _ z1 hcs hci)
  have lwb:ai Tryz.prog Gt K2 90 (.ptr (.box wb) 0)=some (.ptr (.box c) 0):=aQ wN hw2 rfl
  have lWt:ai Tryz.prog Gt K2 23 (.ptr (.box c) 6)=some Wt:=aQ mo hcK rfl
  have ixW:=hWt.ix (i:=k) (by rw[w2,w3];exact hkr)
  have lWk:=ldi (H:=K2) (l:=aM rows owners l) (i:=k) (s:=1) (by rw[w2,w3];exact hkr)
  have lsb2:ai Tryz.prog Gt K2 36 (.ptr (.box sb) 0)=some S:=aQ M9 hs2 rfl
  have lib2:ai Tryz.prog Gt K2 3 (.ptr (.box ib) 0)=some (.v (.int .i64 ((cA owners ag k).length:Nat))):=aQ ag3 hib2 rfl
  have lsum2:ai Tryz.prog Gt K2 3 (.ptr (.box sumb) 0)=some (.v (.int .i64 (fh (aM rows owners l) (s.take (cA owners ag k).length)))):=aQ ag3 hsum2 rfl
  have ls1:=RV (H:=K2) (s:=2) hp
  have cm:=KH (at0 (aM rows owners l) k) pv
  have ca:=MT (fh (aM rows owners l) (s.take (cA owners ag k).length)) (cq (at0 (aM rows owners l) k) pv)
  have hst:=HG (y:=aM rows owners l) hp
  simp only[Int.toNat_natCast] at hst
  rw[<-hst] at ca
  have stS:=K5 (n:=fh (aM rows owners l) (s.take ((cA owners ag k).length+1))) hsum2
  have hib3:(K2.put sumb [.v (.int .i64 (fh (aM rows owners l) (s.take ((cA owners ag k).length+1))))]).boxes[ib]?=some [.v (.int .i64 ((cA owners ag k).length:Nat))]:=by rw[av (by omega)];exact hib2
  have lib3:ai Tryz.prog Gt (K2.put sumb [.v (.int .i64 (fh (aM rows owners l) (s.take ((cA owners ag k).length+1))))]) 3 (.ptr (.box ib) 0)=some (.v (.int .i64 ((cA owners ag k).length:Nat))):=aQ ag3 hib3 rfl
  have stI:=K5 (n:=(((cA owners ag k).length+1:Nat):Int)) hib3
  have hcast:(((cA owners ag k).length+1:Nat):Int)=((cA owners ag k).length:Int)+1:=by omega
  have kfin:=ah.mk (kQn.out ((K2.put sumb [.v (.int .i64 (fh (aM rows owners l) (s.take ((cA owners ag k).length+1))))]).put ib [.v (.int .i64 (((cA owners ag k).length+1:Nat):Int))]) hK2l (by
   have hll:=(List.getElem?_eq_some_iff.1 hK2l).1
   have hsl2:=(List.getElem?_eq_some_iff.1 hsum2).1
   have hil2:=(List.getElem?_eq_some_iff.1 hib2).1
   have hlen:(cA owners ag (k+1)).length=(cA owners ag k).length+1:=by rw[mZ hc];simp
   refine⟨rl hll,fun a cs ha n1 n2=>?_,?_,?_,by omega,?_,?_⟩
   ·show((K2.put sumb _).put ib _).boxes[a]?=_
    rw[av n2,av n1]
    exact xf.box _ _ (by rw[hKb];exact q.old a cs ha n1 n2)
   ·show((K2.put sumb _).put ib _).boxes[sumb]?=_
    rw[av (by omega),hlen];exact aS hsl2
   ·show((K2.put sumb _).put ib _).boxes[ib]?=_
    rw[hlen];exact aS (by rw[dU];exact hil2)
   ·rw[hlen,a9 hp,List.map_append,q.same,mZ hc,List.map_append];rfl
   ·rw[hlen,a9 hp,List.all_append,q.ok,Bool.true_and];simp[so]))
  clear hle q og hlH hK hKb hKl hkK hsK hzK heK hwK hsumK hibK v1 v2 v3 v4 v5 v6 kQs kQn hp a1 a2 a3 a4 a5 a6 xf hz2 he2 hK2l so fo hw2 hs2 hsum2 hib2 hib3 hcK z1 hst w2 w3
  unfold im at *
  generalize (cA owners ag k).length=i at *
  generalize fh (aM rows owners l) (s.take i)=sv at *
  generalize fh (aM rows owners l) (s.take (i+1))=sv2 at *
  generalize cq (at0 (aM rows owners l) k) pv=mv at *
  generalize at0 (aM rows owners l) k=wv at *
  rw[hcast] at stI kfin
  repeat' (first|simp(maxSteps:=999999) (disch:=first|exact dZ|fail) only[gW,reduceIte,Nat.reduceEqDiff,beq_self_eq_true,wM,dS,fF, *] | (refine dX ?_ ?_<;>(intro _;try omega)))
  refine⟨trivial,trivial,?_⟩
  refine bf gM kZq ?_
  repeat' (first|simp(maxSteps:=999999) (disch:=first|exact dZ|fail) only[gW,reduceIte,Nat.reduceEqDiff,beq_self_eq_true,wM,RW,dS,fF, *] | (refine dX ?_ ?_<;>(intro _;try omega)))
  refine bf gM kZq ?_
  repeat' (first|simp(maxSteps:=999999) (disch:=first|exact dZ|fail) only[gW,reduceIte,Nat.reduceEqDiff,beq_self_eq_true,wM,RW,qH, *] | (refine dX ?_ ?_<;>(intro _;try omega)))
  exact kfin.out
 ·obtain⟨Hf,cF,hF⟩:=feed
  rcases hF with q|⟨q,hno⟩
  rotate_left 1
  ·have hres2:res=(0,340):=by rw[hres,if_pos hno]
   have kr:=ah.mk hres2
   refine⟨_,_,cF,_,q.lp,(show LoopState.done≠ .busy by decide),.inr ⟨rfl,?_⟩⟩
   have qz:(Hf.bh h6.loops.length {rec with state:= .exhausted,pending:=some .ret}).boxes[zb]?=some [.v (.int .i64 0)]:=q.z
   have qe:(Hf.bh h6.loops.length {rec with state:= .exhausted,pending:=some .ret}).boxes[eb]?=some [.v (.int .i64 340)]:=q.e
   have lz:ai Tryz.prog Gt (Hf.bh h6.loops.length {rec with state:= .exhausted,pending:=some .ret}) 3 (.ptr (.box zb) 0)=some (.v (.int .i64 0)):=aQ ag3 qz rfl
   have le:ai Tryz.prog Gt (Hf.bh h6.loops.length {rec with state:= .exhausted,pending:=some .ret}) 32 (.ptr (.box eb) 0)=some (.v (.int .i64 340)):=aQ DL qe rfl
   clear cF q hno hres hres2 kf kW gk6 gs6 gz6 ge6 gw6 gp6 ga6 gb6 gsum6 gib6 hm w2 w3 hWt p1 p3 hchk og1 og2 og3 og4 hlr v1 v2 v3 v4 v5 v6 qz qe hxk
   repeat' (first|simp(maxSteps:=999999) (disch:=first|exact dZ|fail) only[gW,reduceIte,Nat.reduceEqDiff,beq_self_eq_true,jO, *] | (refine dX ?_ ?_<;>(intro _;try omega)))
   exact⟨_,_,rfl,by rw[kr.out]⟩
  refine⟨_,_,cF,_,q.lp,by rw[v5];decide,.inl ⟨v6,?_⟩⟩
  obtain⟨HF,hHF⟩:∃HF,Hf.bh h6.loops.length {rec with state:= .exhausted}=HF:=⟨_,rfl⟩
  have hbx:∀a:Nat,HF.boxes[a]?=Hf.boxes[a]?:=fun a=>by rw[<-hHF];rfl
  have og:∀(a:Nat) (cs:List AV),h6.boxes[a]?=some cs->a≠sumb->a≠ib->HF.boxes[a]?=some cs:=fun a cs ha n1 n2=>by rw[hbx];exact q.old a cs ha n1 n2
  have hsF:=og _ _ gs6 (by omega) (by omega)
  have hzF:=og _ _ gz6 (by omega) (by omega)
  have heF:=og _ _ ge6 (by omega) (by omega)
  have hwF:=og _ _ gw6 (by omega) (by omega)
  have hpF:=og _ _ gp6 (by omega) (by omega)
  have hsumF:=(hbx sumb).trans q.sum
  have hibF:=(hbx ib).trans q.ix
  have hle:=q.le
  have hsame:=q.same
  have hokk:=q.ok
  rw[pH] at hsumF hibF hle hsame hokk
  rw[hHF]
  have lib:ai Tryz.prog Gt HF 3 (.ptr (.box ib) 0)=some (.v (.int .i64 ((cT owners ag).length:Nat))):=aQ ag3 hibF rfl
  have lsb:ai Tryz.prog Gt HF 36 (.ptr (.box sb) 0)=some S:=aQ M9 hsF rfl
  have lSn:=kf.out.2.2.2.2.cH
  rcases Nat.lt_or_ge (cT owners ag).length s.length with hlt|hge
  ·have hno:eQ rows owners aa ag s=false:=by
    cases ho:eQ rows owners aa ag s with
    |false=>rfl
    |true=>
     unfold eQ at ho
     rw[Bool.and_eq_true,decide_eq_true_eq] at ho
     have:=congrArg List.length ho.1
     rw[List.length_map,List.length_map] at this
     omega
   have hres2:res=(0,340):=by rw[hres,if_pos hno]
   have kr:=ah.mk hres2
   obtain⟨a1,a2,a3,a4,a5,a6⟩:=jk hzF heF (by omega) 0 340
   have dd:decide ((((cT owners ag).length:Nat):Int)<(s.length:Int))=true:=decide_eq_true (by omega)
   clear cF q hno hres hres2 kf kW gk6 gs6 gz6 ge6 gw6 gp6 ga6 gb6 gsum6 gib6 hm w2 w3 hWt p1 p3 hchk og1 og2 og3 og4 hlr v1 v2 v3 v4 v5 v6 hxk hHF hbx og hsF hzF heF hwF hpF hsumF hibF hle hsame hokk hlt
   repeat' (first|simp(maxSteps:=999999) (disch:=first|exact dZ|fail) only[gW,reduceIte,Nat.reduceEqDiff,beq_self_eq_true,jO, *] | (refine dX ?_ ?_<;>(intro _;try omega)))
   exact⟨_,_,rfl,by rw[kr.out]⟩
  have hne:(cT owners ag).length=s.length:=by omega
  have hyes:eQ rows owners aa ag s=true:=by
   unfold eQ
   rw[hne,List.take_length] at hsame hokk
   rw[hsame,hokk]
   simp
  have dd:decide ((((cT owners ag).length:Nat):Int)<(s.length:Int))=false:=decide_eq_false (by omega)
  rw[hne,List.take_length] at hsumF
  rw[if_neg (by rw[hyes];simp)] at hres
  have c8:=mV 4 d
  have c9:=mV 4 f
  have hG:(4:Int).toNat=Gn:=rfl
  rw[iS oU,hG] at c8 c9
  have lpD:ai Tryz.prog Gt HF 3 (.ptr (.box pb) 2)=some (.v (.int .i64 x.d)):=aQ ag3 hpF rfl
  have lpE:ai Tryz.prog Gt HF 3 (.ptr (.box pb) 3)=some (.v (.int .i64 x.e)):=aQ ag3 hpF rfl
  obtain⟨a1,a2,a3,a4,a5,a6⟩:=jk hzF heF (by omega) 0 420
  by_cases hd1:((aY Gn d:Nat):Int)=x.d
  rotate_left 1
  ·have kr:=ah.mk (hres.trans (if_pos (.inl hd1)))
   have dq:decide (((aY Gn d:Nat):Int)=x.d)=false:=decide_eq_false hd1
   clear cF q hyes hres kf kW gk6 gs6 gz6 ge6 gw6 gp6 ga6 gb6 gsum6 gib6 hm w2 w3 hWt p1 p3 hchk og1 og2 og3 og4 hlr v1 v2 v3 v4 v5 v6 hxk hHF hbx og hsF hzF heF hwF hpF hsumF hibF hle hsame hokk hge hne hG hd1
   generalize ((aY Gn d:Nat):Int)=pd at *
   unfold im at *
   repeat' (first|simp(maxSteps:=999999) (disch:=first|exact dZ|fail) only[gW,reduceIte,Nat.reduceEqDiff,beq_self_eq_true,jO, *] | (refine dX ?_ ?_<;>(intro _;try omega)))
   refine bU [(7,9)] gM kZq (fun p hp=>?_) ?_
   ·simp only[List.mem_singleton] at hp
    subst hp
    refine DY kZq rfl rfl kZq ?_ ?_
    ·simp only[List.take_succ_cons,List.take_zero]
     repeat' (first|simp(maxSteps:=999999) (disch:=first|exact dZ|fail) only[gW,reduceIte,Nat.reduceEqDiff,beq_self_eq_true,jO,jj, *] | (refine dX ?_ ?_<;>(intro _;try omega)))
     refine⟨by trivial,?_⟩
     simp[bg,yy]
    ·simp only[List.take_succ_cons,List.take_zero]
     repeat' (first|simp(maxSteps:=999999) (disch:=first|exact dZ|fail) only[gW,reduceIte,Nat.reduceEqDiff,beq_self_eq_true,jO,jj, *] | (refine dX ?_ ?_<;>(intro _;try omega)))
   repeat' (first|simp(maxSteps:=999999) (disch:=first|exact dZ|fail) only[gW,reduceIte,Nat.reduceEqDiff,beq_self_eq_true,jO,jj, *] | (refine dX ?_ ?_<;>(intro _;try omega)))
   exact⟨_,_,rfl,by rw[kr.out]⟩
  have dq:decide (((aY Gn d:Nat):Int)=x.d)=true:=decide_eq_true hd1
  by_cases hd2:((aY Gn f:Nat):Int)=x.e
  rotate_left 1
  ·have kr:=ah.mk (hres.trans (if_pos (.inr hd2)))
   have dq2:decide (((aY Gn f:Nat):Int)=x.e)=false:=decide_eq_false hd2
   clear cF q hyes hres kf kW gk6 gs6 gz6 ge6 gw6 gp6 ga6 gb6 gsum6 gib6 hm w2 w3 hWt p1 p3 hchk og1 og2 og3 og4 hlr v1 v2 v3 v4 v5 v6 hxk hHF hbx og hsF hzF heF hwF hpF hsumF hibF hle hsame hokk hge hne hG hd1 hd2
   generalize ((aY Gn d:Nat):Int)=pd at *
   generalize ((aY Gn f:Nat):Int)=pf at *
   unfold im at *
   repeat' (first|simp(maxSteps:=999999) (disch:=first|exact dZ|fail) only[gW,reduceIte,Nat.reduceEqDiff,beq_self_eq_true,jO, *] | (refine dX ?_ ?_<;>(intro _;try omega)))
   refine bU [(7,9)] gM kZq (fun p hp=>?_) ?_
   ·simp only[List.mem_singleton] at hp
    subst hp
    refine nU (x:= .ptr (.box pb) 3) (v:= .v (.int .i64 x.e)) kZq rfl rfl kZq (by simp[cB,gB]) ?_ ?_
    ·simp only[List.take_succ_cons,List.take_zero]
     repeat' (first|simp(maxSteps:=999999) (disch:=first|exact dZ|fail) only[gW,reduceIte,Nat.reduceEqDiff,beq_self_eq_true,jO,jj, *] | (refine dX ?_ ?_<;>(intro _;try omega)))
     refine⟨by trivial,?_,by trivial,by trivial⟩
     simp[bg,yy]
    ·simp only[List.take_succ_cons,List.take_zero]
     repeat' (first|simp(maxSteps:=999999) (disch:=first|exact dZ|fail) only[gW,reduceIte,Nat.reduceEqDiff,beq_self_eq_true,jO,jj,and_self, *] | (refine dX ?_ ?_<;>(intro _;try omega)))
   repeat' (first|simp(maxSteps:=999999) (disch:=first|exact dZ|fail) only[gW,reduceIte,Nat.reduceEqDiff,beq_self_eq_true,jO,jj, *] | (refine dX ?_ ?_<;>(intro _;try omega)))
   exact⟨_,_,rfl,by rw[kr.out]⟩
  have dq2:decide (((aY Gn f:Nat):Int)=x.e)=true:=decide_eq_true hd2
  rw[if_neg (by simp[hd1,hd2])] at hres
  have kr:=ah.mk hres
  obtain⟨b6,vr6,z1,z2,z3⟩:=kW.out.dF
  have hcs:c≠sumb:=fun e=>by rw[e] at z1;rw[gsum6] at z1;unfold dQ at z1;simp at z1
  have hci:c≠ib:=fun e=>by rw[e] at z1;rw[gib6] at z1;unfold dQ at z1;simp at z1
  have hvl:=z3.1
  have hfl:=a8 z3.four
  rw[List.length_map] at hvl
  have hlpos:0<l.length:=List.length_pos_iff.2 (fun e=>by rw[e] at kxl;simp at kxl)
  have hbs:b6≠sumb:=fun e=>by
   rw[e] at z2;rw[gsum6] at z2;injection z2 with z2;rw[<-z2] at hfl;simp at hfl;omega
  have hbi:b6≠ib:=fun e=>by
   rw[e] at z2;rw[gib6] at z2;injection z2 with z2;rw[<-z2] at hfl;simp at hfl;omega
  have WF:lQ HF c ep X Y C T L Wt ((dA (at0 aa 0) text l:Nat):Int) ((aG (at0 aa 0) text l:Nat):Int) aa text l:=
   ⟨⟨b6,vr6,og _ _ z1 hcs hci,og _ _ z2 hbs hbi,z3⟩,kW.out.com,kW.out.pos,kW.out.c0,kW.out.txt,kW.out.tl,kW.out.ll⟩
  obtain⟨_,_,cb,rfl,rfl⟩:=DX HF c ep X Y C T L Wt _ _ aa text l WF x ⟨by omega,by omega⟩
  rw[hxk] at cb
  have hcF:=og _ _ z1 hcs hci
  have lwb:ai Tryz.prog Gt HF 90 (.ptr (.box wb) 0)=some (.ptr (.box c) 0):=aQ wN hwF rfl
  have lwb2:ai Tryz.prog Gt (HF.push (aq x)) 90 (.ptr (.box wb) 0)=some (.ptr (.box c) 0):=aQ wN (aj hwF) rfl
  have lch:ai Tryz.prog Gt HF 3 (.ptr (.box c) 12)=some (.v (.int .i64 ((aG (at0 aa 0) text l:Nat):Int))):=aQ ag3 hcF rfl
  have lch2:ai Tryz.prog Gt (HF.push (aq x)) 3 (.ptr (.box c) 12)=some (.v (.int .i64 ((aG (at0 aa 0) text l:Nat):Int))):=aQ ag3 (aj hcF) rfl
  have lsu:ai Tryz.prog Gt HF 3 (.ptr (.box sumb) 0)=some (.v (.int .i64 (fh (aM rows owners l) s))):=aQ ag3 hsumF rfl
  have lsu2:ai Tryz.prog Gt (HF.push (aq x)) 3 (.ptr (.box sumb) 0)=some (.v (.int .i64 (fh (aM rows owners l) s))):=aQ ag3 (aj hsumF) rfl
  have lpp:=oW hpF
  have m1:=KH f ((dP (at0 aa 0) text l ag:Nat):Int)
  have m2:=MT d (cq f ((dP (at0 aa 0) text l ag:Nat):Int))
  have m3:=KH ((aG (at0 aa 0) text l:Nat):Int) (fh (aM rows owners l) s)
  have m4:=MT (cN d (cq f ((dP (at0 aa 0) text l ag:Nat):Int))) (cq ((aG (at0 aa 0) text l:Nat):Int) (fh (aM rows owners l) s))
  obtain⟨t1,t2,t3,t4,t5,t6⟩:=jk (Hx:=HF.push (aq x)) (aj hzF) (aj heF) (by omega) (cN (cN d (cq f ((dP (at0 aa 0) text l ag:Nat):Int))) (cq ((aG (at0 aa 0) text l:Nat):Int) (fh (aM rows owners l) s))) 0
  clear cF q hyes hres kf kW gk6 gs6 gz6 ge6 gw6 gp6 ga6 gb6 gsum6 gib6 hm w2 w3 hWt p1 p3 hchk og1 og2 og3 og4 hlr v1 v2 v3 v4 v5 v6 hxk hHF hbx og hsF hzF heF hwF hpF hsumF hibF hle hsame hokk hge hne hG hd1 hd2 a1 a2 a3 a4 a5 a6 WF hcF z1 z2 z3 hcs hci hbs hbi hvl hfl hlpos kxl
  generalize cN (cN d (cq f ((dP (at0 aa 0) text l ag:Nat):Int))) (cq ((aG (at0 aa 0) text l:Nat):Int) (fh (aM rows owners l) s))=zz at *
  generalize cN d (cq f ((dP (at0 aa 0) text l ag:Nat):Int))=za at *
  generalize cq f ((dP (at0 aa 0) text l ag:Nat):Int)=zm at *
  generalize cq ((aG (at0 aa 0) text l:Nat):Int) (fh (aM rows owners l) s)=zs at *
  generalize ((dP (at0 aa 0) text l ag:Nat):Int)=bv at *
  generalize ((aG (at0 aa 0) text l:Nat):Int)=chv at *
  generalize fh (aM rows owners l) s=wv at *
  generalize ((aY Gn d:Nat):Int)=pd at *
  generalize ((aY Gn f:Nat):Int)=pf at *
  unfold im at *
  repeat' (first|simp(maxSteps:=999999) (disch:=first|exact dZ|fail) only[gW,reduceIte,Nat.reduceEqDiff,beq_self_eq_true,jO, *] | (refine dX ?_ ?_<;>(intro _;try omega)))
  refine bU [(7,9)] gM kZq (fun p hp=>?_) ?_
  ·simp only[List.mem_singleton] at hp
   subst hp
   refine nU (x:= .ptr (.box pb) 3) (v:= .v (.int .i64 x.e)) kZq rfl rfl kZq (by simp[cB,gB]) ?_ ?_
   ·simp only[List.take_succ_cons,List.take_zero]
    repeat' (first|simp(maxSteps:=999999) (disch:=first|exact dZ|fail) only[gW,reduceIte,Nat.reduceEqDiff,beq_self_eq_true,jO,jj, *] | (refine dX ?_ ?_<;>(intro _;try omega)))
    refine⟨by trivial,?_,by trivial,by trivial⟩
    simp[bg,yy]
   ·simp only[List.take_succ_cons,List.take_zero]
    repeat' (first|simp(maxSteps:=999999) (disch:=first|exact dZ|fail) only[gW,reduceIte,Nat.reduceEqDiff,beq_self_eq_true,jO,jj,and_self, *] | (refine dX ?_ ?_<;>(intro _;try omega)))
  repeat' (first|simp(maxSteps:=999999) (disch:=first|exact dZ|fail) only[gW,reduceIte,Nat.reduceEqDiff,beq_self_eq_true,jO,jj, *] | (refine dX ?_ ?_<;>(intro _;try omega)))
  refine bU [(4,7),(4,10),(4,11)] gM kZq (fun p hp=>?_) ?_
  ·simp only[List.mem_cons,List.not_mem_nil,or_false] at hp
   rcases hp with rfl|rfl|rfl
   ·refine dI (x:= .ptr (.box wb) 0) (v:= .ptr (.box c) 0) kZq rfl rfl rfl kZq (BU c 0) ?_ ?_<;>(simp only[List.take_succ_cons,List.take_zero];repeat' (first|simp(maxSteps:=999999) (disch:=first|exact dZ|fail) only[gW,reduceIte,Nat.reduceEqDiff,beq_self_eq_true,jO,jj,and_self, *] | (refine dX ?_ ?_<;>(intro _;try omega))))
   ·refine dI (x:= .ptr (.box c) 12) (v:= .v (.int .i64 chv)) kZq rfl rfl rfl kZq (by simp[cB,gB]) ?_ ?_<;>(simp only[List.take_succ_cons,List.take_zero];repeat' (first|simp(maxSteps:=999999) (disch:=first|exact dZ|fail) only[gW,reduceIte,Nat.reduceEqDiff,beq_self_eq_true,jO,jj,qH,and_self, *] | (refine dX ?_ ?_<;>(intro _;try omega))))
   ·refine dI (x:= .ptr (.box sumb) 0) (v:= .v (.int .i64 wv)) kZq rfl rfl rfl kZq (by simp[cB,gB]) ?_ ?_<;>(simp only[List.take_succ_cons,List.take_zero];repeat' (first|simp(maxSteps:=999999) (disch:=first|exact dZ|fail) only[gW,reduceIte,Nat.reduceEqDiff,beq_self_eq_true,jO,jj,qH,and_self, *] | (refine dX ?_ ?_<;>(intro _;try omega))))
  repeat' (first|simp(maxSteps:=999999) (disch:=first|exact dZ|fail) only[gW,reduceIte,Nat.reduceEqDiff,beq_self_eq_true,jO,jj,qH, *] | (refine dX ?_ ?_<;>(intro _;try omega)))
  exact⟨_,_,rfl,by rw[kr.out]⟩
def L6:List FuncId:=L5++[17,20,22,26,41,44,45,56,63,75,80,133,134]
noncomputable def D0:FuncId->Option (List AV->ae->Option (AV × ae)):=fx W5 L6
noncomputable abbrev W6:=whole Tryz.prog Gt D0
theorem rV:jo D0 L6:=nE
section
variable (a b n x:Int)
theorem K7:∀h,W6.call 28 [im a,im b] h=some (.ret (im (cN a b)),h):=aF (L:=L6) rfl rfl rfl (MT a b _) rfl rfl
theorem Uc:∀h,W6.call 30 [im a,im n] h=some (.ret (.tuple [im (iL a n),im (lG a)]),h):=aF (L:=L6) rfl rfl rfl (BG a n _) rfl rfl
end
theorem vU:∀l:List Pr,eF (eR l)=eR l
 | []=>rfl
 |p::l=>by
  show eF (aq p::eR l)=_
  rw[eF,vU l];rfl
theorem ye:∀l:List Pr,gH 0 0 0 (eR l)=true
 | []=>rfl
 |p::l=>by
  show gH 0 0 0 (aq p::eR l)=_
  rw[gH,ye l];rfl
theorem tP:∀l:List (Int × Int),eF (bL l)=bL l
 | []=>rfl
 |p::l=>by
  show eF (eu p::bL l)=_
  rw[eF,tP l];rfl
theorem nL:∀l:List (Int × Int),gH 0 0 0 (bL l)=true
 | []=>rfl
 |p::l=>by
  show gH 0 0 0 (eu p::bL l)=_
  rw[gH,nL l];rfl
theorem yf:∀l:List Int,eF (l.map vO)=l.map vO
 | []=>rfl
 |p::l=>by rw[List.map_cons,eF,yf l];rfl
theorem BY:∀l:List Int,gH 0 0 0 (l.map vO)=true
 | []=>rfl
 |p::l=>by rw[List.map_cons,gH,BY l];rfl
theorem PL.hold{x:AV}{l:List Pr}(h:PL x l):PL (au x) l/\aV 0 0 0 (au x)=true:=by
 obtain⟨k,s,rfl,hs⟩:=h
 rw[au,vU]
 exact⟨⟨di k,s,rfl,hs⟩,by rw[aV,bV,ye];rfl⟩
theorem SL.hold{x:AV}{l:List (Int × Int)}(h:SL x l):SL (au x) l/\aV 0 0 0 (au x)=true:=by
 obtain⟨k,s,rfl,hs⟩:=h
 rw[au,tP]
 exact⟨⟨di k,s,rfl,hs⟩,by rw[aV,bV,nL];rfl⟩
theorem UL.hold{x:AV}{l:List Int}(h:UL x l):UL (au x) l/\aV 0 0 0 (au x)=true:=by
 obtain⟨⟨k,s,rfl,hs⟩,hr⟩:=h
 rw[au,yf]
 exact⟨⟨⟨di k,s,rfl,hs⟩,hr⟩,by rw[aV,bV,BY];rfl⟩
theorem BL.hold{x:AV}{b:List UInt8}(h:BL x b):BL (au x) b/\aV 0 0 0 (au x)=true:=by
 obtain⟨k,s,rfl,hs⟩:=h
 rw[au,iQ]
 exact⟨⟨di k,s,rfl,hs⟩,by rw[aV,bV,fT];rfl⟩
theorem vV{X Y C:AV}{rows:List (List Int)}{owners aa:List Int}(ep:Int)(hx:RL X rows)(hy:IL Y owners)(hc:IL C aa):
 ∃X' Y' C',au (.agg (cI ep X Y C))= .agg (cI ep X' Y' C')/\RL X' rows/\IL Y' owners/\IL C' aa/\aV 0 0 0 (.agg (cI ep X' Y' C'))=true:=by
 obtain⟨h1,h2⟩:=hx.xS
 obtain⟨h3,h4⟩:=hy.hold
 obtain⟨h5,h6⟩:=hc.hold
 exact⟨_,_,_,rfl,h1,h3,h5,by simp[cI,aV,bA,h2,h4,h6]⟩
section
variable (ep:Int) (X Y C T L:AV) (rows:List (List Int)) (owners aa:List Int) (text:List UInt8) (l:List Pr)
 (hx:RL X rows) (hy:IL Y owners) (hc:IL C aa) (ht:BL T text) (hp:PL L l) (hcl:aa.length<=1000000) (hll:l.length<=1000000)
include hx hy hc ht hp hcl hll
theorem E3:(cd rows owners ep aa text l≠0/\∀h,W6.call 17 [.agg (cI ep X Y C),T,L] h=some (.ret (.tuple [.list .nil 0 [],im 0,im 0,im (cd rows owners ep aa text l)]),h))∨
 (cd rows owners ep aa text l=0/\∃Z,IL Z (mr (at0 aa 0) text l)/\∀h,W6.call 17 [.agg (cI ep X Y C),T,L] h=some (.ret (.tuple [Z,im ((dA (at0 aa 0) text l:Nat):Int),im ((aG (at0 aa 0) text l:Nat):Int),im 0]),h)):=by
 obtain⟨X',Y',C',e1,h1,h2,h3,h4⟩:=vV ep hx hy hc
 obtain⟨h5,h6⟩:=ht.hold
 obtain⟨h7,h8⟩:=hp.hold
 have ea:bM [.agg (cI ep X Y C),T,L]=[.agg (cI ep X' Y' C'),au T,au L]:=by
  rw[bM,bM,bM,bM,e1]
 have ef:bA 0 0 0 [.agg (cI ep X' Y' C'),au T,au L]=true:=by
  rw[bA,bA,bA,bA,h4,h6,h8];rfl
 obtain⟨r,h',c,⟨q,rfl⟩|⟨q,Z,rfl,hZ⟩⟩:=PN ⟨[],[],0,[]⟩ ok0 ep X' Y' C' (au T) (au L) rows owners aa text l h1 h2 h3 h5 h7 hcl hll
 ·exact .inl ⟨q,aF (L:=L6) rfl ea ef c rfl rfl⟩
 ·obtain⟨k,s,rfl,hs⟩:=hZ
  refine .inr ⟨q,.list (di k) s (ints _),⟨_,_,rfl,hs⟩,aF (L:=L6) rfl ea ef c ?_ ?_⟩
  ·rfl
  ·rw[aV,bA,aV,bV,fJ];rfl
theorem NX(S:AV)(s:List (Int × Int))(ag d f:Int)(hs:SL S s)(hsl:s.length<=1000000):
 ∀h,W6.call 20 [.agg (cI ep X Y C),T,L,im ag,S,im d,im f] h=some (.ret (.tuple [im (fN rows owners ep aa text l ag s d f).1,im (fN rows owners ep aa text l ag s d f).2]),h):=by
 obtain⟨X',Y',C',e1,h1,h2,h3,h4⟩:=vV ep hx hy hc
 obtain⟨h5,h6⟩:=ht.hold
 obtain⟨h7,h8⟩:=hp.hold
 obtain⟨h9,h10⟩:=hs.hold
 obtain⟨r,h',c,rfl⟩:=PS ⟨[],[],0,[]⟩ ok0 ep X' Y' C' (au T) (au L) (au S) rows owners aa text l s ag d f h1 h2 h3 h5 h7 h9 hcl hll hsl
 exact aF (L:=L6) rfl (by simp only[bM];rw[e1];rfl) (by simp only[bA];rw[h4,h6,h8,h10];rfl) c rfl rfl
theorem NY(ag z:Int):
 ∀h,W6.call 22 [.agg (cI ep X Y C),T,L,im ag,im z] h=some (.ret (.tuple [.v (.bool (ia rows owners ep aa text l ag z).1),im (ia rows owners ep aa text l ag z).2]),h):=by
 obtain⟨X',Y',C',e1,h1,h2,h3,h4⟩:=vV ep hx hy hc
 obtain⟨h5,h6⟩:=ht.hold
 obtain⟨h7,h8⟩:=hp.hold
 obtain⟨r,h',c,rfl⟩:=PQ ⟨[],[],0,[]⟩ ok0 ep X' Y' C' (au T) (au L) rows owners aa text l ag z h1 h2 h3 h5 h7 hcl hll
 exact aF (L:=L6) rfl (by simp only[bM];rw[e1];rfl) (by simp only[bA];rw[h4,h6,h8];rfl) c rfl rfl
end
theorem E4(key e s:Int)(T:AV)(text:List UInt8)(ht:BL T text)(hl:text.length<=1000000):
 ∀h,W6.call 26 [im key,T,.agg [im e,im s]] h=some (.ret (.v (.bool (iO key text e s))),h):=by
 obtain⟨⟨k,z,e1,hs⟩,h2⟩:=ht.hold
 obtain⟨r,h',c,rfl,-⟩:=KK ⟨[],[],0,[]⟩ key e s k z text hs hl
 exact aF (L:=L6) rfl (by simp only[bM];rw[e1];rfl) (by rw[<-e1];simp only[bA];rw[h2];rfl) c rfl rfl
theorem PV(x y:AV)(rows:List (List Int))(owners:List Int)(hx:RL x rows)(hy:IL y owners):∀h,W6.call 75 [.agg [x,y]] h=some (.ret (.v (.bool (jN rows owners))),h):=by
 obtain⟨h1,h2,h3,h4⟩:=fA hx hy
 obtain⟨r,h',c,rfl⟩:=M3 ⟨[],[],0,[]⟩ (au x) (au y) rows owners h1 h2
 exact aF (L:=L6) (args':=[.agg [au x,au y]]) rfl rfl (by simp[bA,aV,h3,h4]) c rfl rfl
theorem N1(x y z:AV)(rows:List (List Int))(owners random:List Int)(bp:Int)(hx:RL x rows)(hy:IL y owners)(hz:IL z random)(hl:random.length<=1000)(hrr:rows.length<=1000000):
 (mb rows owners bp random≠0/\∀h,W6.call 44 [.agg [x,y],im bp,z] h=some (.ret (.tuple [.list .nil 0 [],.list .nil 0 [],im (mb rows owners bp random)]),h))∨
 (mb rows owners bp random=0/\∃U V,SL U (fV rows (bp::random))/\IL V (ax (bp::random))/\∀h,W6.call 44 [.agg [x,y],im bp,z] h=some (.ret (.tuple [U,V,im 0]),h)):=by
 obtain⟨h1,h2,h3,h4⟩:=fA hx hy
 obtain⟨h5,h6⟩:=hz.hold
 have ef:bA 0 0 0 [.agg [au x,au y],im bp,au z]=true:=by simp[bA,aV,h3,h4,h6,im]
 obtain⟨r,h',c,⟨q,rfl⟩|⟨q,t1,s1,t2,s2,rfl,g1,g2⟩⟩:=PG ⟨[],[],0,[]⟩ ok0 (au x) (au y) (au z) rows owners random bp h1 h2 h5 hl hrr
 ·exact .inl ⟨q,aF (L:=L6) (args':=[.agg [au x,au y],im bp,au z]) rfl rfl ef c rfl rfl⟩
 ·refine .inr ⟨q,.list (di t1) s1 (bL _),.list (di t2) s2 (ints _),⟨_,_,rfl,g1⟩,⟨_,_,rfl,fun _=>g2⟩,aF (L:=L6) (args':=[.agg [au x,au y],im bp,au z]) rfl rfl ef c ?_ ?_⟩
  ·rfl
  ·rw[aV,bA,aV,bV,nL,bA,aV,bV,fJ];rfl
theorem BZ(x y:AV)(rows:List (List Int))(owners:List Int)(hx:RL x rows)(hy:IL y owners):∀h,W6.call 42 [.agg [x,y]] h=some (.ret (im (aK rows:Nat)),h):=by
 obtain⟨h1,h2,h3,h4⟩:=fA hx hy
 exact aF (L:=L6) (args':=[.agg [au x,au y]]) rfl rfl (by simp[bA,aV,h3,h4]) (tM (au x) (au y) rows owners h1 h2 _) rfl rfl
theorem Ut(x:AV)(l:List Int)(hx:IL x l)(hl:l.length<=9223372036854775807):∀h,W6.call 92 [x] h=some (.ret (.v (.bool (l.all inQ))),h):=by
 obtain⟨h1,h2⟩:=hx.hold
 exact aF (L:=L6) (args':=[au x]) rfl rfl (by simp[bA,h2]) (U3 (au x) l h1 hl _) rfl rfl
theorem Vi(x:AV)(l:List Int)(hx:IL x l)(hl:l.length<=9223372036854775807):∀h,W6.call 93 [x] h=some (.ret (.v (.bool (cS (-1) l))),h):=by
 obtain⟨h1,h2⟩:=hx.hold
 exact aF (L:=L6) (args':=[au x]) rfl rfl (by simp[bA,h2]) (Vh (au x) l h1 hl _) rfl rfl
theorem K9(x y z:AV)(rows:List (List Int))(owners who:List Int)(hx:RL x rows)(hy:IL y owners)(hz:IL z who)(hwl:who.length<=1099511627776):
 (∃e,bJ rows owners who=([],false,e)/\∀h,W6.call 76 [.agg [x,y],z] h=some (.ret (.tuple [.list .nil 0 [],.v (.bool false),im e]),h))∨
 ∃l,bJ rows owners who=(l,true,0)/\l.length=rows.length/\∃Z,IL Z l/\∀h,W6.call 76 [.agg [x,y],z] h=some (.ret (.tuple [Z,.v (.bool true),im 0]),h):=by
 obtain⟨h1,h2,h3,h4⟩:=fA hx hy
 obtain⟨h5,h6⟩:=hz.hold
 have ef:bA 0 0 0 [.agg [au x,au y],au z]=true:=by simp[bA,aV,h3,h4,h6]
 obtain⟨k,s,xs,e1,-⟩:=h1.form
 rw[e1] at h1
 rcases BJ k s xs (au y) (au z) rows owners who h1 h2 h5 hwl with⟨e,q,c⟩|⟨l,q,ql,c⟩
 ·rw[<-e1] at c
  exact .inl ⟨e,q,aF (L:=L6) (args':=[.agg [au x,au y],au z]) rfl rfl ef (c _) rfl rfl⟩
 ·rw[<-e1] at c
  refine .inr ⟨l,q,ql,.list .held 1 (ints l),⟨_,_,rfl,fun _=>rfl⟩,aF (L:=L6) (args':=[.agg [au x,au y],au z]) rfl rfl ef (c _) ?_ ?_⟩
  ·rfl
  ·rw[aV,bA,aV,fJ];rfl
theorem rW{rows:List (List Int)}{owners who:List Int}(hp:bC rows owners=0)(hw:cS (-1) who=true):(bJ rows owners who).2.2=0:=by
 unfold bJ
 rw[if_neg (by rw[hp];simp),hw]
 simp only[Bool.not_true,Bool.false_eq_true,if_false]
 split<;>rfl
def dG(ep:Int)(X Y C S W L N:AV):List AV:=[im ep,X,Y,C,S,W,L,N]
abbrev nl:AV:= .list .nil 0 []
theorem Nc:bF Tryz.prog 27=some 4:=kZq
theorem Tr:bF Tryz.prog 29=some 1:=kZq
theorem Ts:bF Tryz.prog 36=some 1:=kZq
theorem Tt:∃i,Tryz.prog.info? 85=some i/\i.size=4/\i.bytes<=64/\(i.zero.map fun z=>z.cells.size)=some 4:=by
 have h:(match Tryz.prog.info? 85 with|some i=>Nat.beq i.size 4&&Nat.ble i.bytes 64&&decide ((i.zero.map fun z=>z.cells.size)=some 4) |none=>false)=true:=kZq
 cases hi:Tryz.prog.info? 85 with
 |none=>rw[hi] at h;cases h
 |some i=>
  rw[hi] at h
  simp only[Bool.and_eq_true,decide_eq_true_eq] at h
  exact⟨i,rfl,Nat.eq_of_beq_eq_true h.1.1,Nat.le_of_ble_eq_true h.1.2,h.2⟩
theorem Sc(p:Pr):aN Tryz.prog 29 1 [(0,.agg (aq p))]=some (.list .tight 4 [aq p]):=kZq
theorem Tu{H:ae}{k:Tok}{n0 sz:Nat}{l:List Pr}{p:Pr}(hl:l.length<1000000)(hs:sz=4∨(l=[]/\k= .nil))(hk:bG n0 H k):
 bP Tryz.prog H #[29,29] (.list k sz (eR l)) (.list .tight 4 [aq p])=some (.list (.free H.tn) 4 (eR (l++[p])),H.app k):=by
 have:=apT (T:=29) (E:=85) (n:=4) (H:=H) (k:=k) (n0:=n0) (sz:=sz) (es:=eR l) (r:=aq p) Tryz.underlying29 Tt (by omega) (by rw[mX];omega) (hs.imp_right fun q=>⟨by rw[q.1];rfl,q.2⟩) hk
 rw[this];unfold eR;rw[List.map_append];rfl
structure TI(h H:ae)(X Y:AV)(T:List AV)(t:Tok):Prop where
 ext:Ext h H
 ok:aZ H=true
 can:bG h.tn H t
 pb:H.boxes[h.boxes.length]?=some [X,Y]
 tb:H.boxes[h.boxes.length+1]?=some T
section
variable {h H:ae} {X Y:AV} {T:List AV} {t:Tok}
theorem TI.app(b:TI h H X Y T t):TI h (H.app t) X Y T (.free H.tn):=by
 have gr:=Grown.one b.can b.ok b.ext.tn
 exact⟨gr.ext b.ext (Nat.le_refl _),gr.ok,gr.can,by rw[aT];exact b.pb,by rw[aT];exact b.tb⟩
theorem TI.push(b:TI h H X Y T t)(cs:List AV):TI h (H.push cs) X Y T t:=⟨b.ext.trans (.push _ _),b.ok,by rw[ij];exact b.can,aj b.pb,aj b.tb⟩
theorem TI.put(b:TI h H X Y T t)(T2:List AV):TI h (H.put (h.boxes.length+1) T2) X Y T2 t:=by
 have hl:=(List.getElem?_eq_some_iff.1 b.tb).1
 exact⟨b.ext.bZ (by omega) _,b.ok,by rw[jd];exact b.can,by rw[av (by omega)];exact b.pb,aS hl⟩
theorem TI.nil(b:TI h H X Y T t):TI h H X Y T .nil:=⟨b.ext,b.ok,.inl rfl,b.pb,b.tb⟩
end
section
variable {H:ae} {b:Nat} {ep:Int} {X Y C S W L N x:AV}
theorem stS(hb:H.boxes[b]?=some (dG ep X Y C S W L N))(hx:x.aC=some [x]):aA Tryz.prog H 36 (.ptr (.box b) 4) x=some (H.put b (dG ep X Y C x W L N)):=
 aW (off:=4) (cs:=dG ep X Y C S W L N) (xs:=[x]) hx Ts hb rfl (Nat.le_of_ble_eq_true rfl)
theorem RL.Uu{x:AV}{l:List (List Int)}(h:RL x l):x.aC=some [x]:=by obtain⟨k,s,xs,rfl,-⟩:=h.form;rfl
theorem PL.Uu{x:AV}{l:List Pr}(h:PL x l):x.aC=some [x]:=by obtain⟨k,s,rfl,-⟩:=h;rfl
theorem IL.Uu{x:AV}{l:List Int}(h:IL x l):x.aC=some [x]:=by obtain⟨k,s,rfl,-⟩:=h;rfl
end
end Go.Proofs.YtnfciiiohoafaaaGreatDoor
end
