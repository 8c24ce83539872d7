/-
  The engine, part 31: arguments of recursive types: a set of types, each made of others of the set.
-/
import Derived.Test.YtnfciiiohoafaaaGreatDoorQR
import Derived.Test.YtnfciiiohoafaaaGreatDoorQE
import Derived.LaidMore
import Derived.MakeChecks
import Derived.Stop.LaidErr
import Derived.Stop.Joined
import Derived.Lib.LaidTab
import Derived.Test.YtnfciiiohoafaaaGreatDoorRows
set_option maxHeartbeats 64000000
set_option maxRecDepth 100000
set_option linter.unusedSimpArgs false
set_option linter.unusedVariables false
set_option linter.constructorNameAsVariable false
section
namespace Go.Proofs.YtnfciiiohoafaaaGreatDoor
open Go.AE Go.NT
theorem Ng:Tryz.f27.results.toList=[.tmp 4,.tmp 5]:=kZq
structure Lc(rows:List (List Int))(owners aa:List Int)(sh:List (Int × Int))(who:List Int)(l:List Pr)(nn:List Int)(X Y C S W L N:AV):Prop where
 x:RL X rows
 y:IL Y owners
 c:IL C aa
 s:SL S sh
 w:IL W who
 p:PL L l
 n:IL N nn
 wl:who.length<=16
 nl:nn.length=2 * who.length
 sl:sh.length<=1000
 inn:∀p∈sh,0<=p.1/\p.1<owners.length
 cl:aa.length<=1000000
 ll:l.length<=1000000
def rX(rows:List (List Int))(owners:List Int)(ep:Int)(aa:List Int)(sh:List (Int × Int))(who:List Int)(l:List Pr)(nn:List Int)(text:List UInt8)(i:Nat):Int × Int:=
 fN rows owners ep aa text l (at0 who i) (ofF owners [at0 who i] sh) (at0 nn (2 * i)) (at0 nn (2 * i+1))
def iT(rows:List (List Int))(owners:List Int)(ep:Int)(aa:List Int)(sh:List (Int × Int))(who:List Int)(l:List Pr)(nn:List Int)(text:List UInt8):List Int:=
 (List.range who.length).map fun i=>(rX rows owners ep aa sh who l nn text i).1
structure TB(h H:ae)(T:List AV)(t:Tok):Prop where
 ext:Ext h H
 ok:aZ H=true
 can:bG h.tn H t
 tb:H.boxes[h.boxes.length]?=some T
section
variable {h H:ae} {T:List AV} {t:Tok}
theorem TB.app(b:TB h H T t):TB h (H.app t) T (.free H.tn):=by
 have gr:=Grown.one b.can b.ok b.ext.tn
 exact⟨gr.ext b.ext (Nat.le_refl _),gr.ok,gr.can,by rw[aT];exact b.tb⟩
theorem TB.push(b:TB h H T t)(cs:List AV):TB h (H.push cs) T t:=⟨b.ext.trans (.push _ _),b.ok,by rw[ij];exact b.can,aj b.tb⟩
theorem TB.start(hok:aZ h=true)(T:List AV):TB h (h.push T) T .nil:=⟨.push _ _,hok,.inl rfl,ak _ _⟩
end
theorem Sd{H:ae}{b:Nat}{ep:Int}{X Y C S W L N:AV}(hb:H.boxes[b]?=some (dG ep X Y C S W L N)):ai Tryz.prog Gt H 27 (.ptr (.box b) 0)=some (.agg (cI ep X Y C)):=by
 rw[cP kZq Nc hb (Nat.le_of_ble_eq_true rfl)];rfl
theorem Se{H:ae}{b:Nat}{ep:Int}{X Y C S W L N:AV}(hb:H.boxes[b]?=some (dG ep X Y C S W L N)):ai Tryz.prog Gt H 25 (.ptr (.box b) 1)=some (.agg [X,Y]):=by
 rw[cP G9 (by kernel_rfl:bF Tryz.prog 25=some 2) hb (Nat.le_of_ble_eq_true rfl)];rfl
theorem Nh(h:ae)(hok:aZ h=true)(ep:Int)(X Y C S W L N Tx:AV)(rows:List (List Int))(owners aa:List Int)(sh:List (Int × Int))(who:List Int)(l:List Pr)(nn:List Int)(text:List UInt8)
 (ht:Lc rows owners aa sh who l nn X Y C S W L N) (hx:BL Tx text) (hz:∀i<who.length,(rX rows owners ep aa sh who l nn text i).2=0):
 ∃r h',W6.call 27 [.agg (dG ep X Y C S W L N),Tx] h=some (r,h')/\Ext h h'/\∃Z,r= .ret (.tuple [Z,.v (.bool true)])/\IL Z (iT rows owners ep aa sh who l nn text):=by
 have bx:=pI (ep:=ep) ht.x ht.y ht.c ht.s ht.w ht.p ht.n
 have kT:=ah.mk (TB.start hok (dG ep X Y C S W L N))
 have l1:ai Tryz.prog Gt (h.push (dG ep X Y C S W L N)) 23 (.ptr (.box h.boxes.length) 5)=some W:=aQ mo kT.out.tb rfl
 have lnW:=ht.w.cH
 have kt:=ah.mk (And.intro ht (And.intro hx (And.intro hz hok)))
 have hwl:=ht.wl
 have hnl:=ht.nl
 have hpk:∀k<who.length,(iT rows owners ep aa sh who l nn text)[k]?=some (rX rows owners ep aa sh who l nn text k).1:=fun k hk=>by
  unfold iT;rw[List.getElem?_map,List.getElem?_range hk];rfl
 have hpl:(iT rows owners ep aa sh who l nn text).length=who.length:=by unfold iT;simp
 have kpk:=ah.mk (And.intro hpk hpl)
 clear ht hx hz hok hpk hpl
 obtain⟨H0,hH0⟩:∃H0,h.push (dG ep X Y C S W L N)=H0:=⟨_,rfl⟩
 rw[hH0] at kT l1
 refine aL rfl Tryz.func27 rfl ?_
 repeat' (first|simp(maxSteps:=999999) (disch:=first|exact dZ|fail) only[gW,reduceIte,Nat.reduceEqDiff,beq_self_eq_true,Ng,aw,mw,hH0, *] | (refine dX ?_ ?_<;>(intro _;try omega)))
 refine Run.gen fun e0 he0 hd0 hp0 hr0=>?_
 have f1:e0.get 1=Tx:=by rw[he0];exact gS
 have f2:e0.get 2= .ptr (.box h.boxes.length) 0:=by rw[he0];exact gS
 have f4:e0.get 4= .list .nil 0 []:=by rw[he0];exact gS
 have f11:e0.get 11=W:=by rw[he0];exact gS
 have f12:e0.get 12= .v (.int .i64 (who.length:Nat)):=by rw[he0];exact gS
 have f13:e0.get 13= .v (.int .i64 (0:Nat)):=by rw[he0];exact gR
 have fd:e0.defers=[]:=by rw[hd0];exact gS
 clear he0 hd0 hp0 hr0 l1 lnW bx hH0
 refine aD (fun m e H=>∃(i:Nat) (t:Tok) (sz:Nat),i<=who.length/\m=who.length - i/\ah (TB h H (dG ep X Y C S W L N) t)/\ah (sz=1∨((iT rows owners ep aa sh who l nn text).take i=[]/\t= .nil))/\
  e.get 1=Tx/\e.get 2= .ptr (.box h.boxes.length) 0/\e.get 4= .list t sz (ints ((iT rows owners ep aa sh who l nn text).take i))/\e.get 11=W/\e.get 12= .v (.int .i64 (who.length:Nat))/\e.get 13= .v (.int .i64 (i:Nat))/\e.defers=[]) ?_ who.length _ _ ?_
 rotate_left 1
 ·exact⟨0,.nil,0,Nat.zero_le _,rfl,kT,⟨.inr ⟨rfl,rfl⟩⟩,f1,f2,f4,f11,f12,f13,fd⟩
 clear f1 f2 f4 f11 f12 f13 fd kT H0
 rintro m e H ⟨i,t,sz,hi,rfl,kT,ksz,g1,g2,g4,g11,g12,g13,hd⟩
 by_cases hlt:i<who.length
 ·have ixW:=kt.out.1.w.ix hlt
  have ldW:=ldi (H:=H) (s:=1) hlt
  have ixA:=kt.out.1.n.ix (i:=2 * i) (by omega)
  have ixB:=kt.out.1.n.ix (i:=2 * i+1) (by omega)
  have ldA:∀K:ae,ai Tryz.prog Gt K 3 (.elem 1 (ints nn) (2 * i) 0)=some (.v (.int .i64 (at0 nn (2 * i)))):=fun K=>ldi (by omega)
  have ldB:∀K:ae,ai Tryz.prog Gt K 3 (.elem 1 (ints nn) (2 * i+1) 0)=some (.v (.int .i64 (at0 nn (2 * i+1)))):=fun K=>ldi (by omega)
  rw[show((2 * i:Nat):Int)=2 * (i:Int) by omega] at ixA
  rw[show((2 * i+1:Nat):Int)=2 * (i:Int)+1 by omega] at ixB
  have hwA:IntKind.i64.wrap (2 * (i:Int))=2 * (i:Int):=bT (by omega) (by omega)
  have hwB:IntKind.i64.wrap (2 * (i:Int)+1)=2 * (i:Int)+1:=bT (by omega) (by omega)
  have lN:ai Tryz.prog Gt H 23 (.ptr (.box h.boxes.length) 7)=some N:=aQ mo kT.out.tb rfl
  have lL:ai Tryz.prog Gt H 29 (.ptr (.box h.boxes.length) 6)=some L:=aQ KP kT.out.tb rfl
  have lS:ai Tryz.prog Gt H 36 (.ptr (.box h.boxes.length) 4)=some S:=aQ M9 kT.out.tb rfl
  have lK:=Sd kT.out.tb
  have lP:=Se kT.out.tb
  have blw:=pQ (at0 who i)
  obtain⟨U,hU,c1⟩:=of6 X Y S (.list .tight 1 (ints [at0 who i])) rows owners [at0 who i] sh kt.out.1.x kt.out.1.y kt.out.1.s ⟨_,_,rfl,fun _=>rfl⟩ kt.out.1.sl (by simp) kt.out.1.inn
  have hUl:(ofF owners [at0 who i] sh).length<=1000000:=by have:=zM owners [at0 who i] sh;have:=kt.out.1.sl;simp at *;omega
  have c2:=NX ep X Y C Tx L rows owners aa text l kt.out.1.x kt.out.1.y kt.out.1.c kt.out.2.1 kt.out.1.p kt.out.1.cl kt.out.1.ll U _ (at0 who i) (at0 nn (2 * i)) (at0 nn (2 * i+1)) hU hUl
  have hpi:=kpk.out.1 i hlt
  have hzi:=kt.out.2.2.1 i hlt
  change ∀h,W6.call 20 _ h=some (.ret (.tuple [im (rX rows owners ep aa sh who l nn text i).1,im (rX rows owners ep aa sh who l nn text i).2]),h) at c2
  rw[hzi] at c2
  have ktk:=ah.mk (a9 hpi)
  clear hpi hzi hU hUl
  generalize (rX rows owners ep aa sh who l nn text i).1=zi at *
  have ap:=wI (x:=zi) (es:=(iT rows owners ep aa sh who l nn text).take i) (by rw[List.length_take];omega) ksz.out kT.out.can
  rw[<-ktk.out] at ap
  have bl:=pQ zi
  have kT2:=ah.mk kT.out.app
  have hltI:(i:Int)<(who.length:Int):=by omega
  clear kT
  unfold im at *
  change ∀h,W6.call 80 [.agg [X,Y],S,.list .tight 1 [[.v (.int .i64 (at0 who i))]]] h=_ at c1
  generalize at0 who i=wi at *
  generalize at0 nn (2 * i)=nA at *
  generalize at0 nn (2 * i+1)=nB at *
  repeat' (first|simp(maxSteps:=999999) (disch:=first|exact dZ|fail) only[gW,reduceIte,Nat.reduceEqDiff,beq_self_eq_true,Ng,mw,dS, *] | (refine dX ?_ ?_<;>(intro _;try omega)))
  refine bf rV kZq ?_
  repeat' (first|simp(maxSteps:=999999) (disch:=first|exact dZ|fail) only[gW,reduceIte,Nat.reduceEqDiff,beq_self_eq_true,Ng,mw,dS, *] | (refine dX ?_ ?_<;>(intro _;try omega)))
  exact⟨who.length - (i+1),by omega,i+1,_,1,by omega,rfl,(by first|exact kT2|trivial),⟨.inl rfl⟩,by simp⟩
 have hie:i=who.length:=by omega
 subst hie
 rw[List.take_of_length_le (by rw[kpk.out.2];exact Nat.le_refl _)] at g4 ksz
 clear hi hlt
 repeat' (first|simp(maxSteps:=999999) (disch:=first|exact dZ|fail) only[gW,reduceIte,Nat.reduceEqDiff,beq_self_eq_true,Ng, *] | (refine dX ?_ ?_<;>(intro _;try omega)))
 exact⟨_,_,rfl,kT.out.ext,_,rfl,t,sz,rfl,fun q=>ksz.out.resolve_right fun z=>q z.1⟩
theorem Sf:(ej Tryz.prog 50).bind AV.aC=some [im 0,im 0]:=kZq
theorem P1:bF Tryz.prog 50=some 2:=kZq
theorem Tv:cZ Tryz.prog 50=some true:=kZq
theorem Sh{H:ae}{b:Nat}{x y:Int}(hb:H.boxes[b]?=some [im x,im y]):ai Tryz.prog Gt H 50 (.ptr (.box b) 0)=some (.agg [im x,im y]):=by
 rw[cP Tv P1 hb (Nat.le_refl 2)];rfl
structure nM(who N:List Int)(l:List Pr):Prop where
 len:l.length=who.length
 nl:N.length=2 * who.length
 ok:∀x∈N,okF x
 at_:∀i<who.length,∃no:Int,0<=no/\no<4096/\l[i]?=some ⟨at0 who i,no,(aY Gn (at0 N (2 * i)):Nat),(aY Gn (at0 N (2 * i+1)):Nat)⟩
theorem nM.ok1{who N:List Int}{l:List Pr}(c:nM who N l){i:Nat}(h:i<who.length):okF (at0 N (2 * i))/\okF (at0 N (2 * i+1)):=⟨c.ok _ (zC (by rw[c.nl];omega)),c.ok _ (zC (by rw[c.nl];omega))⟩
theorem B2(who N:List Int)(h1:N.length=2 * who.length)(h2:∀x∈N,okF x):nM who N (eJ who N):=by
 refine⟨qK _ _,h1,h2,fun i hi=>⟨at0 who i%7,Int.emod_nonneg _ (by decide),?_,?_⟩⟩
 ·have:=Int.emod_lt_of_pos (at0 who i) (show(0:Int)<7 by decide);omega
 ·unfold eJ;rw[List.getElem?_map,List.getElem?_range hi];rfl
theorem nM.dj{who N:List Int}{l:List Pr}(c:nM who N l):l.map Pr.ag=who:=by
 refine List.ext_getElem? fun i=>?_
 rcases Nat.lt_or_ge i who.length with h|h
 ·obtain⟨no,-,-,q⟩:=c.at_ i h
  rw[List.getElem?_map,q,Option.map_some,bN h,List.getElem?_eq_getElem h]
 ·rw[List.getElem?_eq_none (by rw[List.length_map,c.len];exact h),List.getElem?_eq_none h]
theorem uo(n:Int):aX ((aY Gn n:Nat):Int)=true:=by
 have h:=iq gZ n
 unfold aX
 rw[Int.toNat_natCast,h,Bool.and_true,decide_eq_true_eq]
 have:=(elem_iff.1 h).1
 omega
theorem nV:∀{l:List Pr} {last:Int},cS last (l.map Pr.ag)=true->(∀p∈l,0<=p.no/\p.no<4096/\aX p.d=true/\aX p.e=true)->dy last l=true:=by
 intro l
 induction l with
 |nil=>intro _ _ _;rfl
 |cons p l ih=>
  intro last h1 h2
  rw[List.map_cons,cS] at h1
  simp only[Bool.and_eq_true,decide_eq_true_eq] at h1
  obtain⟨q1,q2,q3,q4⟩:=h2 p List.mem_cons_self
  rw[NT.dy,ih h1.2 fun q hq=>h2 q (List.mem_cons_of_mem _ hq),q3,q4]
  simp only[Bool.and_true,Bool.and_eq_true,decide_eq_true_eq]
  omega
theorem nM.mem{who N:List Int}{l:List Pr}(c:nM who N l){p:Pr}(hp:p∈l):∃i,∃(_:i<who.length) (no:Int),0<=no/\no<4096/\l[i]?=some p/\p=⟨at0 who i,no,(aY Gn (at0 N (2 * i)):Nat),(aY Gn (at0 N (2 * i+1)):Nat)⟩:=by
 obtain⟨i,hi⟩:=List.getElem?_of_mem hp
 have hil:=(List.getElem?_eq_some_iff.1 hi).1
 rw[c.len] at hil
 obtain⟨no,n1,n2,q⟩:=c.at_ i hil
 rw[hi] at q
 injection q with q
 exact⟨i,hil,no,n1,n2,hi,q⟩
theorem nM.E6{who N:List Int}{l:List Pr}(c:nM who N l)(hw:cS (-1) who=true):dy (-1) l=true:=by
 refine nV (by rw[c.dj];exact hw) fun p hp=>?_
 obtain⟨i,hi,no,n1,n2,-,rfl⟩:=c.mem hp
 exact⟨n1,n2,uo _,uo _⟩
def ixW(who:List Int)(k:Int):Nat:=who.idxOf k
theorem Lf{who:List Int}(hn:who.Nodup){i:Nat}(h:i<who.length):ixW who (at0 who i)=i:=by
 unfold ixW
 rw[bN h]
 exact hn.idxOf_getElem i h
theorem nM.Ty{who N:List Int}{l:List Pr}(c:nM who N l)(hw:cS (-1) who=true):O1 l (fun k=>at0 N (2 * ixW who k)) (fun k=>at0 N (2 * ixW who k+1)):=by
 intro p hp
 obtain⟨i,hi,no,n1,n2,-,rfl⟩:=c.mem hp
 simp only[Lf (nH hw).2 hi]
 exact⟨trivial,trivial⟩
theorem P2{rows:List (List Int)}{owners s:List Int}(hl:rows.length=owners.length)(k:Int):ofF owners [k] (fV rows s)=gK owners (bO rows s) k:=by
 unfold ofF gK cT fV
 rw[hl]
 have e:∀(L:List Nat),(∀i∈L,i<rows.length)->(L.map fun i=>(((i:Nat):Int),oa (rows.getD i []) s)).flatMap (mc owners [k])=(L.filter fun i=>decide (at0 owners i=k)).map fun i=>(((i:Nat):Int),at0 (bO rows s) i):=by
  intro L
  induction L with
  |nil=>intro _;rfl
  |cons i L ih=>
   intro hL
   have hi:=hL i List.mem_cons_self
   rw[List.map_cons,List.flatMap_cons,ih fun j hj=>hL j (List.mem_cons_of_mem _ hj),List.filter_cons]
   unfold mc
   rw[Int.toNat_natCast]
   by_cases q:at0 owners i=k
   ·rw[if_pos (by simp[q]),List.filter_cons_of_pos (by simp[q]),List.map_cons,List.map_cons,sN hi];rfl
   ·rw[if_neg (by simp[q]),List.filter_cons_of_neg (by simp[Ne.symm q])];rfl
 exact e _ fun i hi=>by rw[hl];exact List.mem_range.1 hi
section
variable {rows:List (List Int)} {owners who N s y:List Int} {l:List Pr} {text:List UInt8} {ep:Int}
theorem nN{aa:List Int}(c:nM who N l)(ha:bJ rows owners who=(y,true,0))(hne:who≠[])(hwl:who.length<=64)(ht:text.length<=65536)(he:0<=ep/\ep<=64)(hc:aa.length=aK rows)(hce:aa.all aX=true):cd rows owners ep aa text l=0:=by
 obtain⟨hp,hw,-⟩:=e7 ha
 unfold cd
 rw[if_neg (by simp[hp]),if_neg (by simp[hc,hce,he.1,he.2]),if_neg (by omega),if_neg (by rw[c.len];omega),if_neg (by rw[c.E6 hw];simp),c.dj,ha]
 have:who.length≠0:=fun q=>hne (List.length_eq_zero_iff.1 q)
 simp[c.len,this]
theorem eE(hs:s.length=aK rows):(ax s).length=aK rows/\(ax s).all aX=true:=⟨by unfold ax;rw[List.length_map,hs],zx⟩
theorem sV(c:nM who N l)(ha:bJ rows owners who=(y,true,0))(hne:who≠[])(hwl:who.length<=64)(ht:text.length<=65536)(he:0<=ep/\ep<=64)(hs:s.length=aK rows){i:Nat}(hi:i<who.length):
 fN rows owners ep (ax s) text l (at0 who i) (gK owners (bO rows s) (at0 who i)) (at0 N (2 * i)) (at0 N (2 * i+1))=
  (fD rows owners (ax s) text l (at0 who i) (at0 N (2 * i)) (at0 N (2 * i+1)) (gK owners (bO rows s) (at0 who i)),0):=by
 obtain⟨hp,hw,-⟩:=e7 ha
 unfold fN
 rw[if_neg (by rw[nN c ha hne hwl ht he (eE hs).1 (eE hs).2];simp)]
 obtain⟨no,-,-,q⟩:=c.at_ i hi
 have hm:=List.mem_of_getElem? q
 exact MA hp hs (c.E6 hw) hm rfl rfl (c.ok1 hi).1 (c.ok1 hi).2
theorem HL(c:nM who N l)(ha:bJ rows owners who=(y,true,0))(hne:who≠[])(hwl:who.length<=64)(ht:text.length<=65536)(he:0<=ep/\ep<=64)(hs:s.length=aK rows){i:Nat}(hi:i<who.length){z:Int}(hz:okF z):
 ia rows owners ep (ax s) text l (at0 who i) z=
  (decide (z=fD rows owners (ax s) text l (at0 who i) (at0 N (2 * i)) (at0 N (2 * i+1)) (gK owners (bO rows s) (at0 who i))),0):=by
 obtain⟨hp,hw,-⟩:=e7 ha
 unfold ia
 rw[if_neg (by rw[nN c ha hne hwl ht he (eE hs).1 (eE hs).2];simp)]
 obtain⟨no,-,-,q⟩:=c.at_ i hi
 have hm:=List.mem_of_getElem? q
 have hpo:=EA (c.E6 hw) hm
 unfold tG
 rw[hpo]
 simp only[iP.2 hz,Bool.not_true,Bool.false_eq_true,if_false]
 rw[JF hp hs rfl rfl hz]
theorem vY(c:nM who N l)(ha:bJ rows owners who=(y,true,0))(hs:s.length=aK rows):
 iO (at0 (ax s) 0) text ((aG (at0 (ax s) 0) text l:Nat):Int) (((List.range who.length).map fun i=>fD rows owners (ax s) text l (at0 who i) (at0 N (2 * i)) (at0 N (2 * i+1)) (gK owners (bO rows s) (at0 who i))).foldl cN 0)=true:=by
 obtain⟨hp,hw,-⟩:=e7 ha
 have hsg:=QU (text:=text) (l:=l) (by rw[c.dj];exact ha) hs (c.Ty hw)
 rw[c.dj] at hsg
 have e:(who.map fun k=>fD rows owners (ax s) text l k (at0 N (2 * ixW who k)) (at0 N (2 * ixW who k+1)) (gK owners (bO rows s) k))=(List.range who.length).map fun i=>fD rows owners (ax s) text l (at0 who i) (at0 N (2 * i)) (at0 N (2 * i+1)) (gK owners (bO rows s) (at0 who i)):=by
  refine List.ext_getElem? fun i=>?_
  rcases Nat.lt_or_ge i who.length with h|h
  ·have hx:=Lf (nH hw).2 h
   rw[List.getElem?_map,List.getElem?_map,List.getElem?_range h,List.getElem?_eq_getElem h,Option.map_some,Option.map_some]
   rw[bN h] at hx ⊢
   rw[hx]
  ·rw[List.getElem?_eq_none (by simpa using h),List.getElem?_eq_none (by simpa using h)]
 rw[e] at hsg
 exact hsg
end
def R3:List (List Int):=[[1,1],[1,2],[1,3]]
def O3:List Int:=[0,1,2]
def S2:List Int:=[10,4]
def txt:List UInt8:=[116,101,120,116]
def pA:Pr:=⟨0,0,(aY Gn 5:Nat),(aY Gn 6:Nat)⟩
def pB:Pr:=⟨2,2,(aY Gn 7:Nat),(aY Gn 8:Nat)⟩
theorem BR:bJ R3 O3 [0,2]=([536870896,0,536870894],true,0):=by decide+kernel
theorem Tz:bJ R3 O3 [0]=([],false,0):=by decide+kernel
theorem N2:bC R3 O3=0:=by decide+kernel
theorem Sk:mb R3 O3 10 [4]=0:=by decide+kernel
theorem P3:fV R3 S2=[(0,14),(1,18),(2,22)]:=by decide+kernel
theorem Lg:gK O3 (bO R3 S2) 0=[(0,14)]:=by decide+kernel
theorem N3:gK O3 (bO R3 S2) 2=[(2,22)]:=by decide+kernel
theorem yg:nM [0,2] [5,6,7,8] [pA,pB]:=by
 refine⟨rfl,rfl,fun x hx=>?_,fun i hi=>?_⟩
 ·simp only[List.mem_cons,List.not_mem_nil,or_false] at hx
  rcases hx with rfl|rfl|rfl|rfl<;>exact⟨by decide,by decide⟩
 ·match i,hi with
  |0,_=>exact⟨0,by decide,by decide,rfl⟩
  |1,_=>exact⟨2,by decide,by decide,rfl⟩
  |i+2,hi=>simp at hi;omega
abbrev C3:List Int:=ax S2
abbrev b3(k:Int):Int:=((dP (at0 C3 0) txt [pA,pB] k:Nat):Int)
abbrev ch3:Int:=((aG (at0 C3 0) txt [pA,pB]:Nat):Int)
theorem D1:cd R3 O3 0 C3 txt [pA,pB]=0:=nN yg BR (by simp) (by simp) (by decide) (by decide) (eE (rows:=R3) (s:=S2) rfl).1 (eE (rows:=R3) (s:=S2) rfl).2
theorem E7:cd R3 O3 0 C3 txt []=420:=by
 unfold cd
 rw[if_neg (by rw[N2];simp),if_neg (by rw[(eE (rows:=R3) (s:=S2) rfl).1,(eE (rows:=R3) (s:=S2) rfl).2];decide),if_neg (by decide),if_neg (by decide),if_neg (by decide)]
 split
 simp
theorem E8:cd R3 O3 0 C3 txt [pA]=420:=by
 have hw:dy (-1) [pA]=true:=nV (by decide) fun p hp=>by
  rw[List.mem_singleton] at hp;subst hp
  exact⟨by decide,by decide,uo _,uo _⟩
 unfold cd
 rw[if_neg (by rw[N2];simp),if_neg (by rw[(eE (rows:=R3) (s:=S2) rfl).1,(eE (rows:=R3) (s:=S2) rfl).2];decide),if_neg (by decide),if_neg (by decide),if_neg (by rw[hw];simp)]
 have e:[pA].map Pr.ag=[0]:=rfl
 rw[e,Tz]
 simp
def x3:Int:=cN (cN 5 (cq 6 (b3 0))) (cq ch3 21)
def y3:Int:=cN (cN 7 (cq 8 (b3 2))) (cq ch3 1073741778)
theorem B4:aM R3 O3 [pA,pB]=[536870896,0,536870894]:=by
 unfold aM
 have e:[pA,pB].map Pr.ag=[0,2]:=rfl
 rw[e,BR]
theorem D2:fD R3 O3 C3 txt [pA,pB] 0 5 6 [(0,14)]=x3:=by
 unfold fD x3
 rw[B4]
 have e:fh [536870896,0,536870894] [(0,14)]=21:=by decide+kernel
 rw[e]
theorem Lh:fD R3 O3 C3 txt [pA,pB] 2 7 8 [(2,22)]=y3:=by
 unfold fD y3
 rw[B4]
 have e:fh [536870896,0,536870894] [(2,22)]=1073741778:=by decide+kernel
 rw[e]
theorem P4:fN R3 O3 0 C3 txt [pA,pB] 0 [(0,14)] 5 6=(x3,0):=by
 have h:=sV (i:=0) (text:=txt) (ep:=0) (s:=S2) yg BR (by simp) (by simp) (by decide) (by decide) rfl (by decide)
 change fN R3 O3 0 C3 txt [pA,pB] 0 (gK O3 (bO R3 S2) 0) 5 6=(fD R3 O3 C3 txt [pA,pB] 0 5 6 (gK O3 (bO R3 S2) 0),0) at h
 rw[Lg,D2] at h
 exact h
theorem P5:fN R3 O3 0 C3 txt [pA,pB] 2 [(2,22)] 7 8=(y3,0):=by
 have h:=sV (i:=1) (text:=txt) (ep:=0) (s:=S2) yg BR (by simp) (by simp) (by decide) (by decide) rfl (by decide)
 change fN R3 O3 0 C3 txt [pA,pB] 2 (gK O3 (bO R3 S2) 2) 7 8=(fD R3 O3 C3 txt [pA,pB] 2 7 8 (gK O3 (bO R3 S2) 2),0) at h
 rw[N3,Lh] at h
 exact h
theorem P6:fN R3 O3 0 C3 txt [pA,pB] 1 [(1,18)] 7 8=(0,1):=by
 unfold fN rN
 rw[if_neg (by rw[D1];simp)]
 have e:gl [pA,pB] 1=none:=rfl
 rw[e]
theorem P7:ia R3 O3 0 C3 txt [pA,pB] 0 1073741789=(false,1):=by
 unfold ia tG
 rw[if_neg (by rw[D1];simp)]
 have e:gl [pA,pB] 0=some pA:=rfl
 rw[e]
 rfl
theorem Li:okF x3:=oI _ _
theorem Sl:ia R3 O3 0 C3 txt [pA,pB] 0 x3=(true,0):=by
 have h:=HL (i:=0) (text:=txt) (ep:=0) (s:=S2) yg BR (by simp) (by simp) (by decide) (by decide) rfl (by decide) Li
 change ia R3 O3 0 C3 txt [pA,pB] 0 x3=(decide (x3=fD R3 O3 C3 txt [pA,pB] 0 5 6 (gK O3 (bO R3 S2) 0)),0) at h
 rw[Lg,D2] at h
 rw[h];simp
def HM:Int:=cN (cq (b3 0) 6) (cN (cq (b3 2) 8) (cN 12 (cq ch3 10)))
theorem Sm:cN x3 y3=HM:=by
 unfold x3 y3 HM
 generalize b3 0=a
 generalize b3 2=b
 generalize ch3=c
 simp only[jU,fR,Qi]
 omega
theorem Ni:iO (at0 C3 0) txt ch3 HM=true:=by
 have h:=vY (text:=txt) (s:=S2) yg BR rfl
 change iO (at0 C3 0) txt ch3 (cN (cN 0 (fD R3 O3 C3 txt [pA,pB] 0 5 6 (gK O3 (bO R3 S2) 0))) (fD R3 O3 C3 txt [pA,pB] 2 7 8 (gK O3 (bO R3 S2) 2)))=true at h
 rw[Lg,N3,D2,Lh] at h
 have e:cN 0 x3=x3:=by rw[jU,Int.zero_add];exact Int.emod_eq_of_lt Li.1 Li.2
 rw[e,Sm] at h
 exact h
theorem P8:aX ((dA (at0 C3 0) txt [pA,pB]:Nat):Int)=true:=by
 have hw:dy (-1) [pA,pB]=true:=yg.E6 (by decide)
 have h:=vQ (c0:=at0 C3 0) (text:=txt) hw
 unfold aX
 rw[Int.toNat_natCast,h,Bool.and_true,decide_eq_true_eq]
 have:=(elem_iff.1 h).1
 omega
theorem Lj:Tryz.f15.results.toList=[.tmp 0]:=kZq
theorem P9(a b:Int):aN Tryz.prog 23 2 [(0,.v (.int .i64 a)),(1,.v (.int .i64 b))]=some (.list .tight 1 (ints [a,b])):=kZq
def X3:AV:= .list .tight 1 [[.list .tight 1 (ints [1,1])],[.list .tight 1 (ints [1,2])],[.list .tight 1 (ints [1,3])]]
def Y3:AV:= .list .tight 1 (ints [0,1,2])
def Z3:AV:= .list .tight 1 (ints [4])
def T3:AV:= .list .held 1 (u8s txt)
theorem rl3:RL X3 R3:=by
 refine⟨.tight,1,[.list .tight 1 (ints [1,1]),.list .tight 1 (ints [1,2]),.list .tight 1 (ints [1,3])],rfl,fun _=>rfl,rfl,fun i a r ha hr=>?_⟩
 match i with
 |0=>injection ha with ha;injection hr with hr;subst ha;subst hr;exact⟨_,_,rfl,fun _=>rfl⟩
 |1=>injection ha with ha;injection hr with hr;subst ha;subst hr;exact⟨_,_,rfl,fun _=>rfl⟩
 |2=>injection ha with ha;injection hr with hr;subst ha;subst hr;exact⟨_,_,rfl,fun _=>rfl⟩
 |i+3=>simp at ha
theorem il3:IL Y3 O3:=⟨_,_,rfl,fun _=>rfl⟩
theorem bt3:BL T3 txt:=⟨_,_,rfl,fun _=>rfl⟩
theorem blT:aN Tryz.prog 28 4 [(0,.v (.int .u8 116)),(1,.v (.int .u8 101)),(2,.v (.int .u8 120)),(3,.v (.int .u8 116))]=some (.list .tight 1 (u8s txt)):=kZq
theorem B8(h:ae)(hok:aZ h=true)(es:List (List AV)):∃H5 H6,h.fresh 1 es=(.list (.free h.tn) 1 es,H5)/\fm Tryz.prog H5 28 28 (.list (.free h.tn) 1 es)=some (.list .held 1 es,H6)/\Ext h H6/\H6.boxes=h.boxes:=by
 have hal:alive {h with tn:=h.tn+1} h.tn=true:=by
  unfold aZ at hok
  unfold alive
  simp only[Bool.and_eq_true,decide_eq_true_eq,Bool.not_eq_true']
  refine⟨Nat.lt_succ_self _,?_⟩
  cases hc:h.dead.contains h.tn with
  |false=>rfl
  |true=>
   have:=List.all_eq_true.1 hok h.tn (by simpa using hc)
   simp at this
 have u28:=Tryz.underlying28
 have u5:Tryz.prog.underlying 5=some (.int .u8):=kZq
 refine⟨{h with tn:=h.tn+1},{h with tn:=h.tn+1,dead:=h.tn::h.dead},rfl,?_,?_,rfl⟩
 ·unfold fm
  rw[u28]
  simp only[u5,hal,and_self,if_true]
 ·refine⟨fun _ _ q=>q,fun _ _ q=>q,Nat.le_succ _,fun n hn q=>?_,fun ho=>?_⟩
  ·rcases List.mem_cons.1 q with q|q
   ·omega
   ·exact q
  ·unfold aZ at *
   rw[List.all_cons,Bool.and_eq_true]
   refine⟨by simp,List.all_eq_true.2 fun x hx=>?_⟩
   have:=List.all_eq_true.1 ho x hx
   simp at this ⊢
   omega
theorem So:fj Tryz.prog 25 [(0,X3),(1,Y3)]=some (.agg [X3,Y3]):=kZq
theorem Sp:aN Tryz.prog 22 3 [(0,.list .tight 1 (ints [1,1])),(1,.list .tight 1 (ints [1,2])),(2,.list .tight 1 (ints [1,3]))]=some X3:=kZq
theorem Sq:aN Tryz.prog 23 3 [(0,.v (.int .i64 0)),(1,.v (.int .i64 1)),(2,.v (.int .i64 2))]=some Y3:=kZq
theorem Sr:aN Tryz.prog 23 1 [(0,.v (.int .i64 4))]=some Z3:=kZq
theorem Qa(p q:Pr):aN Tryz.prog 29 2 [(0,.agg (aq p)),(1,.agg (aq q))]=some (.list .tight 4 (eR [p,q])):=kZq
theorem TA:(ej Tryz.prog 25).bind AV.aC=some [nl,nl]:=kZq
theorem TC:(ej Tryz.prog 27).bind AV.aC=some (cI 0 nl nl nl):=kZq
theorem TD{X Y C:AV}{rows:List (List Int)}{owners aa:List Int}(hx:RL X rows)(hy:IL Y owners)(hc:IL C aa):fj Tryz.prog 27 [(1,.agg [X,Y]),(2,C)]=some (.agg (cI 0 X Y C)):=by
 obtain⟨_,_,_,rfl,-⟩:=hx.form
 obtain⟨_,_,rfl,-⟩:=hy
 obtain⟨_,_,rfl,-⟩:=hc
 kernel_rfl
theorem TE(k:Tok)(a b c:Int × Int):ck Tryz.prog 36 (.list k 2 (bL [a,b,c])) none (some (.v (.int .i64 1))) none=some (.list (gO k false false 1) 2 (bL [a])):=kZq
theorem TF(k:Tok)(a b c:Int × Int):ck Tryz.prog 36 (.list k 2 (bL [a,b,c])) (some (.v (.int .i64 2))) none none=some (.list (gO k true false 1) 2 (bL [c])):=kZq
theorem TG(k:Tok)(a b c:Int × Int):ck Tryz.prog 36 (.list k 2 (bL [a,b,c])) (some (.v (.int .i64 1))) (some (.v (.int .i64 2))) none=some (.list (gO k false false 1) 2 (bL [b])):=kZq
theorem TH(a b:Int):fj Tryz.prog 50 [(0,im a),(1,im b)]=some (.agg [im a,im b]):=kZq
theorem Qb(h:ae)(hok:aZ h=true):∃r h',W6.call 15 [] h=some (r,h')/\Ext h h'/\r= .ret (.v (.bool true)):=by
 obtain⟨U,C,hU,hC,c1⟩:∃U C,SL U [(0,14),(1,18),(2,22)]/\IL C C3/\∀h,W6.call 44 [.agg [X3,Y3],im 10,Z3] h=some (.ret (.tuple [U,C,im 0]),h):=by
  rcases N1 X3 Y3 Z3 R3 O3 [4] 10 rl3 il3 ⟨_,_,rfl,fun _=>rfl⟩ (by decide) (by decide) with⟨z,-⟩|⟨-,U,C,z1,z2,z3⟩
  ·exact absurd Sk z
  ·exact⟨U,C,by have:=P3;unfold S2 at this;rw[this] at z1;exact z1,z2,z3⟩
 have c2:∀h,W6.call 45 [im 0,im 5,im 6] h=some (.ret (.tuple [.agg (aq pA),.v (.bool true)]),h):=K8 0 5 6 (by decide)
 have c3:∀h,W6.call 45 [im 2,im 7,im 8] h=some (.ret (.tuple [.agg (aq pB),.v (.bool true)]),h):=K8 2 7 8 (by decide)
 have hL2:PL (.list .tight 4 (eR [pA,pB])) [pA,pB]:=⟨_,_,rfl,fun _=>rfl⟩
 have hL1:PL (.list .tight 4 (eR [pA])) [pA]:=⟨_,_,rfl,fun _=>rfl⟩
 have hL0:PL nl []:=⟨_,_,rfl,fun q=>absurd rfl q⟩
 have hcl:C3.length<=1000000:=by decide
 obtain⟨Zb,hZb,c4⟩:∃Z,IL Z [b3 0,b3 2]/\∀h,W6.call 17 [.agg (cI 0 X3 Y3 C),T3,.list .tight 4 (eR [pA,pB])] h=some (.ret (.tuple [Z,im ((dA (at0 C3 0) txt [pA,pB]:Nat):Int),im ch3,im 0]),h):=by
  rcases E3 0 X3 Y3 C T3 _ R3 O3 C3 txt [pA,pB] rl3 il3 hC bt3 hL2 hcl (by decide) with⟨z,-⟩|⟨-,z⟩
  ·exact absurd D1 z
  ·exact z
 have c5:∀h,W6.call 17 [.agg (cI 0 X3 Y3 C),T3,nl] h=some (.ret (.tuple [nl,im 0,im 0,im 420]),h):=by
  rcases E3 0 X3 Y3 C T3 _ R3 O3 C3 txt [] rl3 il3 hC bt3 hL0 hcl (by decide) with⟨-,z⟩|⟨z,-⟩
  ·rw[E7] at z;exact z
  ·rw[E7] at z;exact absurd z (by decide)
 have c6:∀h,W6.call 17 [.agg (cI 0 X3 Y3 C),T3,.list .tight 4 (eR [pA])] h=some (.ret (.tuple [nl,im 0,im 0,im 420]),h):=by
  rcases E3 0 X3 Y3 C T3 _ R3 O3 C3 txt [pA] rl3 il3 hC bt3 hL1 hcl (by decide) with⟨-,z⟩|⟨z,-⟩
  ·rw[E8] at z;exact z
  ·rw[E8] at z;exact absurd z (by decide)
 obtain⟨k,s,rfl,hs⟩:=hU
 have hs2:s=2:=hs (by simp)
 subst hs2
 have mk:=fun(t:Tok) (l:List (Int × Int)) (n d f:Int) (hl:l.length<=1000000)=>NX 0 X3 Y3 C T3 _ R3 O3 C3 txt [pA,pB] rl3 il3 hC bt3 hL2 hcl (by decide) (.list t 2 (bL l)) l n d f ⟨_,_,rfl,fun _=>rfl⟩ hl
 have c7:=mk (gO k false false 1) [(0,14)] 0 5 6 (by decide)
 have c8:=mk (gO k true false 1) [(2,22)] 2 7 8 (by decide)
 have c9:=mk (gO k false false 1) [(1,18)] 1 7 8 (by decide)
 rw[P4] at c7
 rw[P5] at c8
 rw[P6] at c9
 have c10:=NY 0 X3 Y3 C T3 _ R3 O3 C3 txt [pA,pB] rl3 il3 hC bt3 hL2 hcl (by decide) 0 1073741789
 have c11:=NY 0 X3 Y3 C T3 _ R3 O3 C3 txt [pA,pB] rl3 il3 hC bt3 hL2 hcl (by decide) 0 x3
 rw[P7] at c10
 rw[Sl] at c11
 have m1:=PT (b3 0) 6
 have m2:=PT (b3 2) 8
 have m3:=PT ch3 10
 have m4:=K7 12 (cq ch3 10)
 have m5:=K7 (cq (b3 2) 8) (cN 12 (cq ch3 10))
 have m6:∀h,W6.call 28 [im (cq (b3 0) 6),im (cN (cq (b3 2) 8) (cN 12 (cq ch3 10)))] h=some (.ret (im HM),h):=K7 (cq (b3 0) 6) (cN (cq (b3 2) 8) (cN 12 (cq ch3 10)))
 have m7:=K7 x3 y3
 rw[Sm] at m7
 have m8:=PU ((dA (at0 C3 0) txt [pA,pB]:Nat):Int)
 rw[P8] at m8
 have m9:=E4 (at0 C3 0) ch3 HM T3 txt bt3 (by decide)
 rw[Ni] at m9
 have lnZ:cH Tryz.prog 23 Zb=some (.v (.int .i64 2)):=hZb.cH
 have ix0:ay Tryz.prog 23 Zb (.v (.int .i64 0))=some (.elem 1 (ints [b3 0,b3 2]) 0 0):=hZb.ix (i:=0) (by simp)
 have ix1:ay Tryz.prog 23 Zb (.v (.int .i64 1))=some (.elem 1 (ints [b3 0,b3 2]) 1 0):=hZb.ix (i:=1) (by simp)
 have ld0:∀K:ae,ai Tryz.prog Gt K 3 (.elem 1 (ints [b3 0,b3 2]) 0 0)=some (.v (.int .i64 (b3 0))):=fun K=>ldi (by simp)
 have ld1:∀K:ae,ai Tryz.prog Gt K 3 (.elem 1 (ints [b3 0,b3 2]) 1 0)=some (.v (.int .i64 (b3 2))):=fun K=>ldi (by simp)
 have ixC:ay Tryz.prog 23 C (.v (.int .i64 0))=some (.elem 1 (ints C3) 0 0):=hC.ix (i:=0) (by decide)
 have ldC:∀K:ae,ai Tryz.prog Gt K 3 (.elem 1 (ints C3) 0 0)=some (.v (.int .i64 (at0 C3 0))):=fun K=>ldi (by decide)
 have bk:=TD rl3 il3 hC
 have bp:=Qa pA pB
 have bq:aN Tryz.prog 29 1 [(0,.agg (aq pA))]=some (.list .tight 4 (eR [pA])):=Sc pA
 have sl1:=TE k (0,14) (1,18) (2,22)
 have sl2:=TF k (0,14) (1,18) (2,22)
 have sl3:=TG k (0,14) (1,18) (2,22)
 have lnU:cH Tryz.prog 36 (.list k 2 (bL [(0,14),(1,18),(2,22)]))=some (.v (.int .i64 3)):=by
  have:SL (.list k 2 (bL [(0,14),(1,18),(2,22)])) [(0,14),(1,18),(2,22)]:=⟨_,_,rfl,fun _=>rfl⟩
  exact this.cH
 have kcell:(AV.agg (cI 0 X3 Y3 C)).aC=some (cI 0 X3 Y3 C):=hY rl3 il3 hC
 have pcell:(AV.agg [X3,Y3]).aC=some [X3,Y3]:=ff rl3 il3
 obtain⟨H1,hH1⟩:∃H1,h.push [X3,Y3]=H1:=⟨_,rfl⟩
 obtain⟨H2,hH2⟩:∃H2,H1.push (aq pA)=H2:=⟨_,rfl⟩
 obtain⟨H3,hH3⟩:∃H3,H2.push (aq pB)=H3:=⟨_,rfl⟩
 obtain⟨H4,hH4⟩:∃H4,H3.push (cI 0 X3 Y3 C)=H4:=⟨_,rfl⟩
 have s1:aA Tryz.prog (h.push [nl,nl]) 25 (.ptr (.box h.boxes.length) 0) (.agg [X3,Y3])=some H1:=by rw[<-hH1];exact cQ pcell kZq rfl rfl
 have s2:aA Tryz.prog (H1.push (aq ⟨0,0,0,0⟩)) 85 (.ptr (.box H1.boxes.length) 0) (.agg (aq pA))=some H2:=by rw[<-hH2];exact oV pA
 have s3:aA Tryz.prog (H2.push (aq ⟨0,0,0,0⟩)) 85 (.ptr (.box H2.boxes.length) 0) (.agg (aq pB))=some H3:=by rw[<-hH3];exact oV pB
 have s4:aA Tryz.prog (H3.push (cI 0 nl nl nl)) 27 (.ptr (.box H3.boxes.length) 0) (.agg (cI 0 X3 Y3 C))=some H4:=by rw[<-hH4];exact cQ kcell Nc rfl rfl
 have b1:H1.boxes[h.boxes.length]?=some [X3,Y3]:=by rw[<-hH1];exact ak _ _
 have b2:H2.boxes[H1.boxes.length]?=some (aq pA):=by rw[<-hH2];exact ak _ _
 have b3':H3.boxes[H2.boxes.length]?=some (aq pB):=by rw[<-hH3];exact ak _ _
 have b4:H4.boxes[H3.boxes.length]?=some (cI 0 X3 Y3 C):=by rw[<-hH4];exact ak _ _
 have o2:∀{b:Nat} {cs:List AV},H1.boxes[b]?=some cs->H2.boxes[b]?=some cs:=fun q=>by rw[<-hH2];exact aj q
 have o3:∀{b:Nat} {cs:List AV},H2.boxes[b]?=some cs->H3.boxes[b]?=some cs:=fun q=>by rw[<-hH3];exact aj q
 have o4:∀{b:Nat} {cs:List AV},H3.boxes[b]?=some cs->H4.boxes[b]?=some cs:=fun q=>by rw[<-hH4];exact aj q
 have x4:Ext h H4:=by
  rw[<-hH4,<-hH3,<-hH2,<-hH1]
  exact(((Ext.push _ _).trans (.push _ _)).trans (.push _ _)).trans (.push _ _)
 obtain⟨H5,H6,f1,f2,x6,f3⟩:=B8 H4 (x4.ok hok) (u8s txt)
 have l0:ai Tryz.prog Gt H1 25 (.ptr (.box h.boxes.length) 0)=some (.agg [X3,Y3]):=ma b1
 have l1:ai Tryz.prog Gt H3 25 (.ptr (.box h.boxes.length) 0)=some (.agg [X3,Y3]):=ma (o3 (o2 b1))
 have l2:ai Tryz.prog Gt H6 85 (.ptr (.box H1.boxes.length) 0)=some (.agg (aq pA)):=oW (by rw[f3];exact o4 (o3 b2))
 have l3:ai Tryz.prog Gt H6 85 (.ptr (.box H2.boxes.length) 0)=some (.agg (aq pB)):=oW (by rw[f3];exact o4 b3')
 have l4:ai Tryz.prog Gt H6 27 (.ptr (.box H3.boxes.length) 0)=some (.agg (cI 0 X3 Y3 C)):=by
  rw[cP kZq Nc (by rw[f3];exact b4) (Nat.le_of_ble_eq_true rfl)];rfl
 have kx:=ah.mk (x4.trans x6)
 have g1:=So
 have g2:=Sp
 have g3:=Sq
 have g4:=Sr
 have g5:=blT
 unfold T3 at *
 clear hL2 hL1 hL0 hcl hC hZb mk hs kcell b1 b2 b3' b4 o2 o3 o4 x4 x6 f3 hH1 hH2 hH3 hH4 hok
 generalize aq pA=rA at *
 generalize aq pB=rB at *
 generalize eR [pA,pB]=rAB at *
 generalize eR [pA]=rA1 at *
 generalize ((dA (at0 C3 0) txt [pA,pB]:Nat):Int)=pt at *
 generalize b3 0=v0 at *
 generalize b3 2=v2 at *
 generalize ch3=vc at *
 generalize at0 C3 0=key at *
 generalize u8s txt=tt at *
 generalize X3=X at *
 generalize Y3=Y at *
 generalize Z3=Z at *
 generalize x3=x at *
 generalize y3=y at *
 generalize HM=sec at *
 generalize ([(0,14),(1,18),(2,22)]:List (Int × Int))=shs at *
 have bd:=TH vc sec
 unfold im at *
 refine aL rfl Tryz.func15 rfl ?_
 repeat' (first|simp(maxSteps:=999999) (disch:=first|exact dZ|fail) only[gW,reduceIte,Nat.reduceEqDiff,beq_self_eq_true,Lj,P9,TA,TC,zK, *] | (refine dX ?_ ?_<;>(intro _;try omega)))
 refine Run.gen fun e0 he0 hd0 hp0 hr0=>?_
 have q0_0:e0.get 0= .v (.bool false):=by rw[he0];exact gS
 have q0_2:e0.get 2= .list k 2 (bL shs):=by rw[he0];exact gS
 have q0_3:e0.get 3=C:=by rw[he0];exact gS
 have q0_5:e0.get 5= .ptr (.box H1.boxes.length) 0:=by rw[he0];exact gS
 have q0_7:e0.get 7= .ptr (.box H2.boxes.length) 0:=by rw[he0];exact gS
 have q0_9:e0.get 9= .ptr (.box H3.boxes.length) 0:=by rw[he0];exact gS
 have q0_10:e0.get 10= .list .held 1 tt:=by rw[he0];exact gS
 have q0_11:e0.get 11=Zb:=by rw[he0];exact gS
 have q0_12:e0.get 12= .v (.int .i64 pt):=by rw[he0];exact gS
 have q0_13:e0.get 13= .v (.int .i64 vc):=by rw[he0];exact gS
 have q0_14:e0.get 14= .v (.int .i64 0):=by rw[he0];exact gS
 have q0_18:e0.get 18= .v (.int .i64 420):=by rw[he0];exact gS
 have q0_22:e0.get 22= .v (.int .i64 420):=by rw[he0];exact gS
 have q0_d:e0.defers=[]:=by rw[hd0];exact gS
 clear he0 hd0 hp0 hr0 c1 c2 c3 c4 c5 c6 s1 s2 s3 s4 l0 l1 f1 f2 g1 g2 g3 g4 g5 bk bq
 refine bf rV kZq ?_
 repeat' (first|simp(maxSteps:=999999) (disch:=first|exact dZ|fail) only[gW,reduceIte,Nat.reduceEqDiff,beq_self_eq_true,Lj, *] | (refine dX ?_ ?_<;>(intro _;try omega)))
 refine Run.gen fun e1 he1 hd1 hp1 hr1=>?_
 have q1_0:e1.get 0= .v (.bool false):=by rw[he1];exact gA
 have q1_2:e1.get 2= .list k 2 (bL shs):=by rw[he1];exact gA
 have q1_3:e1.get 3=C:=by rw[he1];exact gA
 have q1_5:e1.get 5= .ptr (.box H1.boxes.length) 0:=by rw[he1];exact gA
 have q1_7:e1.get 7= .ptr (.box H2.boxes.length) 0:=by rw[he1];exact gA
 have q1_9:e1.get 9= .ptr (.box H3.boxes.length) 0:=by rw[he1];exact gA
 have q1_10:e1.get 10= .list .held 1 tt:=by rw[he1];exact gA
 have q1_11:e1.get 11=Zb:=by rw[he1];exact gA
 have q1_12:e1.get 12= .v (.int .i64 pt):=by rw[he1];exact gA
 have q1_13:e1.get 13= .v (.int .i64 vc):=by rw[he1];exact gA
 have q1_14:e1.get 14= .v (.int .i64 0):=by rw[he1];exact gA
 have q1_18:e1.get 18= .v (.int .i64 420):=by rw[he1];exact gA
 have q1_22:e1.get 22= .v (.int .i64 420):=by rw[he1];exact gA
 have q1_23:e1.get 23= .v (.int .i64 x):=by rw[he1];exact gA
 have q1_24:e1.get 24= .v (.int .i64 0):=by rw[he1];exact gA
 have q1_d:e1.defers=[]:=by rw[hd1];exact gA
 clear he1 hd1 hp1 hr1 q0_0 q0_2 q0_3 q0_5 q0_7 q0_9 q0_10 q0_11 q0_12 q0_13 q0_14 q0_18 q0_22 q0_d c7 sl1
 refine bf rV kZq ?_
 repeat' (first|simp(maxSteps:=999999) (disch:=first|exact dZ|fail) only[gW,reduceIte,Nat.reduceEqDiff,beq_self_eq_true,Lj, *] | (refine dX ?_ ?_<;>(intro _;try omega)))
 refine Run.gen fun e2 he2 hd2 hp2 hr2=>?_
 have q2_0:e2.get 0= .v (.bool false):=by rw[he2];exact gA
 have q2_2:e2.get 2= .list k 2 (bL shs):=by rw[he2];exact gA
 have q2_3:e2.get 3=C:=by rw[he2];exact gA
 have q2_5:e2.get 5= .ptr (.box H1.boxes.length) 0:=by rw[he2];exact gA
 have q2_7:e2.get 7= .ptr (.box H2.boxes.length) 0:=by rw[he2];exact gA
 have q2_9:e2.get 9= .ptr (.box H3.boxes.length) 0:=by rw[he2];exact gA
 have q2_10:e2.get 10= .list .held 1 tt:=by rw[he2];exact gA
 have q2_11:e2.get 11=Zb:=by rw[he2];exact gA
 have q2_12:e2.get 12= .v (.int .i64 pt):=by rw[he2];exact gA
 have q2_13:e2.get 13= .v (.int .i64 vc):=by rw[he2];exact gA
 have q2_14:e2.get 14= .v (.int .i64 0):=by rw[he2];exact gA
 have q2_18:e2.get 18= .v (.int .i64 420):=by rw[he2];exact gA
 have q2_22:e2.get 22= .v (.int .i64 420):=by rw[he2];exact gA
 have q2_23:e2.get 23= .v (.int .i64 x):=by rw[he2];exact gA
 have q2_24:e2.get 24= .v (.int .i64 0):=by rw[he2];exact gA
 have q2_25:e2.get 25= .v (.int .i64 y):=by rw[he2];exact gA
 have q2_26:e2.get 26= .v (.int .i64 0):=by rw[he2];exact gA
 have q2_d:e2.defers=[]:=by rw[hd2];exact gA
 clear he2 hd2 hp2 hr2 q1_0 q1_2 q1_3 q1_5 q1_7 q1_9 q1_10 q1_11 q1_12 q1_13 q1_14 q1_18 q1_22 q1_23 q1_24 q1_d c8 sl2
 refine bf rV kZq ?_
 repeat' (first|simp(maxSteps:=999999) (disch:=first|exact dZ|fail) only[gW,reduceIte,Nat.reduceEqDiff,beq_self_eq_true,Lj, *] | (refine dX ?_ ?_<;>(intro _;try omega)))
 refine bf rV kZq ?_
 repeat' (first|simp(maxSteps:=999999) (disch:=first|exact dZ|fail) only[gW,reduceIte,Nat.reduceEqDiff,beq_self_eq_true,Lj, *] | (refine dX ?_ ?_<;>(intro _;try omega)))
 exact⟨_,_,rfl,kx.out,rfl⟩
section
variable {rows:List (List Int)} {owners random eg:List Int} {secret sm:Int} {text:List UInt8}
theorem vZ(hu:na rows owners sm=true):∃y,bC rows owners=0/\rows.length<=16/\aK rows<=16/\bJ rows owners (cG sm)=(y,true,0)/\cG sm≠[]/\(cG sm).length<=16/\cS (-1) (cG sm)=true:=by
 unfold na at hu
 simp only[Bool.and_eq_true,decide_eq_true_eq] at hu
 obtain⟨h1,h2,h3⟩:=hu
 unfold jN at h1
 simp only[Bool.and_eq_true,decide_eq_true_eq] at h1
 have h4:=rW h1.1.2 (qJ sm)
 refine⟨(bJ rows owners (cG sm)).1,h1.1.2,h1.1.1,h1.2,?_,h3,vW _ _,qJ sm⟩
 rw[<-h2,<-h4]
theorem tQ(hp:bC rows owners=0):(dk rows secret random).length=aK rows:=by
 have:=(fI hp).1
 unfold dk;rw[List.length_cons,iu];omega
theorem Ss(who:List Int)(eg:List Int):nM who (eG (2 * who.length) eg) (eJ who (eG (2 * who.length) eg)):=
 B2 _ _ (iu _ _) (BO _)
def yh(rows:List (List Int))(owners s who N:List Int)(l:List Pr)(text:List UInt8)(i:Nat):Int:=
 fD rows owners (ax s) text l (at0 who i) (at0 N (2 * i)) (at0 N (2 * i+1)) (gK owners (bO rows s) (at0 who i))
theorem B9{who N s y:List Int}{l:List Pr}{ep:Int}(c:nM who N l)(ha:bJ rows owners who=(y,true,0))(hne:who≠[])(hwl:who.length<=64)(ht:text.length<=65536)(he:0<=ep/\ep<=64)(hs:s.length=aK rows){i:Nat}(hi:i<who.length):
 rX rows owners ep (ax s) (fV rows s) who l N text i=(yh rows owners s who N l text i,0):=by
 obtain⟨hp,-⟩:=e7 ha
 unfold rX yh
 rw[P2 (fk hp).1]
 exact sV c ha hne hwl ht he hs hi
theorem HN{who N s y:List Int}{l:List Pr}{ep:Int}(c:nM who N l)(ha:bJ rows owners who=(y,true,0))(hne:who≠[])(hwl:who.length<=64)(ht:text.length<=65536)(he:0<=ep/\ep<=64)(hs:s.length=aK rows):
 iT rows owners ep (ax s) (fV rows s) who l N text=(List.range who.length).map (yh rows owners s who N l text):=by
 unfold iT
 refine List.map_congr_left fun i hi=>?_
 rw[B9 c ha hne hwl ht he hs (List.mem_range.1 hi)]
theorem Nj{s:List Int}(hp:bC rows owners=0):∀p∈fV rows s,0<=p.1/\p.1<owners.length:=by
 intro p hp2
 unfold fV at hp2
 obtain⟨i,hi,rfl⟩:=List.mem_map.1 hp2
 have h1:=List.mem_range.1 hi
 have h2:=(fk hp).1
 constructor
 ·exact Int.natCast_nonneg i
 ·show((i:Nat):Int)<_
  omega
theorem TJ{X Y C S W L N:AV}(hu:na rows owners sm=true)(hx:RL X rows)(hy:IL Y owners)(h1:IL C (ax (dk rows secret random)))(h2:SL S (fV rows (dk rows secret random)))(h3:IL W (cG sm))(h4:PL L (eJ (cG sm) (eG (2 * (cG sm).length) eg)))(h5:IL N (eG (2 * (cG sm).length) eg)):
 Lc rows owners (ax (dk rows secret random)) (fV rows (dk rows secret random)) (cG sm) (eJ (cG sm) (eG (2 * (cG sm).length) eg)) (eG (2 * (cG sm).length) eg) X Y C S W L N:=by
 obtain⟨y,p1,p2,p3,p4,p5,p6,p7⟩:=vZ hu
 refine⟨hx,hy,h1,h2,h3,h4,h5,p6,iu _ _,by rw[pF];omega,Nj p1,?_,by rw[qK];omega⟩
 unfold ax
 rw[List.length_map,tQ p1];omega
end
theorem N4{H:ae}{T:List AV}(hx:(AV.agg T).aC=some T)(hl:T.length=8):aA Tryz.prog (H.push (dG 0 nl nl nl nl nl nl nl)) 46 (.ptr (.box H.boxes.length) 0) (.agg T)=some (H.push T):=cQ hx PX hl rfl
theorem Su{H:ae}(x y:Int):aA Tryz.prog (H.push [im 0,im 0]) 50 (.ptr (.box H.boxes.length) 0) (.agg [im x,im y])=some (H.push [im x,im y]):=cQ rfl P1 rfl rfl
end Go.Proofs.YtnfciiiohoafaaaGreatDoor
end
section
namespace Go.Proofs.YtnfciiiohoafaaaGreatDoor
open Go.AE Go.NT Go.RowKit
theorem Lk:ownKnob Tryz.prog.godebug=none:=kZq
theorem D3:(Tryz.prog.funcs.all fun fn=>match fn.body with|some c=>codeOk fn.ntmps c|none=>true)=true:=kZq
theorem D4 : (Tryz.prog.funcs.all fun fn => !(fn.name == "runtime.NumGoroutine")) = true := kZq
theorem jl:Prog Tryz.prog:=⟨fun g fn h=>by
 have:=Array.all_eq_true'.1 D4 fn (Array.mem_of_getElem? h)
 simpa using this,kZq,fun g fn c h hb=>by
 have:=Array.all_eq_true'.1 D3 fn (Array.mem_of_getElem? h)
 simpa [hb] using this⟩
theorem sX:∀g cs,Gt g=some cs->bA 0 0 0 cs=true:=by
 intro g cs h
 unfold Gt at h
 split at h
 ·injection h with h;subst h;kernel_rfl
 ·split at h
  ·injection h with h;subst h;kernel_rfl
  ·split at h
   ·injection h with h;subst h;rfl
   ·cases h
noncomputable def Qc(L:List FuncId):Bool:=L.all fun g=>match Tryz.prog.funcs[g]? with|some fn=>fn.body.isSome|none=>false
theorem il{L:List FuncId}(h:Qc L=true):∀g∈L,∃fn,Tryz.prog.funcs[g]?=some fn/\fn.body.isSome=true:=by
 intro g hg
 have:=List.all_eq_true.1 h g hg
 split at this
 ·rename_i fn hf;exact⟨fn,hf,this⟩
 ·cases this
def POk(p:FuncId->Option (List AV->ae->Option (AV × ae))):Prop:=∀V g q,p g=some q->jb Tryz.prog Gt V g q
theorem TL:POk prims:=fun V g q h=>by cases h
theorem TM:POk DF:=iN jl sX TL (il kZq)
theorem TN:POk DH:=iN jl sX TM (il kZq)
theorem TO:POk Kn:=iN jl sX TN (il kZq)
theorem TP:POk sP:=iN jl sX TO (il kZq)
theorem TQ:POk sQ:=BD jl sX TP (il kZq) (il kZq)
theorem TR:POk D0:=iN jl sX TQ (il kZq)
def v8:List Int:=NT.start.map fun v=>((v.toNat:Nat):Int)
def oY:List Int:=NT.xo.map fun(n:Nat)=>(n:Int)
theorem E9{K:aB}{l:List Int}:ao K (l.map fun n=>AV.v (.int .u32 n)) (l.map fun n=>Value.int .u32 n):=by
 induction l with
 |nil=>exact .nil
 |cons n l ih=>exact .cons _ _ _ _ (.v _ rfl) ih
theorem Sv{W:World}(h:laidMetH Tryz.prog Rows.partialSignsRow.laid W):∀g cs,Gt g=some cs->∃cells,ao (aB.init W) cs cells/\∀(j:Nat) (c:Value),cells[j]?=some c->W.cell? ⟨g,j,none⟩=some c:=by
 rw[MakeChecks.laidMetH_plain _ _ _ kZq] at h
 have e1:(Lib.tabData .u32 v8:DataW Unit)=Rows.laid_signatory_digest_start:=kZq
 have e2:(Lib.tabData .u32 oY:DataW Unit)=Rows.laid_signatory_digest_numbers:=kZq
 intro g cs hg
 unfold Gt at hg
 split at hg
 ·rename_i h0
  injection hg with hg
  subst hg;subst h0
  have t := Lib.tabIs_of_head (n := 8) (g := 0) (t := 229) (e := 42) (zs := v8) (k := .u32) (name := "signatory/digest.start") kZq kZq kZq kZq kZq kZq (by rw [e1]; exact h)
  refine⟨v8.map fun n=>Value.int .u32 n,?_,fun j c hc=>?_⟩
  ·have:Dj=v8.map fun n=>AV.v (.int .u32 n):=by unfold Dj v8 w32;rw[List.map_map];rfl
   rw[this];exact E9
  ·rw[List.getElem?_map,Option.map_eq_some_iff] at hc
   obtain⟨n,hn,rfl⟩:=hc
   have hl:=(List.getElem?_eq_some_iff.1 hn).1
   rw[t.cell kZq j hl,List.getD_eq_getElem?_getD,hn];rfl
 ·split at hg
  ·rename_i _ h0
   injection hg with hg
   subst hg;subst h0
   have t := Lib.tabIs_of_head (n := 64) (g := 1) (t := 242) (e := 42) (zs := oY) (k := .u32) (name := "signatory/digest.numbers") kZq kZq kZq kZq kZq kZq (by rw [e2]; exact h.tail)
   refine⟨oY.map fun n=>Value.int .u32 n,?_,fun j c hc=>?_⟩
   ·have:oM=oY.map fun n=>AV.v (.int .u32 n):=by unfold oM oY;rw[List.map_map];rfl
    rw[this];exact E9
   ·rw[List.getElem?_map,Option.map_eq_some_iff] at hc
    obtain⟨n,hn,rfl⟩:=hc
    have hl:=(List.getElem?_eq_some_iff.1 hn).1
    rw[t.cell kZq j hl,List.getD_eq_getElem?_getD,hn];rfl
  ·split at hg
   ·injection hg with hg
    subst hg
    exact⟨[],.nil,fun j c hc=>by simp at hc⟩
   ·cases hg
section
variable {H:Type}
theorem cc3:Tryz.prog.cellsOf 3=1:=kZq
theorem cc5:Tryz.prog.cellsOf 5=1:=kZq
theorem TS:Tryz.prog.cellsOf 22=1:=kZq
theorem Sw:Tryz.prog.cellsOf 23=1:=kZq
theorem TT:Tryz.prog.cellsOf 25=2:=kZq
theorem TU:Tryz.prog.cellsOf 42=1:=kZq
theorem Sx:oD Tryz.prog 25 [(22,0),(23,1)]=true:=kZq
theorem Ca{cs:List AV}{d:DataW H}(h:Has Tryz.prog 23 cs d):∃x l,cs=[x]/\IL x l:=by
 obtain⟨k,es,rfl,hl,-,-,he⟩:=h.kj Tryz.underlying23
 obtain⟨l,rfl⟩:∃l:List Int,es=l.map nC:=Ei fun r hr=>by
  obtain⟨-,d,hd⟩:=he r hr
  obtain⟨n,hn,-⟩:=hd.yZ Tryz.underlying3
  exact⟨n,hn⟩
 exact⟨_,l,rfl,k,_,rfl,fun _=>cc3⟩
theorem Ll{cs:List AV}{d:DataW H}(h:Has Tryz.prog 22 cs d):∃x rows,cs=[x]/\RL x rows:=by
 obtain⟨k,es,rfl,hl,-,-,he⟩:=h.kj Tryz.underlying22
 have hh:∀r∈es,∃x l,r=[x]/\IL x l:=fun r hr=>by
  obtain⟨-,d,hd⟩:=he r hr
  exact Ca hd
 clear hl he
 have key:∀es:List (List AV),(∀r∈es,∃x l,r=[x]/\IL x l)->∃(xs:List AV) (rows:List (List Int)),es=xs.map (fun a=>[a])/\xs.length=rows.length/\∀(i:Nat) (a:AV) (r:List Int),xs[i]?=some a->rows[i]?=some r->IL a r:=by
  intro es
  induction es with
  |nil=>intro _;exact⟨[],[],rfl,rfl,fun i a r ha=>by simp at ha⟩
  |cons e es ih=>
   intro hh
   obtain⟨x,l,rfl,hx⟩:=hh e List.mem_cons_self
   obtain⟨xs,rows,rfl,h1,h2⟩:=ih fun r hr=>hh r (List.mem_cons_of_mem _ hr)
   refine⟨x::xs,l::rows,rfl,by simp[h1],fun i a r ha hr=>?_⟩
   cases i with
   |zero=>simp at ha hr;subst ha;subst hr;exact hx
   |succ i=>exact h2 i a r (by simpa using ha) (by simpa using hr)
 obtain⟨xs,rows,rfl,h1,h2⟩:=key es hh
 exact⟨_,rows,rfl,k,_,xs,rfl,fun _=>Sw,h1,h2⟩
theorem Lm{x:AV}{d:DataW H}(h:jy Tryz.prog 25 x d):∃X Y rows owners,x= .agg [X,Y]/\RL X rows/\IL Y owners:=by
 obtain⟨xs,rfl,hl,hg⟩:=h.fields Sx
 rw[TT] at hl
 obtain⟨a,b,rfl⟩:=Qg hl
 obtain⟨_,q0⟩:=hg 0 22 0 rfl
 obtain⟨_,q1⟩:=hg 1 23 1 rfl
 rw[TS] at q0
 rw[Sw] at q1
 obtain⟨X,rows,e1,hx⟩:=Ll q0
 obtain⟨Y,owners,e2,hy⟩:=Ca q1
 simp at e1 e2
 subst e1;subst e2
 exact⟨_,_,rows,owners,rfl,hx,hy⟩
theorem Nk{x:AV}{d:DataW H}(h:jy Tryz.prog 42 x d):∃n:Int,x= .v (.int .u32 n)/\0<=n/\n<4294967296:=by
 obtain⟨n,h1,h2,h3⟩:=(h.plain (fun _ hq=>by rw[Tryz.underlying42] at hq;cases hq) (fun _ _ hq=>by rw[Tryz.underlying42] at hq;cases hq)).rk Tryz.underlying42
 injection h1 with h1
 simp[IntKind.min,IntKind.max,IntKind.signed,IntKind.bits] at h2 h3
 exact⟨n,h1,h2,by omega⟩
theorem Nl{x:AV}{d:DataW H}(h:jy Tryz.prog 44 x d):∃n:Int,x= .v (.int .u16 n):=by
 obtain⟨n,h1,h2,h3⟩:=(h.plain (fun _ hq=>by rw[Tryz.underlying44] at hq;cases hq) (fun _ _ hq=>by rw[Tryz.underlying44] at hq;cases hq)).rk Tryz.underlying44
 injection h1 with h1
 exact⟨n,h1⟩
theorem Cb{x:AV}{d:DataW H}(h:jy Tryz.prog 43 x d):∃l,UL x l:=by
 obtain⟨k,es,rfl,hl,-,-,he⟩:=h.kj Tryz.underlying43
 have hh:∀r∈es,∃n:Int,r=vO n/\0<=n/\n<4294967296:=fun r hr=>by
  obtain⟨-,d,hd⟩:=he r hr
  obtain⟨n,h1,h2,h3⟩:=hd.rk Tryz.underlying42
  simp[IntKind.min,IntKind.max,IntKind.signed,IntKind.bits] at h2 h3
  exact⟨n,h1,h2,by omega⟩
 have key:∀es:List (List AV),(∀r∈es,∃n:Int,r=vO n/\0<=n/\n<4294967296)->∃l:List Int,es=l.map vO/\∀n∈l,0<=n/\n<4294967296:=by
  intro es
  induction es with
  |nil=>intro _;exact⟨[],rfl,fun n hn=>by simp at hn⟩
  |cons e es ih=>
   intro hh
   obtain⟨n,rfl,hn⟩:=hh e List.mem_cons_self
   obtain⟨l,rfl,hl⟩:=ih fun r hr=>hh r (List.mem_cons_of_mem _ hr)
   exact⟨n::l,rfl,fun m hm=>(List.mem_cons.1 hm).elim (fun q=>q ▸ hn) (hl m)⟩
 obtain⟨l,rfl,h2⟩:=key es hh
 exact⟨l,⟨k,_,rfl,fun _=>TU⟩,h2⟩
theorem HO{x:AV}{d:DataW H}(h:jy Tryz.prog 28 x d):∃l:List UInt8,BL x l:=by
 obtain⟨k,es,rfl,h2,-,-,h4⟩:=h.kj Tryz.underlying28
 obtain⟨l,rfl⟩:=Ei (f:=dp) fun r hr=>by
  obtain⟨-,d,h5⟩:=h4 r hr
  exact h5.C7 kZq
 exact⟨l,k,_,rfl,fun _=>cc5⟩
end
def Ln:List TypeId:=[3,4,5,22,23,25,42,43,44,28]
end Go.Proofs.YtnfciiiohoafaaaGreatDoor
end
section
namespace Go.AE
open Go.RowKit Go.WideShapes Go.ChangeShapes
def okLoc(P:Program)(S:List TypeId)(t:TypeId):Bool:=
 match P.underlying t with
 |some .bool|some (.int _) |some .string=>true
 |some (.slice e)=>S.contains e&&decide (0<P.cellsOf e)
 |some (.struct fs)=>uW P 0 fs.toList (P.cellsOf t)&&fs.toList.all fun f=>S.contains f.type
 |some (.array m e)=>Nat.beq (P.cellsOf t) (m * P.cellsOf e)&&S.contains e
 |_=>false
def okSet(P:Program)(S:List TypeId):Bool:=S.all (okLoc P S)
section
variable {H:Type} {enc:TypeId × Value->H} {P:Program} {W:World}
theorem trod_hasS{S:List TypeId}(hS:okSet P S=true):∀(fuel:Nat) (t:TypeId) (cs:List Value) (x:DataW H × List MemPlace),DataW.trod enc P W 0 (fun _=>true) true fuel t cs=some x->S.contains t=true->
 ∃xs,ao (aB.init W) xs cs/\xs.all AV.bu=true/\Has P t xs x.1:=by
 intro fuel
 induction fuel with
 |zero=>intro t cs x h;simp[DataW.trod] at h
 |succ fuel ih=>
  intro t cs x h hin
  have hok:okLoc P S t=true:=List.all_eq_true.1 hS t (by simpa using hin)
  unfold okLoc at hok
  split at hok
  ·rename_i hu
   obtain⟨b,rfl,rfl⟩:=DataW.trod_bool hu h
   exact⟨_,.cons _ _ _ _ (.v _ rfl) .nil,rfl,.bool hu b⟩
  ·rename_i k hu
   obtain⟨m,rfl,rfl,hw⟩:=DataW.trod_int hu h
   exact⟨_,.cons _ _ _ _ (.v _ rfl) .nil,rfl,.int hu m hw⟩
  ·rename_i hu
   obtain⟨s,rfl,rfl,hs⟩:=DataW.trod_string hu h
   exact⟨_,.cons _ _ _ _ (.v _ rfl) .nil,rfl,.str hu s hs⟩
  ·rename_i e hu
   rw[Bool.and_eq_true,decide_eq_true_eq] at hok
   obtain⟨hoke,hpos⟩:=hok
   rcases DataW.trod_slice hu h with⟨rfl,rfl⟩|⟨a,len,cap,elems,rest,m,hm,rfl,rfl,-,hlc,hcm,hel,helem,hspare,-⟩
   ·exact⟨_,.cons _ _ _ _ (.nil _) .nil,rfl,.none hu⟩
   ·have hm:m=fuel:=by omega
    subst hm
    obtain⟨hrl,hrest⟩:=hspare rfl
    have elemAt:∀i,i<len->∃vs r y,W.cells? 0 (a.add (i * P.cellsOf e)) (P.cellsOf e)=some vs/\elems[i]?=some y/\ao (aB.init W) r vs/\r.all AV.bu=true/\Has P e r y.1:=by
     intro i hi
     have h1:=helem i hi
     rw[List.getElem?_eq_getElem (by omega:i<elems.length)] at h1
     cases hc:W.cells? 0 (a.add (i * P.cellsOf e)) (P.cellsOf e) with
     |none=>rw[hc] at h1;cases h1
     |some vs=>
      rw[hc] at h1
      obtain⟨r,g1,g2,g3⟩:=ih e vs _ h1 hoke
      exact⟨vs,r,_,rfl,List.getElem?_eq_getElem _,g1,g2,g3⟩
    by_cases hcap:cap=0
    ·have hlen:len=0:=by omega
     subst hcap;subst hlen
     have he:elems=[]:=List.eq_nil_of_length_eq_zero hel
     subst he
     refine⟨[.list .tight (P.cellsOf e) []],.cons _ _ _ _ (.eK _ _) .nil,rfl,?_⟩
     show Has P t _ (.slice [] (rest.map (·.1)))
     exact .list hu .tight [] [] (rest.map (·.1)) (.inr ⟨rfl,rfl⟩) (Nat.zero_le _) rfl (by simp) (by simp)
    ·-- the block is there
     have hspot:a.spot=none:=by
      have:∃vs,W.cells? 0 (a.add 0) (P.cellsOf e)=some vs:=by
       rcases Nat.eq_zero_or_pos len with h0|h0
       ·have h1:=hrest 0 (by omega)
        rw[List.getElem?_eq_getElem (by omega:0<rest.length)] at h1
        cases hc:W.cells? 0 (a.add ((len+0) * P.cellsOf e)) (P.cellsOf e) with
        |none=>rw[hc] at h1;cases h1
        |some vs=>rw[h0] at hc;exact⟨vs,by simpa using hc⟩
       ·obtain⟨vs,_,_,hc,_⟩:=elemAt 0 h0
        exact⟨vs,by simpa using hc⟩
      obtain⟨vs,hvs⟩:=this
      obtain⟨hl,hg⟩:=uX hvs
      have h0:=hg 0 hpos
      rw[List.getElem?_eq_getElem (by omega:0<vs.length)] at h0
      have:(a.add 0).add 0=a:=by simp[Addr.add]
      rw[this] at h0
      exact FP h0
     obtain⟨g,off,sp⟩:=a
     simp only at hspot
     subst hspot
     have rows:∀k,k<=len->∃es:List (List AV),es.length=k/\(∀r∈es,r.length=P.cellsOf e/\r.all AV.bu=true)/\(∀(i:Nat) (r:List AV) (d:DataW H),es[i]?=some r->(elems.map (·.1))[i]?=some d->Has P e r d)/\
      ∃cells:List Value,cells.length=k * P.cellsOf e/\ao (aB.init W) es.flatten cells/\∀(j:Nat) (c:Value),cells[j]?=some c->W.cell? ⟨g,off+j,none⟩=some c:=by
      intro k
      induction k with
      |zero=>intro _;exact⟨[],rfl,by simp,by simp,[],by simp,.nil,by simp⟩
      |succ k ihk=>
       intro hk
       obtain⟨es,e1,e2,e3,cells,c1,c2,c3⟩:=ihk (by omega)
       obtain⟨vs,r,y,hc,hy,g1,g2,g3⟩:=elemAt k (by omega)
       obtain⟨hvl,hvg⟩:=uX hc
       refine⟨es++[r],by simp[e1],fun r' hr'=>?_,fun i r' d hi hd=>?_,cells++vs,by simp[c1,hvl,Nat.add_mul],?_,fun j c hj=>?_⟩
       ·rcases List.mem_append.1 hr' with h1|h1
        ·exact e2 r' h1
        ·simp only[List.mem_singleton] at h1
         subst h1
         exact⟨by rw[g1.length,hvl],g2⟩
       ·rcases cR hi with h1|⟨h1,rfl⟩
        ·exact e3 i r' d h1 hd
        ·rw[h1,e1,List.getElem?_map,hy] at hd
         simp only[Option.map_some,Option.some.injEq] at hd
         subst hd
         exact g3
       ·rw[List.flatten_append]
        simpa using c2.append g1
       ·rcases Nat.lt_or_ge j cells.length with h1|h1
        ·rw[List.getElem?_append_left h1] at hj
         exact c3 j c hj
        ·rw[List.getElem?_append_right h1] at hj
         have hjl:j - cells.length<P.cellsOf e:=by
          have:=(List.getElem?_eq_some_iff.1 hj).1
          omega
         have h2:=hvg _ hjl
         rw[hj,Addr.dh,Addr.dh] at h2
         rw[show off+j=off+k * P.cellsOf e+(j - cells.length) by omega]
         exact h2
     obtain⟨es,e1,e2,e3,cells,c1,c2,c3⟩:=rows len (Nat.le_refl _)
     have hall:es.flatten.all AV.bu=true:=by
      rw[List.all_flatten]
      simp only[List.all_eq_true]
      intro r hr
      have:=(e2 r hr).2
      simpa using this
     refine⟨[.list .held (P.cellsOf e) es],.cons _ _ _ _ (.list .held (P.cellsOf e) es g off len cap cells e1.symm (fun r hr=>(e2 r hr).1) c2 c3 ⟨hlc,trivial⟩ hall) .nil,rfl,?_⟩
     exact .list hu .held es (elems.map (·.1)) (rest.map (·.1)) (.inl rfl) (by omega) (by simp[e1,hel]) e3 (fun r hr=>(e2 r hr).1)
  ·rename_i fs hu
   rw[Bool.and_eq_true,List.all_eq_true] at hok
   obtain⟨htile,hall⟩:=hok
   obtain⟨ys,m,hm,rfl,hcl,hyl,hat⟩:=DataW.trod_struct hu h
   have hm:m=fuel:=by omega
   subst hm
   have fld:∀(i:Nat) (f:Field),fs[i]?=some f->∃r y,ys[i]?=some y/\ao (aB.init W) r ((cs.drop f.offset).take (P.cellsOf f.type))/\r.all AV.bu=true/\Has P f.type r y.1:=by
    intro i f hf
    have h1:=hat i f hf
    have hlt:i<ys.length:=by rw[hyl];exact(Array.getElem?_eq_some_iff.1 hf).1
    rw[List.getElem?_eq_getElem hlt] at h1
    obtain⟨r,g1,g2,g3⟩:=ih f.type _ _ h1 (hall f (by
     obtain⟨hi,rfl⟩:=Array.getElem?_eq_some_iff.1 hf
     exact Array.mem_toList_iff.2 (Array.getElem_mem hi)))
    exact⟨r,_,List.getElem?_eq_getElem hlt,g1,g2,g3⟩
   have build:∀(l:List Field) (i off:Nat),(∀j f,l[j]?=some f->fs[i+j]?=some f)->uW P off l (P.cellsOf t)=true->off<=cs.length->
    ∃xs,ao (aB.init W) xs (cs.drop off)/\xs.all AV.bu=true/\∀j f,l[j]?=some f->off<=f.offset/\∃r y,ys[i+j]?=some y/\(xs.drop (f.offset - off)).take (P.cellsOf f.type)=r/\Has P f.type r y.1:=by
    intro l
    induction l with
    |nil=>
     intro i off _ ht _
     have hoff:off=P.cellsOf t:=Nat.eq_of_beq_eq_true ht
     refine⟨[],?_,rfl,fun j f hj=>by simp at hj⟩
     rw[hoff,<-hcl,List.drop_length]
     exact .nil
    |cons f l ihl=>
     intro i off hl ht hle
     rw[uW,Bool.and_eq_true] at ht
     have ho:f.offset=off:=Nat.eq_of_beq_eq_true ht.1
     obtain⟨r,y,hy,g1,g2,g3⟩:=fld i f (by simpa using hl 0 f rfl)
     have hlen2:off+P.cellsOf f.type<=cs.length:=by
      rw[hcl]
      have:∀(l:List Field) (o:Nat),uW P o l (P.cellsOf t)=true->o<=P.cellsOf t:=by
       intro l
       induction l with
       |nil=>intro o h;exact Nat.le_of_eq (Nat.eq_of_beq_eq_true h)
       |cons f l ih=>intro o h;rw[uW,Bool.and_eq_true] at h;exact Nat.le_trans (Nat.le_add_right _ _) (ih _ h.2)
      exact this l _ ht.2
     obtain⟨xs,x1,x2,x3⟩:=ihl (i+1) (off+P.cellsOf f.type) (fun j f' hj=>by
      have:=hl (j+1) f' (by simpa using hj)
      rwa [show i+(j+1)=i+1+j by omega] at this) ht.2 hlen2
     rw[ho] at g1
     have hrl:r.length=P.cellsOf f.type:=by rw[g1.length];simp;omega
     refine⟨r++xs,?_,by rw[List.all_append,g2,x2];rfl,fun j f' hj=>?_⟩
     ·have:=g1.append x1
      rw[<-List.drop_drop,List.take_append_drop] at this
      exact this
     ·cases j with
      |zero=>
       simp only[List.getElem?_cons_zero,Option.some.injEq] at hj
       subst hj
       refine⟨by omega,r,y,hy,?_,g3⟩
       rw[ho,Nat.sub_self,List.drop_zero,<-hrl,List.take_left]
      |succ j=>
       obtain⟨hge,r',y',hy',hr',hh⟩:=x3 j f' (by simpa using hj)
       refine⟨by omega,r',y',by rw[show i+(j+1)=i+1+j by omega];exact hy',?_,hh⟩
       rw[show f'.offset - off=r.length+(f'.offset - (off+P.cellsOf f.type)) by omega,<-List.drop_drop,List.drop_left]
       exact hr'
   obtain⟨xs,x1,x2,x3⟩:=build fs.toList 0 0 (fun j f hj=>by simpa using hj) htile (Nat.zero_le _)
   rw[List.drop_zero] at x1
   refine⟨xs,x1,x2,.struct hu xs (ys.map (·.1)) (by rw[x1.length,hcl]) (by simp[hyl]) fun i f d hf hd=>?_⟩
   obtain⟨-,r,y,hy,hr,hh⟩:=x3 i f (by simpa using hf)
   rw[Nat.zero_add] at hy
   rw[List.getElem?_map,hy] at hd
   simp only[Option.map_some,Option.some.injEq] at hd
   subst hd
   rw[Nat.sub_zero] at hr
   rw[hr];exact hh
  ·rename_i m e hu
   rw[Bool.and_eq_true] at hok
   have hsz:P.cellsOf t=m * P.cellsOf e:=Nat.eq_of_beq_eq_true hok.1
   obtain⟨ys,fu,hfu,rfl,hcl,hyl,hat⟩:=DataW.trod_array hu h
   have hfu:fu=fuel:=by omega
   subst hfu
   have rows:∀k,k<=m->∃xs,ao (aB.init W) xs (cs.take (k * P.cellsOf e))/\xs.all AV.bu=true/\∀i,i<k->∃y,ys[i]?=some y/\Has P e ((xs.drop (i * P.cellsOf e)).take (P.cellsOf e)) y.1:=by
    intro k
    induction k with
    |zero=>intro _;exact⟨[],by simp;exact .nil,rfl,fun i hi=>absurd hi (Nat.not_lt_zero i)⟩
    |succ k ihk=>
     intro hk
     obtain⟨xs,x1,x2,x3⟩:=ihk (by omega)
     have h1:=hat k (by omega)
     rw[List.getElem?_eq_getElem (by omega:k<ys.length)] at h1
     obtain⟨r,g1,g2,g3⟩:=ih e _ _ h1 hok.2
     have hlen:(k+1) * P.cellsOf e<=cs.length:=by rw[hcl,hsz];exact Nat.mul_le_mul_right _ hk
     have hxl:xs.length=k * P.cellsOf e:=by rw[x1.length,List.length_take];rw[Nat.add_mul] at hlen;omega
     have hrl:r.length=P.cellsOf e:=by rw[g1.length];simp;rw[Nat.add_mul] at hlen;omega
     refine⟨xs++r,?_,by rw[List.all_append,x2,g2];rfl,fun i hi=>?_⟩
     ·have:=x1.append g1
      rwa [<-List.take_add,<-Nat.succ_mul] at this
     ·rcases Nat.lt_or_ge i k with h2|h2
      ·obtain⟨y,hy,hh⟩:=x3 i h2
       refine⟨y,hy,?_⟩
       have h3:(i+1) * P.cellsOf e<=k * P.cellsOf e:=Nat.mul_le_mul_right _ h2
       rw[Nat.add_mul] at h3
       rw[List.drop_append_of_le_length (by omega),List.take_append_of_le_length (by simp;omega)]
       exact hh
      ·have:i=k:=by omega
       subst this
       refine⟨_,List.getElem?_eq_getElem (by omega),?_⟩
       rw[<-hxl,List.drop_left,<-hrl,List.take_length]
       exact g3
   obtain⟨xs,x1,x2,x3⟩:=rows m (Nat.le_refl _)
   rw[<-hsz,<-hcl,List.take_length] at x1
   refine⟨xs,x1,x2,.array hu xs (ys.map (·.1)) (by rw[x1.length,hcl]) (by simp[hyl]) fun i d hd=>?_⟩
   have hi:i<m:=by
    have:=(List.getElem?_eq_some_iff.1 hd).1
    simpa [hyl] using this
   obtain⟨y,hy,hh⟩:=x3 i hi
   rw[List.getElem?_map,hy] at hd
   simp only[Option.map_some,Option.some.injEq] at hd
   subst hd
   exact hh
  ·cases hok
theorem arg_ofS{S:List TypeId}(hS:okSet P S=true){t:TypeId}{v:Value}{d:DataW H}{p:List MemPlace}{base:Nat}(h:DataW.Trod enc P W 0 (fun _=>true) true t v d p)(hv:Value.okWide P W .any base t v)(hin:S.contains t=true):
 ∃x,aI (aB.init W) x v/\jy P t x d:=by
 obtain⟨fuel,hf⟩:=h
 obtain⟨xs,h1,h2,h3⟩:=trod_hasS hS fuel t _ _ hf hin
 have single:∀c,v.cells.toList=[c]->v=c->(∀cs,P.underlying t≠some (.struct cs))->(∀m e,P.underlying t≠some (.array m e))->∃x,aI (aB.init W) x v/\jy P t x d:=by
  intro c hc hvc hns hna
  rw[hc] at h1
  cases h1 with
  |cons x _ _ _ hx hs=>
   cases hs
   refine⟨x,hvc ▸ hx,?_⟩
   unfold jy
   split
   ·rename_i hu;exact absurd hu (hns _)
   ·rename_i hu;exact absurd hu (hna _ _)
   ·exact h3
 have hok:okLoc P S t=true:=List.all_eq_true.1 hS t (by simpa using hin)
 unfold okLoc at hok
 unfold Value.okWide at hv
 split at hok
 ·rename_i hu
  rw[hu] at hv
  simp only[Cell.okWide,Cell.ok,hu] at hv
  cases v<;>simp at hv
  exact single _ rfl rfl (by rw[hu];simp) (by rw[hu];simp)
 ·rename_i k hu
  rw[hu] at hv
  simp only[Cell.okWide,Cell.ok,hu] at hv
  cases v<;>simp at hv
  exact single _ rfl rfl (by rw[hu];simp) (by rw[hu];simp)
 ·rename_i hu
  rw[hu] at hv
  simp only[Cell.okWide,Cell.ok,hu] at hv
  cases v<;>simp at hv
  exact single _ rfl rfl (by rw[hu];simp) (by rw[hu];simp)
 ·rename_i e hu
  rw[hu] at hv
  simp only[Cell.okWide,Cell.ok,hu] at hv
  cases v<;>simp at hv
  exact single _ rfl rfl (by rw[hu];simp) (by rw[hu];simp)
 ·rename_i fs hu
  rw[hu] at hv
  obtain⟨cs,rfl,-,-⟩:=hv
  exact⟨.agg xs,.agg _ _ h1,by unfold jy;rw[hu];exact⟨xs,rfl,h3⟩⟩
 ·rename_i m e hu
  rw[hu] at hv
  obtain⟨cs,rfl,-,-⟩:=hv
  exact⟨.agg xs,.agg _ _ h1,by unfold jy;rw[hu];exact⟨xs,rfl,h3⟩⟩
 ·cases hok
theorem args_ofS{S:List TypeId}(hS:okSet P S=true){base:Nat}:∀{ts:List TypeId} {vs:List Value} {ds:List (DataW H)} {p:List MemPlace},DataW.TrodAll enc P W 0 (fun _=>true) true ts vs ds p->
 (∀(j:Nat) t v,ts[j]?=some t->vs[j]?=some v->Value.okWide P W .any base t v)->(∀t∈ts,S.contains t=true)->∃xs,ao (aB.init W) xs vs/\jF P ts xs ds:=by
 intro ts
 induction ts with
 |nil=>
  intro vs ds p h _ _
  obtain⟨rfl,rfl,rfl⟩:=trodAll_nil h
  exact⟨[],.nil,trivial⟩
 |cons t ts ih=>
  intro vs ds p h hv hok
  obtain⟨v,vs',d,ds',p1,q1,rfl,rfl,rfl,h1,h2⟩:=trodAll_cons h
  obtain⟨x,g1,g2⟩:=arg_ofS hS h1 (hv 0 t v rfl rfl) (hok t List.mem_cons_self)
  obtain⟨xs,g3,g4⟩:=ih h2 (fun j t v ht hv'=>hv (j+1) t v (by simpa using ht) (by simpa using hv')) (fun t ht=>hok t (List.mem_cons_of_mem _ ht))
  exact⟨x::xs,.cons _ _ _ _ g1 g3,g2,g4⟩
structure LawFactsS(P:Program)(S:List TypeId)(f:FuncId)(fn:Func)(tb:TypeId):Prop where
 func:P.funcs[f]?=some fn
 laid:laidOutB P=true
 set:okSet P S=true
 tys:∀t∈fn.params.toList,S.contains t=true/\P.readableRec t=true/\t<P.types.size
 res:fn.resultTypes=#[tb]
 bool:P.underlying tb=some .bool
variable {G:Nat->Option (List AV)} {prims:FuncId->Option (List AV->ae->Option (AV × ae))}
theorem law_contractS{S:List TypeId}(hp:Prog P){f:FuncId}{fn:Func}{tb:TypeId}(F:LawFactsS P S f fn tb){s:ChangeSpec}{apart fresh handsOn again:Bool}{base:Nat}{args:Array Value}{ds gs:List (DataW H)}{before:List MemPlace}
 (hvars:s.vars=[]) (hspec:∀ds:List (DataW H),ds.length=fn.params.size->(s.fn H ds).results=[.lit (.bool true)]/\(s.fn H ds).args=ds/\(s.fn H ds).vars=[])
 (hval:∀(j:Nat) t v,fn.params[j]?=some t->args[j]?=some v->Value.okWide P W .any base t v)
 (hW:DataW.Whole enc P fn.params.toList s.vars apart W args.toList ds gs before)
 (hG:∀g cs,G g=some cs->∃cells,ao (aB.init W) cs cells/\∀(j:Nat) (c:Value),cells[j]?=some c->W.cell? ⟨g,j,none⟩=some c)
 (hprim:∀g p,prims g=some p->jb P G W g p)
 (hlaw:∀xs:List AV,jF P fn.params.toList xs ds->∃h',(whole P G prims).call f xs ae.init=some (.ret (.v (.bool true)),h')):
 Calls P f args W fun e W'=>∃v,e= .returned v/\s.post enc P fn apart fresh handsOn again W args v W':=by
 have hW':=hW
 obtain⟨p,q,hA,hV,hbef,hfz,hnd⟩:=hW
 have hV0:DataW.TrodVars enc P W (fun _=>true) [] gs q:=hvars ▸ hV
 obtain⟨rfl,rfl⟩:=trodVars_none hV0
 rw[List.append_nil] at hbef
 subst hbef
 obtain⟨xs,hxs,hall⟩:=args_ofS F.set hA (fun j t v ht hv=>hval j t v (by simpa using ht) (by simpa using hv)) (fun t ht=>(F.tys t ht).1)
 obtain⟨h',hcall⟩:=hlaw xs hall
 have hsim:jv P G W (aB.init W) ae.init W:=IM W hG
 obtain⟨-,hc⟩:=(su hp hprim).call f xs ae.init _ _ hcall
 intro cs
 obtain⟨K',w',fr,le,s',hst,hfr,v,hx,hl⟩:=hc (aB.init W) W args hxs hsim cs
 have hv:=hx.bm.1
 subst hv
 have hb:Below W.heap.size W w':=by
  have:=s'.old
  rw[le.base] at this
  exact this
 have hlen:ds.length=fn.params.size:=by
  have:∀{ts:List TypeId} {xs:List AV} {ds:List (DataW H)},jF P ts xs ds->ds.length=ts.length:=by
   intro ts
   induction ts with
   |nil=>intro xs ds h;cases xs<;>cases ds<;>simp[jF] at h ⊢
   |cons t ts ih=>intro xs ds h;cases xs<;>cases ds<;>simp[jF] at h ⊢;exact ih h.2
  simpa using this hall
 obtain⟨r1,r2,r3⟩:=hspec ds hlen
 refine⟨.returned (.bool true),w',fr,⟨_,rfl,?_⟩,hst,hfr,hl⟩
 refine CV (pa:=before) (pv:=[]) hW' (fun b sp hd=>?_) (fun sp hsp=>?_) (fun sp _=>?_) (by simp) hb (ok_one F.res rfl (okWide_bool_mk F.bool _))
 ·rw[F.res,List.append_nil,r1]
  exact trodAll_cons_mk (shut_bool F.bool _) trodAll_mk0
 ·rw[List.append_nil,r2]
  exact FQ F.laid hA (fun t ht=>(F.tys t ht).2) (fun x hx=>hb.same (hW'.lt x hx)) hsp
 ·rw[hvars,List.append_nil,r3]
  exact rfl
end
end Go.AE
end
