/-
  Part of the proof: PS.
-/
import Derived.Test.YtnfciiiohoafaaaGreatDoorPR
import Derived.Test.YtnfciiiohoafaaaGreatDoorPM
set_option maxHeartbeats 64000000
set_option maxRecDepth 100000
set_option linter.unusedSimpArgs false
set_option linter.unusedVariables false
set_option linter.constructorNameAsVariable false
section
namespace Go.Proofs.YtnfciiiohoafaaaGreatDoor
open Go.AE Go.NT
structure Lc(rows:List (List Int))(owners aa:List Int)(sh:List (Int × Int))(who:List Int)(l:List Pr)(nn:List Int)(X Y C S W L N:AV):Prop where
 x:RL X rows
 y:IL Y owners
 c:IL C aa
 s:SL S sh
 w:IL W who
 p:PL L l
 n:IL N nn
 wl:who.length<=16
 nl:nn.length=2 * who.length
 sl:sh.length<=1000
 inn:∀p∈sh,0<=p.1/\p.1<owners.length
 cl:aa.length<=1000000
 ll:l.length<=1000000
structure TB(h H:ae)(T:List AV)(t:Tok):Prop where
 ext:Ext h H
 ok:aZ H=true
 can:bG h.tn H t
 tb:H.boxes[h.boxes.length]?=some T
section
variable {h H:ae} {T:List AV} {t:Tok}
theorem TB.app(b:TB h H T t):TB h (H.app t) T (.free H.tn):=by
 have gr:=Grown.one b.can b.ok b.ext.tn
 exact⟨gr.ext b.ext (Nat.le_refl _),gr.ok,gr.can,by rw[aT];exact b.tb⟩
theorem TB.push(b:TB h H T t)(cs:List AV):TB h (H.push cs) T t:=⟨b.ext.trans (.push _ _),b.ok,by rw[ij];exact b.can,aj b.tb⟩
theorem TB.start(hok:aZ h=true)(T:List AV):TB h (h.push T) T .nil:=⟨.push _ _,hok,.inl rfl,ak _ _⟩
end
theorem Sf:(ej Tryz.prog 50).bind AV.aC=some [im 0,im 0]:=kZq
theorem P1:bF Tryz.prog 50=some 2:=kZq
theorem Tv:cZ Tryz.prog 50=some true:=kZq
theorem Sh{H:ae}{b:Nat}{x y:Int}(hb:H.boxes[b]?=some [im x,im y]):ai Tryz.prog Gt H 50 (.ptr (.box b) 0)=some (.agg [im x,im y]):=by
 rw[cP Tv P1 hb (Nat.le_refl 2)];rfl
theorem Tw{H:ae}{b:Nat}{x y u v:Int}(hb:H.boxes[b]?=some [im x,im y]):aA Tryz.prog H 50 (.ptr (.box b) 0) (.agg [im u,im v])=some (H.put b [im u,im v]):=
 aW (off:=0) (cs:=[im x,im y]) (xs:=[im u,im v]) rfl P1 hb rfl (Nat.le_refl 2)
def sU(z:List Int)(k:Nat):Int:=(z.take k).foldl cN 0
theorem HK{z:List Int}{k:Nat}(h:k<z.length):sU z (k+1)=cN (sU z k) (at0 z k):=by
 unfold sU
 rw[a9 (List.getElem?_eq_getElem h),List.foldl_append,bN h];rfl
structure nM(who N:List Int)(l:List Pr):Prop where
 len:l.length=who.length
 nl:N.length=2 * who.length
 ok:∀x∈N,okF x
 at_:∀i<who.length,∃no:Int,0<=no/\no<4096/\l[i]?=some ⟨at0 who i,no,(aY Gn (at0 N (2 * i)):Nat),(aY Gn (at0 N (2 * i+1)):Nat)⟩
theorem nM.ok1{who N:List Int}{l:List Pr}(c:nM who N l){i:Nat}(h:i<who.length):okF (at0 N (2 * i))/\okF (at0 N (2 * i+1)):=⟨c.ok _ (zC (by rw[c.nl];omega)),c.ok _ (zC (by rw[c.nl];omega))⟩
theorem nM.dj{who N:List Int}{l:List Pr}(c:nM who N l):l.map Pr.ag=who:=by
 refine List.ext_getElem? fun i=>?_
 rcases Nat.lt_or_ge i who.length with h|h
 ·obtain⟨no,-,-,q⟩:=c.at_ i h
  rw[List.getElem?_map,q,Option.map_some,bN h,List.getElem?_eq_getElem h]
 ·rw[List.getElem?_eq_none (by rw[List.length_map,c.len];exact h),List.getElem?_eq_none h]
theorem uo(n:Int):aX ((aY Gn n:Nat):Int)=true:=by
 have h:=iq gZ n
 unfold aX
 rw[Int.toNat_natCast,h,Bool.and_true,decide_eq_true_eq]
 have:=(elem_iff.1 h).1
 omega
theorem nV:∀{l:List Pr} {last:Int},cS last (l.map Pr.ag)=true->(∀p∈l,0<=p.no/\p.no<4096/\aX p.d=true/\aX p.e=true)->dy last l=true:=by
 intro l
 induction l with
 |nil=>intro _ _ _;rfl
 |cons p l ih=>
  intro last h1 h2
  rw[List.map_cons,cS] at h1
  simp only[Bool.and_eq_true,decide_eq_true_eq] at h1
  obtain⟨q1,q2,q3,q4⟩:=h2 p List.mem_cons_self
  rw[NT.dy,ih h1.2 fun q hq=>h2 q (List.mem_cons_of_mem _ hq),q3,q4]
  simp only[Bool.and_true,Bool.and_eq_true,decide_eq_true_eq]
  omega
theorem nM.mem{who N:List Int}{l:List Pr}(c:nM who N l){p:Pr}(hp:p∈l):∃i,∃(_:i<who.length) (no:Int),0<=no/\no<4096/\l[i]?=some p/\p=⟨at0 who i,no,(aY Gn (at0 N (2 * i)):Nat),(aY Gn (at0 N (2 * i+1)):Nat)⟩:=by
 obtain⟨i,hi⟩:=List.getElem?_of_mem hp
 have hil:=(List.getElem?_eq_some_iff.1 hi).1
 rw[c.len] at hil
 obtain⟨no,n1,n2,q⟩:=c.at_ i hil
 rw[hi] at q
 injection q with q
 exact⟨i,hil,no,n1,n2,hi,q⟩
theorem nM.E6{who N:List Int}{l:List Pr}(c:nM who N l)(hw:cS (-1) who=true):dy (-1) l=true:=by
 refine nV (by rw[c.dj];exact hw) fun p hp=>?_
 obtain⟨i,hi,no,n1,n2,-,rfl⟩:=c.mem hp
 exact⟨n1,n2,uo _,uo _⟩
def ixW(who:List Int)(k:Int):Nat:=who.idxOf k
theorem Lf{who:List Int}(hn:who.Nodup){i:Nat}(h:i<who.length):ixW who (at0 who i)=i:=by
 unfold ixW
 rw[bN h]
 exact hn.idxOf_getElem i h
theorem nM.Ty{who N:List Int}{l:List Pr}(c:nM who N l)(hw:cS (-1) who=true):O1 l (fun k=>at0 N (2 * ixW who k)) (fun k=>at0 N (2 * ixW who k+1)):=by
 intro p hp
 obtain⟨i,hi,no,n1,n2,-,rfl⟩:=c.mem hp
 simp only[Lf (nH hw).2 hi]
 exact⟨trivial,trivial⟩
theorem P2{rows:List (List Int)}{owners s:List Int}(hl:rows.length=owners.length)(k:Int):ofF owners [k] (fV rows s)=gK owners (bO rows s) k:=by
 unfold ofF gK cT fV
 rw[hl]
 have e:∀(L:List Nat),(∀i∈L,i<rows.length)->(L.map fun i=>(((i:Nat):Int),oa (rows.getD i []) s)).flatMap (mc owners [k])=(L.filter fun i=>decide (at0 owners i=k)).map fun i=>(((i:Nat):Int),at0 (bO rows s) i):=by
  intro L
  induction L with
  |nil=>intro _;rfl
  |cons i L ih=>
   intro hL
   have hi:=hL i List.mem_cons_self
   rw[List.map_cons,List.flatMap_cons,ih fun j hj=>hL j (List.mem_cons_of_mem _ hj),List.filter_cons]
   unfold mc
   rw[Int.toNat_natCast]
   by_cases q:at0 owners i=k
   ·rw[if_pos (by simp[q]),List.filter_cons_of_pos (by simp[q]),List.map_cons,List.map_cons,sN hi];rfl
   ·rw[if_neg (by simp[q]),List.filter_cons_of_neg (by simp[Ne.symm q])];rfl
 exact e _ fun i hi=>by rw[hl];exact List.mem_range.1 hi
section
variable {rows:List (List Int)} {owners who N s y:List Int} {l:List Pr} {text:List UInt8} {ep:Int}
theorem nN{aa:List Int}(c:nM who N l)(ha:bJ rows owners who=(y,true,0))(hne:who≠[])(hwl:who.length<=64)(ht:text.length<=65536)(he:0<=ep/\ep<=64)(hc:aa.length=aK rows)(hce:aa.all aX=true):cd rows owners ep aa text l=0:=by
 obtain⟨hp,hw,-⟩:=e7 ha
 unfold cd
 rw[if_neg (by simp[hp]),if_neg (by simp[hc,hce,he.1,he.2]),if_neg (by omega),if_neg (by rw[c.len];omega),if_neg (by rw[c.E6 hw];simp),c.dj,ha]
 have:who.length≠0:=fun q=>hne (List.length_eq_zero_iff.1 q)
 simp[c.len,this]
theorem eE(hs:s.length=aK rows):(ax s).length=aK rows/\(ax s).all aX=true:=⟨by unfold ax;rw[List.length_map,hs],zx⟩
theorem sV(c:nM who N l)(ha:bJ rows owners who=(y,true,0))(hne:who≠[])(hwl:who.length<=64)(ht:text.length<=65536)(he:0<=ep/\ep<=64)(hs:s.length=aK rows){i:Nat}(hi:i<who.length):
 fN rows owners ep (ax s) text l (at0 who i) (gK owners (bO rows s) (at0 who i)) (at0 N (2 * i)) (at0 N (2 * i+1))=
  (fD rows owners (ax s) text l (at0 who i) (at0 N (2 * i)) (at0 N (2 * i+1)) (gK owners (bO rows s) (at0 who i)),0):=by
 obtain⟨hp,hw,-⟩:=e7 ha
 unfold fN
 rw[if_neg (by rw[nN c ha hne hwl ht he (eE hs).1 (eE hs).2];simp)]
 obtain⟨no,-,-,q⟩:=c.at_ i hi
 have hm:=List.mem_of_getElem? q
 exact MA hp hs (c.E6 hw) hm rfl rfl (c.ok1 hi).1 (c.ok1 hi).2
theorem HL(c:nM who N l)(ha:bJ rows owners who=(y,true,0))(hne:who≠[])(hwl:who.length<=64)(ht:text.length<=65536)(he:0<=ep/\ep<=64)(hs:s.length=aK rows){i:Nat}(hi:i<who.length){z:Int}(hz:okF z):
 ia rows owners ep (ax s) text l (at0 who i) z=
  (decide (z=fD rows owners (ax s) text l (at0 who i) (at0 N (2 * i)) (at0 N (2 * i+1)) (gK owners (bO rows s) (at0 who i))),0):=by
 obtain⟨hp,hw,-⟩:=e7 ha
 unfold ia
 rw[if_neg (by rw[nN c ha hne hwl ht he (eE hs).1 (eE hs).2];simp)]
 obtain⟨no,-,-,q⟩:=c.at_ i hi
 have hm:=List.mem_of_getElem? q
 have hpo:=EA (c.E6 hw) hm
 unfold tG
 rw[hpo]
 simp only[iP.2 hz,Bool.not_true,Bool.false_eq_true,if_false]
 rw[JF hp hs rfl rfl hz]
theorem vY(c:nM who N l)(ha:bJ rows owners who=(y,true,0))(hs:s.length=aK rows):
 iO (at0 (ax s) 0) text ((aG (at0 (ax s) 0) text l:Nat):Int) (((List.range who.length).map fun i=>fD rows owners (ax s) text l (at0 who i) (at0 N (2 * i)) (at0 N (2 * i+1)) (gK owners (bO rows s) (at0 who i))).foldl cN 0)=true:=by
 obtain⟨hp,hw,-⟩:=e7 ha
 have hsg:=QU (text:=text) (l:=l) (by rw[c.dj];exact ha) hs (c.Ty hw)
 rw[c.dj] at hsg
 have e:(who.map fun k=>fD rows owners (ax s) text l k (at0 N (2 * ixW who k)) (at0 N (2 * ixW who k+1)) (gK owners (bO rows s) k))=(List.range who.length).map fun i=>fD rows owners (ax s) text l (at0 who i) (at0 N (2 * i)) (at0 N (2 * i+1)) (gK owners (bO rows s) (at0 who i)):=by
  refine List.ext_getElem? fun i=>?_
  rcases Nat.lt_or_ge i who.length with h|h
  ·have hx:=Lf (nH hw).2 h
   rw[List.getElem?_map,List.getElem?_map,List.getElem?_range h,List.getElem?_eq_getElem h,Option.map_some,Option.map_some]
   rw[bN h] at hx ⊢
   rw[hx]
  ·rw[List.getElem?_eq_none (by simpa using h),List.getElem?_eq_none (by simpa using h)]
 rw[e] at hsg
 exact hsg
end
def R3:List (List Int):=[[1,1],[1,2],[1,3]]
def O3:List Int:=[0,1,2]
def S2:List Int:=[10,4]
def txt:List UInt8:=[116,101,120,116]
def pA:Pr:=⟨0,0,(aY Gn 5:Nat),(aY Gn 6:Nat)⟩
def pB:Pr:=⟨2,2,(aY Gn 7:Nat),(aY Gn 8:Nat)⟩
theorem BR:bJ R3 O3 [0,2]=([536870896,0,536870894],true,0):=by decide+kernel
abbrev C3:List Int:=ax S2
abbrev b3(k:Int):Int:=((dP (at0 C3 0) txt [pA,pB] k:Nat):Int)
abbrev ch3:Int:=((aG (at0 C3 0) txt [pA,pB]:Nat):Int)
def x3:Int:=cN (cN 5 (cq 6 (b3 0))) (cq ch3 21)
def y3:Int:=cN (cN 7 (cq 8 (b3 2))) (cq ch3 1073741778)
def X3:AV:= .list .tight 1 [[.list .tight 1 (ints [1,1])],[.list .tight 1 (ints [1,2])],[.list .tight 1 (ints [1,3])]]
def Y3:AV:= .list .tight 1 (ints [0,1,2])
def Z3:AV:= .list .tight 1 (ints [4])
def T3:AV:= .list .held 1 (u8s txt)
theorem B8(h:ae)(hok:aZ h=true)(es:List (List AV)):∃H5 H6,h.fresh 1 es=(.list (.free h.tn) 1 es,H5)/\fm Tryz.prog H5 28 28 (.list (.free h.tn) 1 es)=some (.list .held 1 es,H6)/\Ext h H6/\H6.boxes=h.boxes:=by
 have hal:alive {h with tn:=h.tn+1} h.tn=true:=by
  unfold aZ at hok
  unfold alive
  simp only[Bool.and_eq_true,decide_eq_true_eq,Bool.not_eq_true']
  refine⟨Nat.lt_succ_self _,?_⟩
  cases hc:h.dead.contains h.tn with
  |false=>rfl
  |true=>
   have:=List.all_eq_true.1 hok h.tn (by simpa using hc)
   simp at this
 have u28:=Tryz.underlying28
 have u5:Tryz.prog.underlying 5=some (.int .u8):=kZq
 refine⟨{h with tn:=h.tn+1},{h with tn:=h.tn+1,dead:=h.tn::h.dead},rfl,?_,?_,rfl⟩
 ·unfold fm
  rw[u28]
  simp only[u5,hal,and_self,if_true]
 ·refine⟨fun _ _ q=>q,fun _ _ q=>q,Nat.le_succ _,fun n hn q=>?_,fun ho=>?_⟩
  ·rcases List.mem_cons.1 q with q|q
   ·omega
   ·exact q
  ·unfold aZ at *
   rw[List.all_cons,Bool.and_eq_true]
   refine⟨by simp,List.all_eq_true.2 fun x hx=>?_⟩
   have:=List.all_eq_true.1 ho x hx
   simp at this ⊢
   omega
theorem TH(a b:Int):fj Tryz.prog 50 [(0,im a),(1,im b)]=some (.agg [im a,im b]):=kZq
section
variable {rows:List (List Int)} {owners random eg:List Int} {bp sm:Int} {text:List UInt8}
def yh(rows:List (List Int))(owners s who N:List Int)(l:List Pr)(text:List UInt8)(i:Nat):Int:=
 fD rows owners (ax s) text l (at0 who i) (at0 N (2 * i)) (at0 N (2 * i+1)) (gK owners (bO rows s) (at0 who i))
end
theorem BL.Uu{x:AV}{b:List UInt8}(h:BL x b):x.aC=some [x]:=by obtain⟨k,s,rfl,-⟩:=h;rfl
def okZ(l:List Pr)(z:List Int):Bool:=decide (z.length=l.length)&&z.all inQ
def rA(l:List Pr)(i:Nat):Int:=at0 (l.map Pr.ag) i
def QK(rows:List (List Int))(owners:List Int)(ep:Int)(aa:List Int)(text:List UInt8)(l:List Pr)(z:List Int):(Int × Int) × Bool × Int:=
 if cd rows owners ep aa text l≠0 then ((0,0),false,cd rows owners ep aa text l)
 else if okZ l z=false then ((0,0),false,1)
 else if iO (at0 aa 0) text ((aG (at0 aa 0) text l:Nat):Int) (z.foldl cN 0) then ((((aG (at0 aa 0) text l:Nat):Int),z.foldl cN 0),true,0)
 else ((0,0),false,0)
def Uv(rows:List (List Int))(owners:List Int)(ep:Int)(aa:List Int)(text:List UInt8)(l:List Pr)(z:List Int)(i:Nat):List Int:=
 if (ia rows owners ep aa text l (rA l i) (at0 z i)).1 then [] else [rA l i]
def UF(rows:List (List Int))(owners:List Int)(ep:Int)(aa:List Int)(text:List UInt8)(l:List Pr)(z:List Int)(k:Nat):List Int:=
 (List.range k).flatMap (Uv rows owners ep aa text l z)
def sw(rows:List (List Int))(owners:List Int)(ep:Int)(aa:List Int)(text:List UInt8)(l:List Pr)(z:List Int):List Int × Int:=
 if cd rows owners ep aa text l≠0 then ([],cd rows owners ep aa text l)
 else if okZ l z=false then ([],1)
 else (UF rows owners ep aa text l z l.length,0)
theorem UH(rows:List (List Int))(owners:List Int)(ep:Int)(aa:List Int)(text:List UInt8)(l:List Pr)(z:List Int)(k:Nat):
 UF rows owners ep aa text l z (k+1)=UF rows owners ep aa text l z k++Uv rows owners ep aa text l z k:=by
 unfold UF
 rw[List.range_succ,List.flatMap_append];simp
theorem QO{l:List Pr}{z:List Int}:okZ l z=true↔z.length=l.length/\∀x∈z,okF x:=by
 unfold okZ
 simp only[Bool.and_eq_true,decide_eq_true_eq,List.all_eq_true,iP]
theorem UI{l:List Pr}{i:Nat}{p:Pr}(h:l[i]?=some p):rA l i=p.ag:=by
 have hl:=(List.getElem?_eq_some_iff.1 h)
 obtain⟨hi,e⟩:=hl
 unfold rA
 rw[bN (by rw[List.length_map];exact hi),List.getElem_map,e]
theorem U4{l:List Pr}{i:Nat}{p:Pr}(h:l[i]?=some p):∃q,gl l p.ag=some q:=by
 unfold gl
 cases hq:l.find? fun x=>decide (x.ag=p.ag) with
 |some q=>exact⟨q,rfl⟩
 |none=>
  have:=List.find?_eq_none.1 hq p (List.mem_of_getElem? h)
  simp at this
theorem VD{rows:List (List Int)}{owners aa:List Int}{ep:Int}{text:List UInt8}{l:List Pr}{z:List Int}(hb:cd rows owners ep aa text l=0)(hz:okZ l z=true){i:Nat}(hi:i<l.length):
 (ia rows owners ep aa text l (rA l i) (at0 z i)).2=0:=by
 obtain⟨hl,ho⟩:=QO.1 hz
 have hp:l[i]?=some l[i]:=List.getElem?_eq_getElem hi
 rw[UI hp]
 obtain⟨q,hq⟩:=U4 hp
 have hin:inQ (at0 z i)=true:=iP.2 (ho _ (zC (by omega)))
 unfold ia tG
 rw[if_neg (by rw[hb];simp),hq]
 simp[hin]
theorem U5{α:Type}(f:Nat->α)(p:Nat->Bool):∀L:List Nat,L.flatMap (fun i=>if p i then [] else [f i])=(L.filter fun i=> !p i).map f:=by
 intro L
 induction L with
 |nil=>rfl
 |cons a L ih=>
  rw[List.flatMap_cons,ih,List.filter_cons]
  cases p a<;>rfl
theorem filter_one{n i:Nat}(h:i<n):((List.range n).filter fun j=>decide (j=i))=[i]:=by
 induction n with
 |zero=>omega
 |succ n ih=>
  rw[List.range_succ,List.filter_append]
  by_cases e:i=n
  ·subst e
   have:((List.range i).filter fun j=>decide (j=i))=[]:=List.filter_eq_nil_iff.2 fun j hj=>by have:=List.mem_range.1 hj;simp;omega
   rw[this];simp
  ·rw[ih (by omega)]
   have:decide (n=i)=false:=decide_eq_false (by omega)
   simp[this]
theorem Vj{n:Nat}(h:2<=n):((List.range n).filter fun j=>decide (j<2))=[0,1]:=by
 induction n with
 |zero=>omega
 |succ n ih=>
  by_cases e:n=1
  ·subst e;rfl
  ·rw[List.range_succ,List.filter_append,ih (by omega)]
   have:decide (n<2)=false:=decide_eq_false (by omega)
   simp[this]
theorem V3:∀{who:List Int},2<=who.length->[0,1].map (at0 who)=who.take 2
 | [],h=>by simp at h
 | [_],h=>by simp at h
 |a::b::t,_=>rfl
section
variable {rows:List (List Int)} {owners who N s y z:List Int} {l:List Pr} {text:List UInt8} {ep:Int}
def db(rows:List (List Int))(owners s who N:List Int)(l:List Pr)(text:List UInt8):List Int:=(List.range who.length).map (yh rows owners s who N l text)
theorem hU:(db rows owners s who N l text).length=who.length:=by unfold db;simp
theorem NS{i:Nat}(h:i<who.length):at0 (db rows owners s who N l text) i=yh rows owners s who N l text i:=by
 unfold db
 rw[bN (by simpa using h),List.getElem_map,List.getElem_range]
theorem Uk(i:Nat):okF (yh rows owners s who N l text i):=JC
theorem Ug(c:nM who N l):okZ l (db rows owners s who N l text)=true:=by
 refine QO.2 ⟨by rw[hU,c.len],fun x hx=>?_⟩
 unfold db at hx
 obtain⟨i,-,rfl⟩:=List.mem_map.1 hx
 exact Uk i
theorem VE(c:nM who N l)(i:Nat):rA l i=at0 who i:=by unfold rA;rw[c.dj]
structure lP(rows:List (List Int))(owners who N s y:List Int)(l:List Pr)(text:List UInt8)(ep:Int):Prop where
 Ur:nM who N l
 acc:bJ rows owners who=(y,true,0)
 ne:who≠[]
 wl:who.length<=64
 tl:text.length<=65536
 ep:0<=ep/\ep<=64
 sl:s.length=aK rows
theorem lP.UA(c:lP rows owners who N s y l text ep):cd rows owners ep (ax s) text l=0:=
 nN c.Ur c.acc c.ne c.wl c.tl c.ep (eE c.sl).1 (eE c.sl).2
theorem lP.QU(c:lP rows owners who N s y l text ep):iO (at0 (ax s) 0) text ((aG (at0 (ax s) 0) text l:Nat):Int) ((db rows owners s who N l text).foldl cN 0)=true:=
 vY c.Ur c.acc c.sl
theorem lP.comb(c:lP rows owners who N s y l text ep):QK rows owners ep (ax s) text l (db rows owners s who N l text)=
 ((((aG (at0 (ax s) 0) text l:Nat):Int),(db rows owners s who N l text).foldl cN 0),true,0):=by
 unfold QK
 rw[if_neg (by rw[c.UA];simp),if_neg (by rw[Ug c.Ur];simp),c.QU,if_pos rfl]
theorem lP.UQ(c:lP rows owners who N s y l text ep)(hz:okZ l z=true):QK rows owners ep (ax s) text l z=
 if iO (at0 (ax s) 0) text ((aG (at0 (ax s) 0) text l:Nat):Int) (z.foldl cN 0) then ((((aG (at0 (ax s) 0) text l:Nat):Int),z.foldl cN 0),true,0) else ((0,0),false,0):=by
 unfold QK
 rw[if_neg (by rw[c.UA];simp),if_neg (by rw[hz];simp)]
theorem lP.U6(c:lP rows owners who N s y l text ep)(hz:okZ l z=false):QK rows owners ep (ax s) text l z=((0,0),false,1):=by
 unfold QK
 rw[if_neg (by rw[c.UA];simp),if_pos hz]
theorem lP.UJ(c:lP rows owners who N s y l text ep)(hz:okZ l z=false):sw rows owners ep (ax s) text l z=([],1):=by
 unfold sw
 rw[if_neg (by rw[c.UA];simp),if_pos hz]
theorem lP.U7(c:lP rows owners who N s y l text ep)(hz:okZ l z=true):sw rows owners ep (ax s) text l z=
 (((List.range who.length).filter fun i=> !decide (at0 z i=yh rows owners s who N l text i)).map (at0 who),0):=by
 unfold sw
 rw[if_neg (by rw[c.UA];simp),if_neg (by rw[hz];simp)]
 rw[<-U5]
 unfold UF
 rw[c.Ur.len]
 refine congrArg (fun q=>(q,(0:Int))) ?_
 obtain⟨hl,ho⟩:=QO.1 hz
 have key:∀L:List Nat,(∀i∈L,i<who.length)->L.flatMap (Uv rows owners ep (ax s) text l z)=L.flatMap fun i=>if decide (at0 z i=yh rows owners s who N l text i) then [] else [at0 who i]:=by
  intro L
  induction L with
  |nil=>intro _;rfl
  |cons i L ih=>
   intro hL
   have hi:=hL i List.mem_cons_self
   rw[List.flatMap_cons,List.flatMap_cons,ih fun j hj=>hL j (List.mem_cons_of_mem _ hj)]
   unfold Uv
   rw[VE c.Ur,HL c.Ur c.acc c.ne c.wl c.tl c.ep c.sl hi (ho _ (zC (by rw[hl,c.Ur.len];exact hi)))]
   rfl
 exact key _ fun i hi=>List.mem_range.1 hi
theorem lP.UB(c:lP rows owners who N s y l text ep):sw rows owners ep (ax s) text l (db rows owners s who N l text)=([],0):=by
 rw[c.U7 (Ug c.Ur)]
 refine congrArg (fun q=>(q,(0:Int))) ?_
 rw[List.map_eq_nil_iff]
 refine List.filter_eq_nil_iff.2 fun i hi=>?_
 rw[NS (List.mem_range.1 hi)];simp
theorem lP.UK(c:lP rows owners who N s y l text ep){i:Nat}(hi:i<who.length){v:Int}(hv:okF v)(hne:v≠yh rows owners s who N l text i):
 sw rows owners ep (ax s) text l ((db rows owners s who N l text).set i v)=([at0 who i],0)/\okZ l ((db rows owners s who N l text).set i v)=true:=by
 have ok:okZ l ((db rows owners s who N l text).set i v)=true:=by
  obtain⟨h1,h2⟩:=QO.1 (Ug (rows:=rows) (owners:=owners) (s:=s) (text:=text) c.Ur)
  refine QO.2 ⟨by rw[List.length_set];exact h1,fun x hx=>?_⟩
  rcases List.mem_or_eq_of_mem_set hx with q|rfl
  ·exact h2 x q
  ·exact hv
 refine⟨?_,ok⟩
 rw[c.U7 ok]
 refine congrArg (fun q=>(q,(0:Int))) ?_
 have e:((List.range who.length).filter fun j=> !decide (at0 ((db rows owners s who N l text).set i v) j=yh rows owners s who N l text j))=((List.range who.length).filter fun j=>decide (j=i)):=by
  refine List.filter_congr fun j hj=>?_
  have hj:=List.mem_range.1 hj
  rw[bN (by rw[List.length_set,hU];exact hj),List.getElem_set]
  by_cases q:i=j
  ·subst q
   simp[hne]
  ·rw[if_neg q,<-bN (by rw[hU];exact hj),NS hj]
   have:¬j=i:=fun z=>q z.symm
   simp[this]
 rw[e,filter_one hi];rfl
theorem lP.VF(c:lP rows owners who N s y l text ep)(hi:2<=who.length){v w:Int}(hv:okF v)(hw:okF w)(hne:v≠yh rows owners s who N l text 0)(hnf:w≠yh rows owners s who N l text 1):
 sw rows owners ep (ax s) text l (((db rows owners s who N l text).set 0 v).set 1 w)=(who.take 2,0)/\okZ l (((db rows owners s who N l text).set 0 v).set 1 w)=true:=by
 have ok:okZ l (((db rows owners s who N l text).set 0 v).set 1 w)=true:=by
  obtain⟨h1,h2⟩:=QO.1 (Ug (rows:=rows) (owners:=owners) (s:=s) (text:=text) c.Ur)
  refine QO.2 ⟨by rw[List.length_set,List.length_set];exact h1,fun x hx=>?_⟩
  rcases List.mem_or_eq_of_mem_set hx with q|rfl
  ·rcases List.mem_or_eq_of_mem_set q with q|rfl
   ·exact h2 x q
   ·exact hv
  ·exact hw
 refine⟨?_,ok⟩
 rw[c.U7 ok]
 refine congrArg (fun q=>(q,(0:Int))) ?_
 have e:((List.range who.length).filter fun j=> !decide (at0 (((db rows owners s who N l text).set 0 v).set 1 w) j=yh rows owners s who N l text j))=((List.range who.length).filter fun j=>decide (j<2)):=by
  refine List.filter_congr fun j hj=>?_
  have hj:=List.mem_range.1 hj
  rw[bN (by rw[List.length_set,List.length_set,hU];exact hj),List.getElem_set]
  by_cases q:1=j
  ·subst q
   simp[hnf]
  ·rw[if_neg q,List.getElem_set]
   by_cases q0:0=j
   ·subst q0
    simp[hne]
   ·rw[if_neg q0,<-bN (by rw[hU];exact hj),NS hj]
    have:¬j<2:=by omega
    simp[this]
 rw[e,Vj hi]
 exact V3 hi
theorem V4{a b v w:Int}{t:List Int}(h:(v+w - (a+b))%Qi=0):(v::w::t).foldl cN 0=(a::b::t).foldl cN 0:=by
 show t.foldl cN (cN (cN 0 v) w)=t.foldl cN (cN (cN 0 a) b)
 have e:cN (cN 0 v) w=cN (cN 0 a) b:=by
  simp only[jU,Qi] at *
  omega
 rw[e]
end
theorem QR:Tryz.f38.results.toList=[.cell 12 66,.tmp 13,.tmp 14]:=kZq
def fa(ep:Int)(X Y C T L Z:AV):List AV:=[im ep,X,Y,C,T,L,Z]
theorem VG:(ej Tryz.prog 66).bind AV.aC=some (fa 0 nl nl nl nl nl nl):=kZq
theorem Uo:bF Tryz.prog 66=some 7:=kZq
theorem YO:cZ Tryz.prog 66=some true:=kZq
theorem Tx:(∀b,aJ Tryz.prog 66 (.ptr (.box b) 0) 0=some (.ptr (.box b) 0))/\(∀b,aJ Tryz.prog 66 (.ptr (.box b) 0) 1=some (.ptr (.box b) 4))/\(∀b,aJ Tryz.prog 66 (.ptr (.box b) 0) 2=some (.ptr (.box b) 5))/\∀b,aJ Tryz.prog 66 (.ptr (.box b) 0) 3=some (.ptr (.box b) 6):=
 ⟨fun b=>kZq,fun b=>kZq,fun b=>kZq,fun b=>kZq⟩
theorem Yd:(∀b,aJ Tryz.prog 81 (.ptr (.box b) 0) 0=some (.ptr (.box b) 0))/\∀b,aJ Tryz.prog 81 (.ptr (.box b) 0) 1=some (.ptr (.box b) 1):=⟨fun b=>kZq,fun b=>kZq⟩
theorem YP:(ej Tryz.prog 81).bind AV.aC=some (eu (0,0)):=kZq
theorem Ye{H:ae}(p:Int × Int):aA Tryz.prog (H.push (eu (0,0))) 81 (.ptr (.box H.boxes.length) 0) (.agg (eu p))=some (H.push (eu p)):=cQ rfl M4 rfl rfl
theorem Yf{H:ae}{b:Nat}{p:Int × Int}(hb:H.boxes[b]?=some (eu p)):ai Tryz.prog Gt H 81 (.ptr (.box b) 0)=some (.agg (eu p)):=by
 rw[cP Th M4 hb (Nat.le_refl 2)];rfl
section
variable {H:ae} {b:Nat} {ep:Int} {X Y C S L Z x:AV}
theorem Yg{T:List AV}(hb:H.boxes[b]?=some T)(hl:T.length=7):ai Tryz.prog Gt H 66 (.ptr (.box b) 0)=some (.agg T):=by
 rw[cP YO Uo hb (by omega)]
 rw[List.drop_zero,List.take_of_length_le (by omega)]
theorem Yh{T T2:List AV}(hb:H.boxes[b]?=some T)(hl:T.length=7)(hx:(AV.agg T2).aC=some T2)(hl2:T2.length=7):aA Tryz.prog H 66 (.ptr (.box b) 0) (.agg T2)=some (H.put b T2):=by
 rw[aW (off:=0) (cs:=T) (xs:=T2) hx Uo hb hl2 (by omega),jc (by omega)]
theorem Yi{ep2:Int}{X2 Y2 C2:AV}(hb:H.boxes[b]?=some (fa ep X Y C S L Z))(hx:(AV.agg (cI ep2 X2 Y2 C2)).aC=some (cI ep2 X2 Y2 C2)):aA Tryz.prog H 27 (.ptr (.box b) 0) (.agg (cI ep2 X2 Y2 C2))=some (H.put b (fa ep2 X2 Y2 C2 S L Z)):=
 aW (off:=0) (cs:=fa ep X Y C S L Z) (xs:=cI ep2 X2 Y2 C2) hx Nc hb rfl (Nat.le_of_ble_eq_true rfl)
theorem Yj(hb:H.boxes[b]?=some (fa ep X Y C S L Z))(hx:x.aC=some [x]):aA Tryz.prog H 28 (.ptr (.box b) 4) x=some (H.put b (fa ep X Y C x L Z)):=
 aW (off:=4) (cs:=fa ep X Y C S L Z) (xs:=[x]) hx SP hb rfl (Nat.le_of_ble_eq_true rfl)
theorem Yk(hb:H.boxes[b]?=some (fa ep X Y C S L Z))(hx:x.aC=some [x]):aA Tryz.prog H 29 (.ptr (.box b) 5) x=some (H.put b (fa ep X Y C S x Z)):=
 aW (off:=5) (cs:=fa ep X Y C S L Z) (xs:=[x]) hx Tr hb rfl (Nat.le_of_ble_eq_true rfl)
theorem Yl(hb:H.boxes[b]?=some (fa ep X Y C S L Z))(hx:x.aC=some [x]):aA Tryz.prog H 23 (.ptr (.box b) 6) x=some (H.put b (fa ep X Y C S L x)):=
 aW (off:=6) (cs:=fa ep X Y C S L Z) (xs:=[x]) hx jC hb rfl (Nat.le_of_ble_eq_true rfl)
theorem WS(hb:H.boxes[b]?=some (fa ep X Y C S L Z)):ai Tryz.prog Gt H 27 (.ptr (.box b) 0)=some (.agg (cI ep X Y C)):=by
 rw[cP kZq Nc hb (Nat.le_of_ble_eq_true rfl)];rfl
theorem N0{rows:List (List Int)}{owners aa z:List Int}{text:List UInt8}{l:List Pr}(hx:RL X rows)(hy:IL Y owners)(hc:IL C aa)(hs:BL S text)(hl:PL L l)(hn:IL Z z):
 (AV.agg (fa ep X Y C S L Z)).aC=some (fa ep X Y C S L Z):=by
 obtain⟨_,_,_,rfl,-⟩:=hx.form
 obtain⟨_,_,rfl,-⟩:=hy
 obtain⟨_,_,rfl,-⟩:=hc
 obtain⟨_,_,rfl,-⟩:=hs
 obtain⟨_,_,rfl,-⟩:=hl
 obtain⟨_,_,rfl,-⟩:=hn
 rfl
end
structure TI2(h H:ae)(X Y:AV)(T:List AV)(tz to:Tok):Prop where
 ti:TI h H X Y T tz
 co:bG h.tn H to
 ne:∀a,tz= .free a->to≠ .free a
theorem TI2.start{h H:ae}{X Y:AV}{T:List AV}{tz:Tok}(b:TI h H X Y T tz):TI2 h H X Y T tz .nil:=⟨b,.inl rfl,fun _ _ q=>by cases q⟩
theorem TI2.push{h H:ae}{X Y:AV}{T:List AV}{tz to:Tok}(b:TI2 h H X Y T tz to)(cs:List AV):TI2 h (H.push cs) X Y T tz to:=⟨b.ti.push cs,by rw[ij];exact b.co,b.ne⟩
theorem TI2.app{h H:ae}{X Y:AV}{T:List AV}{tz to:Tok}(b:TI2 h H X Y T tz to):TI2 h (H.app to) X Y T tz (.free H.tn):=by
 have gr:=Grown.one b.co b.ti.ok b.ti.ext.tn
 refine⟨⟨gr.ext b.ti.ext (Nat.le_refl _),gr.ok,xR b.ti.can fun a ha he=>b.ne a he ha,by rw[aT];exact b.ti.pb,by rw[aT];exact b.ti.tb⟩,gr.can,fun a ha he=>?_⟩
 injection he with he
 subst he
 rcases b.ti.can with q|q|⟨m,q,-,q2⟩
 ·rw[q] at ha;cases ha
 ·rw[q] at ha;cases ha
 ·rw[q] at ha
  injection ha with ha
  have:=gG q2
  omega
def bq(who N:List Int):List Pr:=(List.range who.length).map fun i=>⟨at0 who i,(i:Int),(aY Gn (at0 N (2 * i)):Nat),(aY Gn (at0 N (2 * i+1)):Nat)⟩
theorem rB(who N:List Int):(bq who N).length=who.length:=by unfold bq;simp
theorem U8(who N:List Int)(h1:N.length=2 * who.length)(h2:∀x∈N,okF x)(h3:who.length<=4096):nM who N (bq who N):=
 ⟨rB _ _,h1,h2,fun i hi=>⟨(i:Int),by omega,by omega,by unfold bq;rw[List.getElem?_map,List.getElem?_range hi];rfl⟩⟩
def okC(rows:List (List Int))(owners:List Int)(bp:Int)(random who N:List Int)(text:List UInt8):Bool:=
 jN rows owners&&(decide (1<=bp)&&(decide (bp<1073741789)&&(decide (random.length=aK rows - 1)&&(random.all inQ&&(cS (-1) who&&(decide (who.length≠0)&&(decide (who.length<=7)&&(decide (N.length=2 * who.length)&&(N.all inQ&&decide (text.length<=300))))))))))
def UC(rows:List (List Int))(owners:List Int)(bp:Int)(random who N:List Int)(text:List UInt8):Bool:=okC rows owners bp random who N text&&(bJ rows owners who).2.1
theorem QM{rows:List (List Int)}{owners:List Int}{bp:Int}{random who N:List Int}{text:List UInt8}(h:UC rows owners bp random who N text=true):
 ∃y,lP rows owners who N (bp::random) y (bq who N) text 0/\rows.length<=16/\aK rows<=16/\1<=bp/\bp<1073741789/\who.length<=7/\text.length<=300/\bC rows owners=0:=by
 unfold UC okC at h
 simp only[Bool.and_eq_true,decide_eq_true_eq] at h
 obtain⟨⟨h1,h2,h3,h4,h5,h6,h7,h8,h9,h10,h11⟩,h12⟩:=h
 unfold jN at h1
 simp only[Bool.and_eq_true,decide_eq_true_eq] at h1
 have h13:=rW h1.1.2 h6
 have hcp:=(fI h1.1.2).1
 refine⟨(bJ rows owners who).1,⟨U8 who N h9 (fun x hx=>iP.1 (List.all_eq_true.1 h10 x hx)) (by omega),?_,fun q=>h7 (by rw[q];rfl),by omega,by omega,by decide,by rw[List.length_cons];omega⟩,h1.1.1,h1.2,h2,h3,h8,h11,h1.1.2⟩
 rw[<-h12,<-h13]
def Vt(rows:List (List Int))(owners:List Int)(X Y T:AV)(bp:Int)(random who N:List Int)(text:List UInt8)(r:Res):Prop:=
 (UC rows owners bp random who N text=false/\r= .ret (.tuple [.agg (fa 0 nl nl nl nl nl nl),.v (.bool false),.v (.bool true)]))∨
 (UC rows owners bp random who N text=true/\∃C L Z,r= .ret (.tuple [.agg (fa 0 X Y C T L Z),.v (.bool true),.v (.bool true)])/\IL C (ax (bp::random))/\PL L (bq who N)/\IL Z (db rows owners (bp::random) who N (bq who N) text))
theorem VH(h:ae)(hok:aZ h=true)(X Y R W NV T:AV)(rows:List (List Int))(owners:List Int)(bp:Int)(random who N:List Int)(text:List UInt8)
 (hx:RL X rows) (hy:IL Y owners) (hr:IL R random) (hw:IL W who) (hn:IL NV N) (ht:BL T text) (hrl:random.length<=9223372036854775807) (hwl:who.length<=9223372036854775807) (hnl:N.length<=9223372036854775807):
 ∃r h',W6.call 38 [.agg [X,Y],im bp,R,W,NV,T] h=some (r,h')/\Ext h h'/\Vt rows owners X Y T bp random who N text r:=by
 have bx:=ff hx hy
 have zc:=VG
 have c1:=PV X Y rows owners hx hy
 have c2:=BZ X Y rows owners hx hy
 have c3:=Ut R random hr (by omega)
 have c4:=Vi W who hw (by omega)
 have c5:=Ut NV N hn (by omega)
 have lnR:=hr.cH
 have lnW:=hw.cH
 have lnN:=hn.cH
 have lnT:=ht.cH
 have hok0:TI h ((h.push [X,Y]).push (fa 0 nl nl nl nl nl nl)) X Y (fa 0 nl nl nl nl nl nl) .nil:=
  ⟨(Ext.push _ _).trans (.push _ _),hok,.inl rfl,aj (ak _ _),by
    have:=ak (h.push [X,Y]) (fa 0 nl nl nl nl nl nl)
    rwa [az] at this⟩
 have hn1:(h.push [X,Y]).boxes.length=h.boxes.length+1:=az _ _
 obtain⟨H0,hH0⟩:∃H0,(h.push [X,Y]).push (fa 0 nl nl nl nl nl nl)=H0:=⟨_,rfl⟩
 rw[hH0] at hok0
 have l1:ai Tryz.prog Gt H0 25 (.ptr (.box h.boxes.length) 0)=some (.agg [X,Y]):=ma hok0.pb
 have l2:=Yg hok0.tb rfl
 have s2:=Yh hok0.tb rfl (T2:=fa 0 nl nl nl nl nl nl) rfl rfl
 rw[ec hok0.tb] at s2
 have kT:=ah.mk hok0
 have kf:=ah.mk (And.intro hx (And.intro hy (And.intro hr (And.intro hw (And.intro hn (And.intro ht hok))))))
 have kd:ah (okC rows owners bp random who N text=(jN rows owners&&(decide (1<=bp)&&(decide (bp<1073741789)&&(decide (random.length=aK rows - 1)&&(random.all inQ&&(cS (-1) who&&(decide (who.length≠0)&&(decide (who.length<=7)&&(decide (N.length=2 * who.length)&&(N.all inQ&&decide (text.length<=300)))))))))))):=⟨rfl⟩
 have kno:ah (okC rows owners bp random who N text=false->Vt rows owners X Y T bp random who N text (.ret (.tuple [.agg (fa 0 nl nl nl nl nl nl),.v (.bool false),.v (.bool true)]))):=⟨fun q=> .inl ⟨by unfold UC;rw[q];rfl,rfl⟩⟩
 clear hx hy hr hw hn ht hok hok0
 refine aL rfl Tryz.func38 rfl ?_
 by_cases hs:jN rows owners=true
 rotate_left 1
 ·have kz:ah (okC rows owners bp random who N text=false):=⟨by rw[kd.out];simp[hs]⟩
  have hs':jN rows owners=false:=by simpa using hs
  rw[hs'] at c1
  clear hs hs'
  clear kd
  unfold im at *
  repeat' (first|simp(maxSteps:=999999) (disch:=first|exact dZ|fail) only[gW,reduceIte,Nat.reduceEqDiff,beq_self_eq_true,QR,aw,hn1,hH0, *] | (refine dX ?_ ?_<;>(intro _;try omega)))
  exact⟨_,_,rfl,kT.out.ext,kno.out kz.out⟩
 rw[hs] at c1
 have hpr:bC rows owners=0/\rows.length<=16/\aK rows<=16:=by
  have:=hs;unfold jN at this;simp only[Bool.and_eq_true,decide_eq_true_eq] at this;exact⟨this.1.2,this.1.1,this.2⟩
 have hcp:0<aK rows:=(fI hpr.1).1
 have hc16:aK rows<=16:=hpr.2.2
 have kpr:=ah.mk hpr
 clear hpr
 by_cases h2:1<=bp
 rotate_left 1
 ·have kz:ah (okC rows owners bp random who N text=false):=⟨by rw[kd.out];simp[hs,h2]⟩
  have g:bp<1:=by omega
  clear h2
  clear kd
  unfold im at *
  repeat' (first|simp(maxSteps:=999999) (disch:=first|exact dZ|fail) only[gW,reduceIte,Nat.reduceEqDiff,beq_self_eq_true,QR,aw,hn1,hH0, *] | (refine dX ?_ ?_<;>(intro _;try omega)))
  exact⟨_,_,rfl,kT.out.ext,kno.out kz.out⟩
 by_cases h3:bp<1073741789
 rotate_left 1
 ·have kz:ah (okC rows owners bp random who N text=false):=⟨by rw[kd.out];simp[hs,h2,h3]⟩
  have g:1073741789<=bp:=by omega
  clear h3
  clear kd
  unfold im at *
  repeat' (first|simp(maxSteps:=999999) (disch:=first|exact dZ|fail) only[gW,reduceIte,Nat.reduceEqDiff,beq_self_eq_true,QR,aw,hn1,hH0, *] | (refine dX ?_ ?_<;>(intro _;try omega)))
  exact⟨_,_,rfl,kT.out.ext,kno.out kz.out⟩
 by_cases h4:random.length=aK rows - 1
 rotate_left 1
 ·have kz:ah (okC rows owners bp random who N text=false):=⟨by rw[kd.out];simp[hs,h2,h3,h4]⟩
  have g:¬((random.length:Nat):Int)=((aK rows:Nat):Int) - 1:=by omega
  clear h4
  clear kd
  unfold im at *
  repeat' (first|simp(maxSteps:=999999) (disch:=first|exact dZ|fail) only[gW,reduceIte,Nat.reduceEqDiff,beq_self_eq_true,QR,aw,hn1,hH0, *] | (refine dX ?_ ?_<;>(intro _;try omega)))
  exact⟨_,_,rfl,kT.out.ext,kno.out kz.out⟩
 by_cases h5:random.all inQ=true
 rotate_left 1
 ·have kz:ah (okC rows owners bp random who N text=false):=⟨by rw[kd.out];simp[hs,h2,h3,h4,h5]⟩
  have h5':random.all inQ=false:=by simpa using h5
  rw[h5'] at c3
  clear h5 h5'
  clear kd
  unfold im at *
  repeat' (first|simp(maxSteps:=999999) (disch:=first|exact dZ|fail) only[gW,reduceIte,Nat.reduceEqDiff,beq_self_eq_true,QR,aw,hn1,hH0, *] | (refine dX ?_ ?_<;>(intro _;try omega)))
  exact⟨_,_,rfl,kT.out.ext,kno.out kz.out⟩
 rw[h5] at c3
 by_cases h6:cS (-1) who=true
 rotate_left 1
 ·have kz:ah (okC rows owners bp random who N text=false):=⟨by rw[kd.out];simp[hs,h2,h3,h4,h5,h6]⟩
  have h6':cS (-1) who=false:=by simpa using h6
  rw[h6'] at c4
  clear h6 h6'
  clear kd
  unfold im at *
  repeat' (first|simp(maxSteps:=999999) (disch:=first|exact dZ|fail) only[gW,reduceIte,Nat.reduceEqDiff,beq_self_eq_true,QR,aw,hn1,hH0, *] | (refine dX ?_ ?_<;>(intro _;try omega)))
  exact⟨_,_,rfl,kT.out.ext,kno.out kz.out⟩
 rw[h6] at c4
 by_cases h7:who.length≠0
 rotate_left 1
 ·have kz:ah (okC rows owners bp random who N text=false):=⟨by rw[kd.out];simp[hs,h2,h3,h4,h5,h6,h7]⟩
  have g:((who.length:Nat):Int)=0:=by omega
  clear h7
  clear kd
  unfold im at *
  repeat' (first|simp(maxSteps:=999999) (disch:=first|exact dZ|fail) only[gW,reduceIte,Nat.reduceEqDiff,beq_self_eq_true,QR,aw,hn1,hH0, *] | (refine dX ?_ ?_<;>(intro _;try omega)))
  exact⟨_,_,rfl,kT.out.ext,kno.out kz.out⟩
 by_cases h8:who.length<=7
 rotate_left 1
 ·have kz:ah (okC rows owners bp random who N text=false):=⟨by rw[kd.out];simp[hs,h2,h3,h4,h5,h6,h7,h8]⟩
  have g:(7:Int)<((who.length:Nat):Int):=by omega
  clear h8
  clear kd
  unfold im at *
  repeat' (first|simp(maxSteps:=999999) (disch:=first|exact dZ|fail) only[gW,reduceIte,Nat.reduceEqDiff,beq_self_eq_true,QR,aw,hn1,hH0, *] | (refine dX ?_ ?_<;>(intro _;try omega)))
  exact⟨_,_,rfl,kT.out.ext,kno.out kz.out⟩
 by_cases h9:N.length=2 * who.length
 rotate_left 1
 ·have kz:ah (okC rows owners bp random who N text=false):=⟨by rw[kd.out];simp[hs,h2,h3,h4,h5,h6,h7,h8,h9]⟩
  have g:¬((N.length:Nat):Int)=2 * ((who.length:Nat):Int):=by omega
  clear h9
  clear kd
  unfold im at *
  repeat' (first|simp(maxSteps:=999999) (disch:=first|exact dZ|fail) only[gW,reduceIte,Nat.reduceEqDiff,beq_self_eq_true,QR,aw,hn1,hH0, *] | (refine dX ?_ ?_<;>(intro _;try omega)))
  exact⟨_,_,rfl,kT.out.ext,kno.out kz.out⟩
 by_cases h10:N.all inQ=true
 rotate_left 1
 ·have kz:ah (okC rows owners bp random who N text=false):=⟨by rw[kd.out];simp[hs,h2,h3,h4,h5,h6,h7,h8,h9,h10]⟩
  have h10':N.all inQ=false:=by simpa using h10
  rw[h10'] at c5
  clear h10 h10'
  clear kd
  unfold im at *
  repeat' (first|simp(maxSteps:=999999) (disch:=first|exact dZ|fail) only[gW,reduceIte,Nat.reduceEqDiff,beq_self_eq_true,QR,aw,hn1,hH0, *] | (refine dX ?_ ?_<;>(intro _;try omega)))
  exact⟨_,_,rfl,kT.out.ext,kno.out kz.out⟩
 rw[h10] at c5
 by_cases h11:text.length<=300
 rotate_left 1
 ·have kz:ah (okC rows owners bp random who N text=false):=⟨by rw[kd.out];simp[hs,h2,h3,h4,h5,h6,h7,h8,h9,h10,h11]⟩
  have g:(300:Int)<((text.length:Nat):Int):=by omega
  clear h11
  clear kd
  unfold im at *
  repeat' (first|simp(maxSteps:=999999) (disch:=first|exact dZ|fail) only[gW,reduceIte,Nat.reduceEqDiff,beq_self_eq_true,QR,aw,hn1,hH0, *] | (refine dX ?_ ?_<;>(intro _;try omega)))
  exact⟨_,_,rfl,kT.out.ext,kno.out kz.out⟩
 have kyes:ah (okC rows owners bp random who N text=true):=⟨by rw[kd.out];simp[hs,h2,h3,h4,h5,h6,h7,h8,h9,h10,h11]⟩
 clear kd kno
 have gA:((random.length:Nat):Int)=((aK rows:Nat):Int) - 1:=by omega
 have gB:¬((who.length:Nat):Int)=0:=by omega
 have gC:((N.length:Nat):Int)=2 * ((who.length:Nat):Int):=by omega
 have hde:mb rows owners bp random=0:=by
  unfold mb
  rw[if_neg (by simp[kpr.out.1]),if_pos]
  rw[Bool.and_eq_true,Bool.and_eq_true]
  exact⟨⟨iP.2 ⟨by omega,h3⟩,h5⟩,decide_eq_true (by omega)⟩
 obtain⟨S,C,hS,hC,c6⟩:∃S C,SL S (fV rows (bp::random))/\IL C (ax (bp::random))/\∀h,W6.call 44 [.agg [X,Y],im bp,R] h=some (.ret (.tuple [S,C,im 0]),h):=by
  rcases N1 X Y R rows owners random bp kf.out.1 kf.out.2.1 kf.out.2.2.1 (by omega) (by have:=kpr.out.2.1;omega) with⟨z,-⟩|⟨-,z⟩
  ·exact absurd hde z
  ·exact z
 have hS2:(bp::random).length=aK rows:=by rw[List.length_cons];omega
 have hacc:=K9 X Y W rows owners who kf.out.1 kf.out.2.1 kf.out.2.2.2.1 (by omega)
 have hz:(bJ rows owners who).2.2=0:=rW kpr.out.1 h6
 have lnS:=hS.cH
 rw[pF] at lnS
 have lnC:=hC.cH
 rw[show(ax (bp::random)).length=aK rows by unfold ax;rw[List.length_map,hS2]] at lnC
 have kSC:=ah.mk (And.intro hS hC)
 rcases hacc with⟨er,q,c7⟩|⟨y,q,ql,Zy,-,c7⟩
 ·have her:er=0:=by rw[q] at hz;exact hz
  subst her
  have ku:ah (Vt rows owners X Y T bp random who N text (.ret (.tuple [.agg (fa 0 nl nl nl nl nl nl),.v (.bool false),.v (.bool true)]))):=⟨.inl ⟨by unfold UC;rw[q];simp,rfl⟩⟩
  clear q hz hde hS hC
  unfold im at *
  repeat' (first|simp(maxSteps:=999999) (disch:=first|exact dZ|fail) only[gW,reduceIte,Nat.reduceEqDiff,beq_self_eq_true,QR,aw,hn1,hH0, *] | (refine dX ?_ ?_<;>(intro _;try omega)))
  exact⟨_,_,rfl,kT.out.ext,ku.out⟩
 have ku:ah (UC rows owners bp random who N text=true):=⟨by unfold UC;rw[kyes.out,q];rfl⟩
 obtain⟨_,cr,-⟩:=QM ku.out
 have kcr:=ah.mk cr
 have bk:fj Tryz.prog 27 [(1,.agg [X,Y]),(2,C)]=some (.agg (cI 0 X Y C)):=by
  obtain⟨_,_,_,rfl,-⟩:=kf.out.1.form
  obtain⟨_,_,rfl,-⟩:=kf.out.2.1
  obtain⟨_,_,rfl,-⟩:=hC
  kernel_rfl
 have s3:=Yi kT.out.tb (hY (ep:=0) kf.out.1 kf.out.2.1 hC)
 have t1:=kT.out.put (fa 0 X Y C nl nl nl)
 have s4:=Yj t1.tb kf.out.2.2.2.2.2.1.Uu
 have t2:=t1.put (fa 0 X Y C T nl nl)
 have kT3:=ah.mk t2
 clear q hz hde hS hC t1 t2 cr kT h4
 unfold im at *
 repeat' (first|simp(maxSteps:=999999) (disch:=first|exact dZ|fail) only[gW,reduceIte,Nat.reduceEqDiff,beq_self_eq_true,QR,aw,hn1,hH0,Tx, *] | (refine dX ?_ ?_<;>(intro _;try omega)))
 refine Run.gen fun e0 he0 hd0 hp0 hr0=>?_
 have f4:e0.get 4=NV:=by rw[he0];exact gS
 have f5:e0.get 5=T:=by rw[he0];exact gS
 have f3:e0.get 3=W:=by rw[he0];exact gS
 have f6:e0.get 6= .ptr (.box h.boxes.length) 0:=by rw[he0];exact gS
 have f12:e0.get 12= .ptr (.box (h.boxes.length+1)) 0:=by rw[he0];simp only[gW,reduceIte,Nat.reduceEqDiff,beq_self_eq_true,hn1]
 have f15:e0.get 15=S:=by rw[he0];exact gS
 have f16:e0.get 16=C:=by rw[he0];exact gS
 have f123:e0.get 123=W:=by rw[he0];exact gS
 have f124:e0.get 124= .v (.int .i64 (who.length:Nat)):=by rw[he0];exact gS
 have f125:e0.get 125= .v (.int .i64 (0:Nat)):=by rw[he0];exact gR
 have fd:e0.defers=[]:=by rw[hd0];exact gS
 clear he0 hd0 hp0 hr0 c1 c2 c4 c6 c7 l1 l2 s2 s3 s4 bk bx zc hn1 hH0 gA gB lnT
 have h9:N.length=2 * who.length:=by omega
 have hpk:∀k<who.length,(bq who N)[k]?=some ⟨at0 who k,(k:Int),(aY Gn (at0 N (2 * k)):Nat),(aY Gn (at0 N (2 * k+1)):Nat)⟩:=fun k hk=>by
  unfold bq;rw[List.getElem?_map,List.getElem?_range hk];rfl
 have kpk:=ah.mk hpk
 clear hpk
 refine aD (fun m e H=>∃(i:Nat) (t:Tok) (sz:Nat),i<=who.length/\m=who.length - i/\ah (TI h H X Y (fa 0 X Y C T (.list t sz (eR ((bq who N).take i))) nl) t)/\ah (sz=4∨((bq who N).take i=[]/\t= .nil))/\
  e.get 3=W/\e.get 4=NV/\e.get 5=T/\e.get 6= .ptr (.box h.boxes.length) 0/\e.get 12= .ptr (.box (h.boxes.length+1)) 0/\e.get 15=S/\e.get 16=C/\e.get 123=W/\e.get 124= .v (.int .i64 (who.length:Nat))/\e.get 125= .v (.int .i64 (i:Nat))/\e.defers=[]) ?_ who.length _ _ ?_
 rotate_left 1
 ·exact⟨0,.nil,0,Nat.zero_le _,rfl,kT3,⟨.inr ⟨rfl,rfl⟩⟩,f3,f4,f5,f6,f12,f15,f16,f123,f124,f125,fd⟩
 clear f3 f4 f5 f6 f12 f15 f16 f123 f124 f125 fd kT3 H0
 rintro m e H ⟨i,t,sz,hi,rfl,kT,ksz,g3,g4,g5,g6,g12,g15,g16,g123,g124,g125,hd⟩
 by_cases hlt:i<who.length
 ·have ixW:=kf.out.2.2.2.1.ix hlt
  have ldW:=ldi (H:=H) (s:=1) hlt
  have ixA:=kf.out.2.2.2.2.1.ix (i:=2 * i) (by omega)
  have ixB:=kf.out.2.2.2.2.1.ix (i:=2 * i+1) (by omega)
  have ldA:∀K:ae,ai Tryz.prog Gt K 3 (.elem 1 (ints N) (2 * i) 0)=some (.v (.int .i64 (at0 N (2 * i)))):=fun K=>ldi (by omega)
  have ldB:∀K:ae,ai Tryz.prog Gt K 3 (.elem 1 (ints N) (2 * i+1) 0)=some (.v (.int .i64 (at0 N (2 * i+1)))):=fun K=>ldi (by omega)
  rw[show((2 * i:Nat):Int)=2 * (i:Int) by omega] at ixA
  rw[show((2 * i+1:Nat):Int)=2 * (i:Int)+1 by omega] at ixB
  have hwA:IntKind.i64.wrap (2 * (i:Int))=2 * (i:Int):=bT (by omega) (by omega)
  have hwB:IntKind.i64.wrap (2 * (i:Int)+1)=2 * (i:Int)+1:=bT (by omega) (by omega)
  have hpi:=kpk.out i hlt
  have c8:=Uc 4 (at0 N (2 * i))
  have c9:=Uc 4 (at0 N (2 * i+1))
  rw[iS oU,show lG 4=0 from if_pos oU] at c8 c9
  have ktk:=ah.mk (a9 hpi)
  clear hpi
  have bdp:=Tg (at0 who i) (i:Int) ((aY Gn (at0 N (2 * i)):Nat):Int) ((aY Gn (at0 N (2 * i+1)):Nat):Int)
  change ∀h,W6.call 30 [im 4,im (at0 N (2 * i))] h=some (.ret (.tuple [im ((aY Gn (at0 N (2 * i)):Nat):Int),im 0]),h) at c8
  change ∀h,W6.call 30 [im 4,im (at0 N (2 * i+1))] h=some (.ret (.tuple [im ((aY Gn (at0 N (2 * i+1)):Nat):Int),im 0]),h) at c9
  generalize hpr:(⟨at0 who i,(i:Int),((aY Gn (at0 N (2 * i)):Nat):Int),((aY Gn (at0 N (2 * i+1)):Nat):Int)⟩:Pr)=pr at *
  have lL:ai Tryz.prog Gt H 29 (.ptr (.box (h.boxes.length+1)) 5)=some (.list t sz (eR ((bq who N).take i))):=aQ KP kT.out.tb rfl
  have ap:=Tu (p:=pr) (l:=(bq who N).take i) (by rw[List.length_take];omega) ksz.out kT.out.can
  rw[<-ktk.out] at ap
  have bl:=Sc pr
  have t2:=kT.out.app
  have sL:=Yk t2.tb (x:= .list (.free H.tn) 4 (eR ((bq who N).take (i+1)))) rfl
  have kT2:=ah.mk (t2.put (fa 0 X Y C T (.list (.free H.tn) 4 (eR ((bq who N).take (i+1)))) nl))
  have hltI:(i:Int)<(who.length:Int):=by omega
  clear t2 kT hpr
  unfold im at *
  generalize at0 who i=wi at *
  generalize at0 N (2 * i)=nA at *
  generalize at0 N (2 * i+1)=nB at *
  generalize ((aY Gn nA:Nat):Int)=dA at *
  generalize ((aY Gn nB:Nat):Int)=dB at *
  repeat' (first|simp(maxSteps:=999999) (disch:=first|exact dZ|fail) only[gW,reduceIte,Nat.reduceEqDiff,beq_self_eq_true,QR,Tx, *] | (refine dX ?_ ?_<;>(intro _;try omega)))
  exact⟨who.length - (i+1),by omega,i+1,_,4,by omega,rfl,(by first|exact kT2|trivial),⟨.inl rfl⟩,by simp⟩
 have hie:i=who.length:=by omega
 subst hie
 rw[List.take_of_length_le (by rw[rB];exact Nat.le_refl _)] at kT ksz
 have hP:PL (.list t sz (eR (bq who N))) (bq who N):=⟨t,sz,rfl,fun q=>ksz.out.resolve_right fun z=>q z.1⟩
 have kP:=ah.mk hP
 have kT3:=ah.mk kT.out.nil
 change ah (TI h H X Y (fa 0 X Y C T (.list t sz (eR (bq who N))) nl) .nil) at kT3
 clear hP ksz kT kpk hi hlt
 generalize AV.list t sz (eR (bq who N))=L at *
 repeat' (first|simp(maxSteps:=999999) (disch:=first|exact dZ|fail) only[gW,reduceIte,Nat.reduceEqDiff,beq_self_eq_true,QR, *] | (refine dX ?_ ?_<;>(intro _;try omega)))
 refine Run.gen fun e0 he0 hd0 hp0 hr0=>?_
 have f4:e0.get 4=NV:=by rw[he0];exact gA
 have f5:e0.get 5=T:=by rw[he0];exact gA
 have f6:e0.get 6= .ptr (.box h.boxes.length) 0:=by rw[he0];exact gA
 have f12:e0.get 12= .ptr (.box (h.boxes.length+1)) 0:=by rw[he0];exact gA
 have f15:e0.get 15=S:=by rw[he0];exact gA
 have f16:e0.get 16=C:=by rw[he0];exact gA
 have f167:e0.get 167=W:=by rw[he0];exact gA
 have f168:e0.get 168= .v (.int .i64 (who.length:Nat)):=by rw[he0];exact gA
 have f169:e0.get 169= .v (.int .i64 (0:Nat)):=by rw[he0];exact gR
 have fd:e0.defers=[]:=by rw[hd0];exact gA
 clear he0 hd0 hp0 hr0 g3 g4 g5 g6 g12 g15 g16 g123 g124 g125 hd lnW
 obtain⟨PU,hPU⟩:∃PU,db rows owners (bp::random) who N (bq who N) text=PU:=⟨_,rfl⟩
 have kfin:ah (∀Z,IL Z PU->Vt rows owners X Y T bp random who N text (.ret (.tuple [.agg (fa 0 X Y C T L Z),.v (.bool true),.v (.bool true)]))):=⟨fun Z hZ=> .inr ⟨ku.out,C,L,Z,rfl,kSC.out.2,kP.out,by rw[hPU];exact hZ⟩⟩
 have kpk:ah (∀k<who.length,PU[k]?=some (yh rows owners (bp::random) who N (bq who N) text k)):=⟨fun k hk=>by
  rw[<-hPU];unfold db;rw[List.getElem?_map,List.getElem?_range hk];rfl⟩
 have kpl:ah (PU.length=who.length):=⟨by rw[<-hPU];exact hU⟩
 clear hPU
 have kol:=ah.mk (fk kpr.out.1).1
 have hr16:=kpr.out.2.1
 refine aD (fun m e H=>∃(i:Nat) (t:Tok) (sz:Nat),i<=who.length/\m=who.length - i/\ah (TI h H X Y (fa 0 X Y C T L (.list t sz (ints (PU.take i)))) t)/\ah (sz=1∨(PU.take i=[]/\t= .nil))/\
  e.get 4=NV/\e.get 5=T/\e.get 6= .ptr (.box h.boxes.length) 0/\e.get 12= .ptr (.box (h.boxes.length+1)) 0/\e.get 15=S/\e.get 16=C/\e.get 167=W/\e.get 168= .v (.int .i64 (who.length:Nat))/\e.get 169= .v (.int .i64 (i:Nat))/\e.defers=[]) ?_ who.length _ _ ?_
 rotate_left 1
 ·exact⟨0,.nil,0,Nat.zero_le _,rfl,kT3,⟨.inr ⟨rfl,rfl⟩⟩,f4,f5,f6,f12,f15,f16,f167,f168,f169,fd⟩
 clear f4 f5 f6 f12 f15 f16 f167 f168 f169 fd kT3
 rintro m e H ⟨i,t,sz,hi,rfl,kT,ksz,g4,g5,g6,g12,g15,g16,g167,g168,g169,hd⟩
 by_cases hlt:i<who.length
 rotate_left 1
 ·have hie:i=who.length:=by omega
  subst hie
  rw[List.take_of_length_le (by rw[kpl.out];exact Nat.le_refl _)] at kT ksz
  have hZ:IL (.list t sz (ints PU)) PU:=⟨t,sz,rfl,fun q=>ksz.out.resolve_right fun z=>q z.1⟩
  have kZ:=ah.mk (kfin.out _ hZ)
  have htab:=N0 (ep:=0) kf.out.1 kf.out.2.1 kSC.out.2 kf.out.2.2.2.2.2.1 kP.out hZ
  clear hZ ksz
  generalize AV.list t sz (ints PU)=Z at *
  have l2:=Yg kT.out.tb rfl
  have s2:=Yh kT.out.tb rfl htab rfl
  rw[ec kT.out.tb] at s2
  have dC:decide ((0:Int)<((aK rows:Nat):Int))=true:=decide_eq_true (by omega)
  clear htab hi hlt
  repeat' (first|simp(maxSteps:=999999) (disch:=first|exact dZ|fail) only[gW,reduceIte,Nat.reduceEqDiff,beq_self_eq_true,QR, *] | (refine dX ?_ ?_<;>(intro _;try omega)))
  exact⟨_,_,rfl,kT.out.ext,kZ.out⟩
 have ixW:=kf.out.2.2.2.1.ix hlt
 have ldW:=ldi (H:=H) (s:=1) hlt
 have hltI:(i:Int)<(who.length:Int):=by omega
 have kT2:=ah.mk (TI2.start kT.out)
 clear kT
 generalize hwi:at0 who i=wi at *
 repeat' (first|simp(maxSteps:=999999) (disch:=first|exact dZ|fail) only[gW,reduceIte,Nat.reduceEqDiff,beq_self_eq_true,QR, *] | (refine dX ?_ ?_<;>(intro _;try omega)))
 refine Run.gen fun e0 he0 hd0 hp0 hr0=>?_
 have f4:e0.get 4=NV:=by rw[he0];exact gA
 have f5:e0.get 5=T:=by rw[he0];exact gA
 have f6:e0.get 6= .ptr (.box h.boxes.length) 0:=by rw[he0];exact gA
 have f12:e0.get 12= .ptr (.box (h.boxes.length+1)) 0:=by rw[he0];exact gA
 have f15:e0.get 15=S:=by rw[he0];exact gA
 have f16:e0.get 16=C:=by rw[he0];exact gA
 have f167:e0.get 167=W:=by rw[he0];exact gA
 have f168:e0.get 168= .v (.int .i64 (who.length:Nat)):=by rw[he0];exact gA
 have f169:e0.get 169= .v (.int .i64 (i:Nat)):=by rw[he0];exact gA
 have f27:e0.get 27= .v (.int .i64 (i:Nat)):=by rw[he0];exact gA
 have f28:e0.get 28= .v (.int .i64 wi):=by rw[he0];exact gA
 have f29:e0.get 29= .list .nil 0 []:=by rw[he0];exact gR
 have f174:e0.get 174=S:=by rw[he0];exact gA
 have f175:e0.get 175= .v (.int .i64 (rows.length:Nat)):=by rw[he0];exact gA
 have f176:e0.get 176= .v (.int .i64 (0:Nat)):=by rw[he0];exact gR
 have fd:e0.defers=[]:=by rw[hd0];exact gA
 clear he0 hd0 hp0 hr0 g4 g5 g6 g12 g15 g16 g167 g168 g169 hd ixW ldW
 obtain⟨D,hD⟩:∃D,fV rows (bp::random)=D:=⟨_,rfl⟩
 have hDl:D.length=rows.length:=by rw[<-hD];exact pF _ _
 have kDk:ah (∀j<rows.length,D[j]?=some ((j:Int),oa (rows.getD j []) (bp::random))):=⟨fun j hj=>by
  rw[<-hD];unfold fV;rw[List.getElem?_map,List.getElem?_range hj];rfl⟩
 have kS:ah (SL S D):=⟨by rw[<-hD];exact kSC.out.1⟩
 have kD:=ah.mk hD
 clear hD
 refine aD (fun m e H=>∃(j:Nat) (t2:Tok) (s2:Nat),j<=rows.length/\m=rows.length - j/\ah (TI2 h H X Y (fa 0 X Y C T L (.list t sz (ints (PU.take i)))) t t2)/\ah (s2=2∨(ofF owners [wi] (D.take j)=[]/\t2= .nil))/\
  e.get 4=NV/\e.get 5=T/\e.get 6= .ptr (.box h.boxes.length) 0/\e.get 12= .ptr (.box (h.boxes.length+1)) 0/\e.get 15=S/\e.get 16=C/\e.get 167=W/\e.get 168= .v (.int .i64 (who.length:Nat))/\e.get 169= .v (.int .i64 (i:Nat))/\
  e.get 27= .v (.int .i64 (i:Nat))/\e.get 28= .v (.int .i64 wi)/\e.get 29= .list t2 s2 (bL (ofF owners [wi] (D.take j)))/\e.get 174=S/\e.get 175= .v (.int .i64 (rows.length:Nat))/\e.get 176= .v (.int .i64 (j:Nat))/\e.defers=[]) ?_ rows.length _ _ ?_
 rotate_left 1
 ·exact⟨0,.nil,0,Nat.zero_le _,rfl,kT2,⟨.inr ⟨rfl,rfl⟩⟩,f4,f5,f6,f12,f15,f16,f167,f168,f169,f27,f28,f29,f174,f175,f176,fd⟩
 clear f4 f5 f6 f12 f15 f16 f167 f168 f169 f27 f28 f29 f174 f175 f176 fd kT2 H
 rintro m e H ⟨j,t2,s2,hj,rfl,kT,ks2,g4,g5,g6,g12,g15,g16,g167,g168,g169,g27,g28,g29,g174,g175,g176,hd⟩
 by_cases hjt:j<rows.length
 ·have hp:=kDk.out j hjt
  have ixS:=kS.out.ix (i:=j) (by omega)
  have ldS:=PI (H:=H) (s:=2) hp
  have zc:=YP
  generalize hpv:(((j:Int),oa (rows.getD j []) (bp::random)):Int × Int)=p at *
  have hp1:p.1=(j:Int):=by rw[<-hpv]
  have st:=Ye (H:=H) p
  have t1:=kT.out.push (eu p)
  have b1:=ak H (eu p)
  have q0:ai Tryz.prog Gt (H.push (eu p)) 3 (.ptr (.box H.boxes.length) 0)=some (.v (.int .i64 (j:Int))):=by rw[<-hp1];exact aQ ag3 b1 rfl
  have q1:ai Tryz.prog Gt (H.push (eu p)) 23 (.ptr (.box h.boxes.length) 1)=some Y:=aQ mo t1.ti.pb rfl
  have q2:=Yf b1
  have lnY:=kf.out.2.1.cH
  have ixY:=kf.out.2.1.ix (i:=j) (by have:=kol.out;omega)
  have ldY:∀K:ae,ai Tryz.prog Gt K 3 (.elem 1 (ints owners) j 0)=some (.v (.int .i64 (at0 owners j))):=fun K=>ldi (by have:=kol.out;omega)
  have hjI:(j:Int)<(rows.length:Int):=by omega
  have hjO:(j:Int)<(owners.length:Int):=by have:=kol.out;omega
  have hst:=KL (owners:=owners) (who:=[wi]) hp
  have hpick:mc owners [wi] p=if wi=at0 owners j then [p] else []:=by
   unfold mc
   rw[hp1,Int.toNat_natCast]
   by_cases q:wi=at0 owners j
   ·rw[if_pos q,List.filter_cons_of_pos (by simp[q])];rfl
   ·rw[if_neg q,List.filter_cons_of_neg (by simp[q])];rfl
  rw[hpick] at hst
  have hol2:(ofF owners [wi] (D.take j)).length<=16:=by
   refine Nat.le_trans (zM owners [wi] _) ?_
   rw[List.length_take,List.length_singleton];omega
  have u36:=Tryz.underlying36
  by_cases hq:wi=at0 owners j
  ·rw[if_pos hq] at hst
   have dq:decide (at0 owners j=wi)=true:=decide_eq_true hq.symm
   have ap:=apT (T:=36) (r:=eu p) (es:=bL (ofF owners [wi] (D.take j))) (sz:=s2) u36 RS (by decide) (by rw[nK];omega) (ks2.out.imp_right fun q=>⟨by rw[q.1];rfl,q.2⟩) t1.co
   rw[BP,<-hst] at ap
   have kT2:=ah.mk t1.app
   have bl:aN Tryz.prog 36 1 [(0,.agg (eu p))]=some (.list .tight 2 [eu p]):=RT p.1 p.2
   clear hq hst hpick hp1 hpv hp t1 b1 kT
   generalize at0 owners j=ow at *
   have ldS2:ai Tryz.prog Gt H 81 (.elem 2 (bL D) j 0)=some (.agg (eu p)):=ldS
   clear ldS
   generalize eu p=sr at *
   repeat' (first|simp(maxSteps:=999999) (disch:=first|exact dZ|fail) only[gW,reduceIte,Nat.reduceEqDiff,beq_self_eq_true,QR,Yd,cW,aw, *] | (refine dX ?_ ?_<;>(intro _;try omega)))
   exact⟨rows.length - (j+1),by omega,j+1,_,2,by omega,rfl,(by first|exact kT2|trivial),⟨.inl rfl⟩,by simp⟩
  ·rw[if_neg hq,List.append_nil] at hst
   have dq:decide (at0 owners j=wi)=false:=decide_eq_false fun q=>hq q.symm
   rw[<-hst] at g29 ks2
   have kT2:=ah.mk t1
   have ldS2:ai Tryz.prog Gt H 81 (.elem 2 (bL D) j 0)=some (.agg (eu p)):=ldS
   clear hq hst hpick hp1 hpv hp t1 b1 kT ldS
   generalize at0 owners j=ow at *
   generalize eu p=sr at *
   repeat' (first|simp(maxSteps:=999999) (disch:=first|exact dZ|fail) only[gW,reduceIte,Nat.reduceEqDiff,beq_self_eq_true,QR,Yd,cW,aw, *] | (refine dX ?_ ?_<;>(intro _;try omega)))
   exact⟨rows.length - (j+1),by omega,j+1,t2,s2,by omega,rfl,(by first|exact kT2|trivial),(by first|exact ks2|trivial),by simp⟩
 have hje:j=rows.length:=by omega
 subst hje
 rw[List.take_of_length_le (by rw[hDl];exact Nat.le_refl _)] at g29 ks2
 have hO:SL (.list t2 s2 (bL (ofF owners [wi] D))) (ofF owners [wi] D):=⟨t2,s2,rfl,fun q=>ks2.out.resolve_right fun z=>q z.1⟩
 have hol2:(ofF owners [wi] D).length<=16:=by
  refine Nat.le_trans (zM owners [wi] _) ?_
  rw[List.length_singleton];omega
 have hcl:(ax (bp::random)).length<=1000000:=by unfold ax;rw[List.length_map,hS2];omega
 have mk:=NX 0 X Y C T L rows owners (ax (bp::random)) text (bq who N) kf.out.1 kf.out.2.1 kSC.out.2 kf.out.2.2.2.2.2.1 kP.out hcl (by rw[rB];omega) _ _ wi (at0 N (2 * i)) (at0 N (2 * i+1)) hO (by omega)
 have hmk:fN rows owners 0 (ax (bp::random)) text (bq who N) wi (ofF owners [wi] D) (at0 N (2 * i)) (at0 N (2 * i+1))=(yh rows owners (bp::random) who N (bq who N) text i,0):=by
  rw[<-kD.out,P2 kol.out,<-hwi]
  exact sV kcr.out.Ur kcr.out.acc kcr.out.ne kcr.out.wl kcr.out.tl (by decide) kcr.out.sl hlt
 rw[hmk] at mk
 have ixA:=kf.out.2.2.2.2.1.ix (i:=2 * i) (by omega)
 have ixB:=kf.out.2.2.2.2.1.ix (i:=2 * i+1) (by omega)
 have ldA:∀K:ae,ai Tryz.prog Gt K 3 (.elem 1 (ints N) (2 * i) 0)=some (.v (.int .i64 (at0 N (2 * i)))):=fun K=>ldi (by omega)
 have ldB:∀K:ae,ai Tryz.prog Gt K 3 (.elem 1 (ints N) (2 * i+1) 0)=some (.v (.int .i64 (at0 N (2 * i+1)))):=fun K=>ldi (by omega)
 rw[show((2 * i:Nat):Int)=2 * (i:Int) by omega] at ixA
 rw[show((2 * i+1:Nat):Int)=2 * (i:Int)+1 by omega] at ixB
 have hwA:IntKind.i64.wrap (2 * (i:Int))=2 * (i:Int):=bT (by omega) (by omega)
 have hwB:IntKind.i64.wrap (2 * (i:Int)+1)=2 * (i:Int)+1:=bT (by omega) (by omega)
 have hpi:=kpk.out i hlt
 have ktk:=ah.mk (a9 hpi)
 have hPl:=kpl.out
 clear hpi hmk hO
 generalize yh rows owners (bp::random) who N (bq who N) text i=zi at *
 have lK:=WS kT.out.ti.tb
 have lL:ai Tryz.prog Gt H 29 (.ptr (.box (h.boxes.length+1)) 5)=some L:=aQ KP kT.out.ti.tb rfl
 have lZ:ai Tryz.prog Gt H 23 (.ptr (.box (h.boxes.length+1)) 6)=some (.list t sz (ints (PU.take i))):=aQ mo kT.out.ti.tb rfl
 have ap:=wI (x:=zi) (es:=PU.take i) (by rw[List.length_take];omega) ksz.out kT.out.ti.can
 rw[<-ktk.out] at ap
 have bl:=pQ zi
 have t3:=kT.out.ti.app
 have sZ:=Yl t3.tb (x:= .list (.free H.tn) 1 (ints (PU.take (i+1)))) rfl
 have kT2:=ah.mk (t3.put (fa 0 X Y C T L (.list (.free H.tn) 1 (ints (PU.take (i+1))))))
 clear t3 kT hol2 hcl hj hjt hPl
 unfold im at *
 generalize at0 N (2 * i)=nA at *
 generalize at0 N (2 * i+1)=nB at *
 repeat' (first|simp(maxSteps:=999999) (disch:=first|exact dZ|fail) only[gW,reduceIte,Nat.reduceEqDiff,beq_self_eq_true,QR,Tx, *] | (refine dX ?_ ?_<;>(intro _;try omega)))
 refine bf rV kZq ?_
 repeat' (first|simp(maxSteps:=999999) (disch:=first|exact dZ|fail) only[gW,reduceIte,Nat.reduceEqDiff,beq_self_eq_true,QR,Tx, *] | (refine dX ?_ ?_<;>(intro _;try omega)))
 exact⟨who.length - (i+1),by omega,i+1,_,1,by omega,rfl,(by first|exact kT2|trivial),⟨.inl rfl⟩,by simp⟩
end Go.Proofs.YtnfciiiohoafaaaGreatDoor
end
