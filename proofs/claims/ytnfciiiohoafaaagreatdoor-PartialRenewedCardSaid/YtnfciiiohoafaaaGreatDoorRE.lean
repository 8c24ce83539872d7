/-
  The engine, part 48: functions that take and give no memory: what they answer is what they answer alone in the world, and memory stays as it was.
-/
import Derived.Test.YtnfciiiohoafaaaGreatDoorRD
import Derived.Test.YtnfciiiohoafaaaGreatDoorRC
open List renaming map_cons→aa8,length_take→aa6,length_drop→abi,length_map→aaR,mem_map→abE,getElem?_eq_some_iff→aaL,getElem?_take→abH,getElem?_drop→abS,all_eq_true→aa2,range→aaV,take_length→abl,mem_filter→acj,getElem?_eq_getElem→aaM,set_set→adV,ext_getElem?→abZ,getElem?_set→abD,mem_cons_self→aba,mem_cons_of_mem→aa5,filter_cons_of_neg→adh,filter_cons_of_pos→adi,ext_getElem→adz,getElem_map→abW,getElem_range→acy,mem_range→abf,getD_eq_getElem?_getD→aaU,mem_singleton→abC,mem_or_eq_of_mem_set→abQ,getElem_mem→abj,eq_of_mem_replicate→acP,getElem?_replicate→adG,nodup_cons→adM,mem_cons→abx,foldl_cons→acI,length_set→abV,contains_iff_mem→afl,mem_iff_getElem→acr,length_append→aaW,getElem?_mapIdx→aey,map_map→ac7,drop_zero→abp,cons_append→abt,take_append_drop→ab6,length_nil→abG,take_succ_cons→abd,take_zero→abn,append_nil→abv,not_mem_nil→acD,nil_append→abA,head?_drop→adN
open Bool renaming and_eq_true→aaQ,and_true→ac0,not_eq_true'→acn
open Nat renaming zero_le→aa4,le_refl→aaP,le_trans→abh,lt_of_lt_of_le→abw,lt_or_ge→aa9,mod_lt→ab9,reduceEqDiff→aaN,mod_eq_of_lt→abK,mul_one→ab5,zero_add→ack
open Option renaming map_some→aa7,some.injEq→aaX,map_map→aeI
open Prod renaming mk.injEq→aaZ,fst→ae6
open Int renaming dvd_add→adn,zero_mul→aeB,emod_eq_emod_iff_emod_sub_eq_zero→ad9,emod_emod_of_dvd→acC,dvd_refl→adB,emod_eq_of_lt→acp,zero_add→adT,toNat_natCast→aa1,mul_comm→adq,mul_sub→acS,dvd_mul_of_dvd_right→acw,fdiv_eq_ediv_of_nonneg→acE,natCast_zero→ac2
set_option maxHeartbeats 64000000
set_option maxRecDepth 100000
set_option linter.unusedSimpArgs false
set_option linter.unusedVariables false
set_option linter.constructorNameAsVariable false
section
namespace Go.AE
open Go.RowKit (Below)
mutual
def jK(h:ae):AV->AV
 | .list k sz es=>.list (di k) sz es
 | .arr b off len _=>match h.boxes[b]? with
  |some cs=>if off+len<=cs.length then .list .held 1 (((cs.drop off).take len).map fun c=>[c]) else .bad
  |none=>.bad
 | .tuple cs=>.tuple (vp h cs)
 | .agg cs=>.agg (vp h cs)
 |x=>x
def vp(h:ae):List AV->List AV
 | []=>[]
 |x::r=>jK h x::vp h r
end
def xA(R:Rec)(g:FuncId)(args:List AV):Option AV:=
 if bA 0 0 0 (bM args)=true then
  match R.call g (bM args) ⟨[],[],0,[]⟩ with
  |some (.ret y,h2)=>if aV 0 0 0 (jK h2 y)=true then some (jK h2 y) else none
  |_=>none
 else none
def sK(R:Rec)(g:FuncId)(args:List AV)(h:ae):Option (AV × ae):=(xA R g args).map (·,h)
theorem l9:∀l:List AV,(l.map fun c=>[c]).flatten=l
 | []=>rfl
 |x::l=>by rw[aa8,List.flatten_cons,l9 l];rfl
section
variable {P:Program} {G:Nat->Option (List AV)} {ok:FuncId->Nat->Code->Bool} {w0 w w':World} {K K1 K2:aB} {h h2:ae}
mutual
theorem aI.lJ(hsub:∀g j c,K1.ic g j=some c->K2.ic g j=some c):∀{x:AV} {c:Value},aI K1 x c->aV 0 0 0 x=true->aI K2 x c
 |_,_,.bad c,_=>.bad c
 |_,_,.v x hx,_=>.v x hx
 |_,_,.nil sz,_=>.nil sz
 |_,_,.eK sz a,_=>.eK sz a
 |_,_,.list k sz es g off m cap cells hn hr hv hc ht ha,h=>by
  rw[aV,aaQ] at h
  refine .list k sz es g off m cap cells hn hr (ao.lJ hsub hv (by rw[eL];exact h.2)) (fun j c hj=>hsub _ _ _ (hc j c hj)) ⟨ht.1,?_⟩ ha
  have h1:=h.1
  have h2:=ht.2
  cases k with
  |free i=>simp[oF] at h1
  |_=>exact h2
 |_,_,.arr _ _ _ _ _ _ _ _ _ _ _ _,h=>by simp[aV] at h
 |_,_,.agg cs vs hv,h=>.agg cs vs (ao.lJ hsub hv (by rw[aV] at h;exact h))
 |_,_,.tuple cs vs hv,h=>.tuple cs vs (ao.lJ hsub hv (by rw[aV] at h;exact h))
 |_,_,.box _ _ _ _,h=>by simp[aV] at h
 |_,_,.dW g off,_=>.dW g off
 |_,_,.elem sz es i off g o p cells hr hv hc hi hp ha,h=>.elem sz es i off g o p cells hr (ao.lJ hsub hv (by rw[eL];rw[aV] at h;exact h)) (fun j c hj=>hsub _ _ _ (hc j c hj)) hi hp ha
 |_,_,.func fn first cap fs cs h1 h2,h=>.func fn first cap fs cs (ao.lJ hsub h1 (by rw[aV,aaQ] at h;exact h.1)) (ao.lJ hsub h2 (by rw[aV,aaQ] at h;exact h.2))
 |_,_,.yield _ _ _,h=>by simp[aV] at h
 |_,_,.iface t x c hx,h=>.iface t x c (aI.lJ hsub hx (by rw[aV] at h;exact h))
theorem ao.lJ(hsub:∀g j c,K1.ic g j=some c->K2.ic g j=some c):∀{xs:List AV} {cs:List Value},ao K1 xs cs->bA 0 0 0 xs=true->ao K2 xs cs
 |_,_,.nil,_=>.nil
 |_,_,.cons x c xs cs hx hs,h=>.cons x c xs cs (aI.lJ hsub hx (by rw[bA,aaQ] at h;exact h.1)) (ao.lJ hsub hs (by rw[bA,aaQ] at h;exact h.2))
end
mutual
theorem aI.ice(s1:Sim K1 G ok w h2 w')(hsub:∀g j c,K1.ic g j=some c->K2.ic g j=some c)(hnew:∀g j c,K1.base<=g->w'.cell? ⟨g,j,none⟩=some c->K2.ic g j=some c):
 ∀{x:AV} {c:Value},aI K1 x c->aV 0 0 0 (jK h2 x)=true->aI K2 (jK h2 x) c
 |_,_,.bad c,_=>.bad c
 |_,_,.v x hx,_=>.v x hx
 |_,_,.nil sz,_=>.nil sz
 |_,_,.eK sz a,_=>.eK sz a
 |_,_,.list k sz es g off m cap cells hn hr hv hc ht ha,h=>by
  have hf:gH 0 0 0 es=true:=by
   simp only[jK,aV,aaQ] at h
   exact h.2
  have hv2:ao K2 es.flatten cells:=ao.lJ hsub hv (by rw[eL];exact hf)
  cases k with
  |nil=>exact ht.2.elim
  |tight=>exact .list .tight sz es g off m cap cells hn hr hv2 (fun j c hj=>hsub _ _ _ (hc j c hj)) ⟨ht.1,ht.2⟩ ha
  |free i=>exact .list .held sz es g off m cap cells hn hr hv2 (fun j c hj=>hsub _ _ _ (hc j c hj)) ⟨ht.1,trivial⟩ ha
  |held=>exact .list .held sz es g off m cap cells hn hr hv2 (fun j c hj=>hsub _ _ _ (hc j c hj)) ⟨ht.1,trivial⟩ ha
 |_,_,.arr b g off len cap off' cap' hb hl hcc ho hr,h=>by
  simp only[jK] at h ⊢
  cases hcs:h2.boxes[b]? with
  |none=>exact .bad _
  |some cs=>
   rw[hcs] at h
   simp only at h ⊢
   split at h
   ·rename_i hle
    rw[if_pos hle]
    have hf:gH 0 0 0 (((cs.drop off).take len).map fun c=>[c])=true:=by
     simp only[aV,aaQ] at h
     exact h.2
    obtain⟨q1,q2,q3,cells,e,q4,q5⟩:=s1.box b g cs hb hcs
    have hle2:=q5.le
    by_cases h0:cap=0
    ·have:len=0:=by omega
     subst this
     exact .list .held 1 [] g off' 0 cap' [] rfl (fun _ h=>by cases h) .nil (fun _ _ h=>by simp at h) ⟨aa4 _,trivial⟩ rfl
    ·have hoff:off'=off:=by rcases ho with p|p<;>omega
     subst hoff
     have hv:ao K1 ((cs.drop off').take len) (((cells.toList.take cs.length).drop off').take len):=(q5.1.drop off').take len
     have hlen:((cs.drop off').take len).length=len:=by rw[aa6,abi];omega
     refine .list .held 1 _ g off' len cap' (((cells.toList.take cs.length).drop off').take len) (by rw[aaR,hlen]) (fun r hr=>?_) ?_ (fun j c hj=>?_) ⟨by omega,trivial⟩ ?_
     ·obtain⟨c,-,rfl⟩:=abE.1 hr
      rfl
     ·rw[l9]
      rw[<-eL,l9] at hf
      exact ao.lJ hsub hv hf
     ·refine hnew _ _ _ q1 ?_
      have hjl:j<len:=by
       have:=(aaL.1 hj).1
       rw[aa6] at this;omega
      rw[abH,if_pos hjl,abS,abH,if_pos (by omega)] at hj
      rw[fO q4]
      simpa using hj
     ·rw[l9]
      rw[aa2] at q3 ⊢
      exact fun x hx=>q3 x (List.mem_of_mem_drop (List.mem_of_mem_take hx))
   ·rename_i hle
    rw[if_neg hle]
    exact .bad _
 |_,_,.agg cs vs hv,h=>.agg _ vs (ao.ice s1 hsub hnew hv (by simpa only[jK,aV] using h))
 |_,_,.tuple cs vs hv,h=>.tuple _ vs (ao.ice s1 hsub hnew hv (by simpa only[jK,aV] using h))
 |_,_,.box b g off hb,h=>by simp[jK,aV] at h
 |_,_,.dW g off,_=>.dW g off
 |_,_,.elem sz es i off g o p cells hr hv hc hi hp ha,h=>.elem sz es i off g o p cells hr (ao.lJ hsub hv (by rw[eL];simpa only[jK,aV] using h)) (fun j c hj=>hsub _ _ _ (hc j c hj)) hi hp ha
 |_,_,.func fn first cap fs cs h1 h2,h=>by
  simp only[jK,aV,aaQ] at h
  exact .func fn first cap fs cs (ao.lJ hsub h1 h.1) (ao.lJ hsub h2 h.2)
 |_,_,.yield l g hl,h=>by simp[jK,aV] at h
 |_,_,.iface t x c hx,h=>by
  simp only[jK,aV] at h
  exact .iface t x c (aI.lJ hsub hx h)
theorem ao.ice(s1:Sim K1 G ok w h2 w')(hsub:∀g j c,K1.ic g j=some c->K2.ic g j=some c)(hnew:∀g j c,K1.base<=g->w'.cell? ⟨g,j,none⟩=some c->K2.ic g j=some c):
 ∀{xs:List AV} {cs:List Value},ao K1 xs cs->bA 0 0 0 (vp h2 xs)=true->ao K2 (vp h2 xs) cs
 |_,_,.nil,_=>.nil
 |_,_,.cons x c xs cs hx hs,h=>by
  simp only[vp,bA,aaQ] at h
  exact .cons _ c _ cs (aI.ice s1 hsub hnew hx h.1) (ao.ice s1 hsub hnew hs h.2)
end
def aB.qB(K:aB)(n:Nat)(w:World):aB:={K with ic:=fun g j=>if g<n then K.ic g j else w.cell? ⟨g,j,none⟩}
theorem aB.zr(s:Sim K G ok w0 h w):K.Le (K.qB w.heap.size w'):=by
 refine⟨rfl,fun g j c hc=>?_,fun _ _ h=>h,fun _ _ h=>h,aaP _,fun _ _=>rfl,fun _ h=>h,fun _ _=>rfl,fun g j c hc=>?_⟩
 ·simp only[aB.qB,if_pos (s.fY hc),hc]
 ·simp only[aB.qB] at hc
  split at hc
  ·exact .inl hc
  ·exact .inr (by have:=s.size;omega)
theorem Sim.qB(s:Sim K G ok w0 h w)(b:Below w.heap.size w w'):Sim (K.qB w.heap.size w') G ok w0 h w':=by
 have g:=s.grown b
 have le:K.Le (K.qB w.heap.size w'):=aB.zr s
 refine⟨g.old,g.size,fun g1 j c hc=>?_,fun g1 cs hg=>?_,g.js,g.βnd,fun b1 g1 cs hb hc=>?_,g.mA,g.γnd,fun l g1 r hl hr=>?_,g.tn,fun t ht=>?_,g.oq,g.md,g.all⟩
 ·simp only[aB.qB] at hc
  split at hc
  ·exact g.ic g1 j c hc
  ·exact hc
 ·obtain⟨cells,q1,q2⟩:=g.dW g1 cs hg
  exact⟨cells,q1.mono le,fun j c hj=>le.ic _ _ _ (q2 j c hj)⟩
 ·obtain⟨q1,q2,q3,cells,e,q4,q5⟩:=g.box b1 g1 cs hb hc
  obtain⟨-,-,-,cells0,e0,p4,-⟩:=s.box b1 g1 cs hb hc
  refine⟨q1,fun j=>?_,q3,cells,e,q4,q5.mono le (aaL.1 hb).1⟩
  simp only[aB.qB,if_pos (cV p4)]
  exact q2 j
 ·obtain⟨q1,fn,tmps,d,q2,q3,q4⟩:=g.loop l g1 r hl hr
  exact⟨q1,fn,tmps,d,q2,q3.mono le,q4⟩
 ·obtain⟨q1,q2,q3,q4⟩:=g.tok t ht
  obtain⟨-,-,-,cells0,e0,z0,p4,-⟩:=s.tok t ht
  refine⟨q1,q2,fun j hj=>?_,q4⟩
  simp only[aB.qB,if_pos (cV p4)]
  exact q3 j hj
def aB.alone(K:aB)(n:Nat):aB:={K with base:=n,β:=[],γ:=[],tn:=0,md:=[]}
theorem Sim.alone(s:Sim K G ok w0 h w)(hG:∀g cs,G g=some cs->bA 0 0 0 cs=true):Sim (K.alone w.heap.size) G ok w ⟨[],[],0,[]⟩ w:=by
 refine⟨Below.refl _ _,aaP _,s.ic,fun g cs hg=>?_,rfl,fun b b' g hb=>by simp[aB.alone] at hb,fun b g cs hb=>by simp[aB.alone] at hb,rfl,fun b b' g hb=>by simp[aB.alone] at hb,fun l g r hl=>by simp[aB.alone] at hl,rfl,fun t ht=>?_,fun t t' ht=>?_,fun r hr=>by simp[aB.alone] at hr,rfl⟩
 ·obtain⟨cells,q1,q2⟩:=s.dW g cs hg
  exact⟨cells,ao.lJ (K1:=K) (K2:=K.alone w.heap.size) (fun _ _ _ h=>h) q1 (hG g cs hg),q2⟩
 ·simp[alive] at ht
 ·simp[alive] at ht
theorem Ey{prims:FuncId->Option (List AV->ae->Option (AV × ae))}(hp:Prog P)(hG:∀g cs,G g=some cs->bA 0 0 0 cs=true)(hprim:∀V g p,prims g=some p->jb P G V g p){g:FuncId}(hfn:∃fn,P.funcs[g]?=some fn/\fn.body.isSome=true)(V:World):
 jb P G V g (sK (whole P G prims) g):=by
 refine⟨hfn,fun args h x h' hx K w vargs hv hs cs=>?_⟩
 unfold sK xA at hx
 split at hx
 ·rename_i hf
  split at hx
  ·rename_i y h2 hc
   split at hx
   ·rename_i hf2
    simp only[aa7,aaX,aaZ] at hx
    obtain⟨rfl,rfl⟩:=hx
    obtain⟨-,hsim⟩:=(su hp (hprim w)).call g _ _ _ _ hc
    have s0:=Sim.alone hs hG
    obtain⟨K1,w',fr,le,s1,hst,hfr,v,hv',hle⟩:=hsim (K.alone w.heap.size) w vargs (ao.lJ (K1:=K) (K2:=K.alone w.heap.size) (fun _ _ _ h=>h) hv.hold hf) s0 cs
    have hb:Below w.heap.size w w':=by have:=s1.old;rwa [le.base] at this
    refine⟨.returned v,w',fr,⟨v,_,rfl,aB.zr hs,aI.ice (K2:=K.qB w.heap.size w') s1 (fun g j c hc=>?_) (fun g j c hg hc=>?_) hv' hf2,Sim.qB hs hb⟩,hst,hfr,hle⟩
    ·rcases le.new g j c hc with q|q
     ·have:g<w.heap.size:=hs.fY q
      simp only[aB.qB,if_pos this]
      exact q
     ·have q:w.heap.size<=g:=q
      simp only[aB.qB,if_neg (show ¬g<w.heap.size by omega)]
      exact s1.ic g j c hc
    ·have q:w.heap.size<=g:=by rw[le.base] at hg;exact hg
     simp only[aB.qB,if_neg (show ¬g<w.heap.size by omega)]
     exact hc
   ·cases hx
  ·cases hx
 ·cases hx
def fx(R:Rec)(L:List FuncId)(g:FuncId):Option (List AV->ae->Option (AV × ae)):=if L.contains g=true then some (sK R g) else none
theorem iN{prims:FuncId->Option (List AV->ae->Option (AV × ae))}(hp:Prog P)(hG:∀g cs,G g=some cs->bA 0 0 0 cs=true)(hprim:∀V g p,prims g=some p->jb P G V g p){L:List FuncId}(hL:∀g∈L,∃fn,P.funcs[g]?=some fn/\fn.body.isSome=true):
 ∀V g p,fx (whole P G prims) L g=some p->jb P G V g p:=by
 intro V g p he
 unfold fx at he
 split at he
 ·rename_i hg
  injection he with he
  subst he
  exact Ey hp hG hprim (hL g (by simpa using hg)) V
 ·cases he
theorem aF{R:Rec}{L:List FuncId}{g:FuncId}{args args':List AV}{x y:AV}{h1:ae}(hg:L.contains g=true)(ha:bM args=args')(hf:bA 0 0 0 args'=true)(hc:R.call g args' ⟨[],[],0,[]⟩=some (.ret y,h1))(hy:jK h1 y=x)(hx:aV 0 0 0 x=true):
 ∀h,(whole P G (fx R L)).call g args h=some (.ret x,h):=by
 intro h
 subst ha;subst hy
 rw[lu]
 unfold gQ fx
 rw[if_pos hg]
 simp only[sK,xA,if_pos hf,hc,if_pos hx,aa7]
end
end Go.AE
end
section
namespace Go.AE
def zt(P:Program)(s d:TypeId):Bool:=
 match P.underlying s,P.underlying d with
 |some (.int _),some (.int _)=>true
 |_,_=>false
def vq(P:Program)(ops:Array Oper)(L:List FuncId)(k:Nat):Bool:=
 match ops[k]? with
 |some o=>o.guard.isNone&&match o.op with
  | .call {callee:=.value (.func f),.. }=>L.contains f
  | .call {callee:=.builtin .max,.. }=>true
  | .call {callee:=.builtin .min,.. }=>true
  | .convert s d _=>zt P s d
  |_=>false
 |none=>false
def zu(P:Program)(ops:Array Oper)(L:List FuncId):List Nat:=(aaV ops.size).filter (vq P ops L)
section
variable {P:Program} {G:Nat->Option (List AV)} {prims:FuncId->Option (List AV->ae->Option (AV × ae))} {Q:Xt->Env->ae->Prop} {e:Env} {h:ae} {L:List FuncId}
def jo(prims:FuncId->Option (List AV->ae->Option (AV × ae)))(L:List FuncId):Prop:=∀g∈L,∃q:List AV->Option AV,prims g=some fun args h=>(q args).map (·,h)
theorem nE{R:Rec}:jo (fx R L) L:=fun g hg=>⟨xA R g,by
 unfold fx
 rw[if_pos (by simpa using hg)]
 rfl⟩
theorem Ju{s d:TypeId}{x:AV}(hn:zt P s d=true):∃q:Option AV,∀hm,fm P hm s d x=q.map (·,hm):=by
 unfold zt at hn
 split at hn
 ·rename_i k1 k2 h1 h2
  unfold fm
  simp only[h1,h2]
  cases x<;>first|exact⟨none,fun hm=>rfl⟩|exact⟨_,fun hm=>rfl⟩
 ·cases hn
theorem QS{hm:ae}{ts:Array TypeId}{ty:TypeId}{xs:List AV}:bK P hm .max ts ty xs=(match flatAll xs with|some l=>(bQ P (Builtin.max_ ts ty l.toArray)).bind eS|none=>none).map (·,hm):=by
 rcases xs with _|⟨x,_|⟨y,xs⟩⟩<;>(unfold bK;simp only[];cases flatAll _<;>rfl)
theorem QT{hm:ae}{ts:Array TypeId}{ty:TypeId}{xs:List AV}:bK P hm .min ts ty xs=(match flatAll xs with|some l=>(bQ P (Builtin.min_ ts ty l.toArray)).bind eS|none=>none).map (·,hm):=by
 rcases xs with _|⟨x,_|⟨y,xs⟩⟩<;>(unfold bK;simp only[];cases flatAll _<;>rfl)
theorem uk{o:Oper}(hg:o.guard=none)(hq:oj o.op=true)(hop:∀er:Env,∃q:Option AV,∀hm,dC P G (whole P G prims) er hm o=q.map fun x=>(.ret x,er,hm)){ops:Array Oper}{en:Env}{hn:ae}
 (hall:br P G (whole P G prims) ops (aaV ops.size) e h=some (.normal,en,hn)) {k:Nat} (ho:ops[k]?=some o):sY P G (whole P G prims) ops e h k:=by
 have hklt:k<ops.size:=(Array.getElem?_eq_some_iff.1 ho).1
 obtain⟨-,tr,st⟩:=trace hall
 obtain⟨s1,-⟩:=st k hklt
 obtain⟨q,hq1⟩:=hop (cK P G (whole P G prims) ops e h k).1
 unfold dR at s1
 simp only[ho,bg,hg,hq1] at s1
 cases hx:q with
 |none=>rw[hx] at s1;simp at s1
 |some x=>exact⟨o,x,_,_,ho,hq,tr k (Nat.le_of_lt hklt),fun m hm=>⟨_,_,tr m hm,by rw[hq1,hx];rfl⟩⟩
theorem tE{ops:Array Oper}(hL:jo prims L){en:Env}{hn:ae}(hall:br P G (whole P G prims) ops (aaV ops.size) e h=some (.normal,en,hn)){k:Nat}(hk:vq P ops L k=true):sY P G (whole P G prims) ops e h k:=by
 unfold vq at hk
 split at hk
 ·rename_i o ho
  simp only[aaQ,Option.isNone_iff_eq_none] at hk
  obtain⟨hg,hk⟩:=hk
  split at hk
  ·rename_i f args ts hop
   obtain⟨q,hq⟩:=hL f (by simpa using hk)
   refine uk hg (by rw[hop];rfl) (fun er=>⟨q (args.toList.map er.eval),fun hm=>?_⟩) hall ho
   have:dC P G (whole P G prims) er hm o=(eI P (whole P G prims) er hm {callee:=.value (.func f),args,argTypes:=ts}).map fun(r,h1)=>(r,er,h1):=by
    unfold dC
    rw[hop]
   rw[this,xc,lu]
   unfold gQ
   rw[hq]
   simp only[aeI]
   rfl
  ·rename_i args ts hop
   refine uk hg (by rw[hop];rfl) (fun er=>⟨match flatAll (args.toList.map er.eval) with|some l=>(bQ P (Builtin.max_ ts o.type l.toArray)).bind eS|none=>none,fun hm=>?_⟩) hall ho
   ·unfold dC
    simp only[hop]
    show(bK P hm .max ts o.type (args.toList.map er.eval)).map _=_
    rw[QS,aeI];rfl
  ·rename_i args ts hop
   refine uk hg (by rw[hop];rfl) (fun er=>⟨match flatAll (args.toList.map er.eval) with|some l=>(bQ P (Builtin.min_ ts o.type l.toArray)).bind eS|none=>none,fun hm=>?_⟩) hall ho
   ·unfold dC
    simp only[hop]
    show(bK P hm .min ts o.type (args.toList.map er.eval)).map _=_
    rw[QT,aeI];rfl
  ·rename_i s d x hop
   refine uk hg (by rw[hop];rfl) (fun er=>?_) hall ho
   obtain⟨q,hq⟩:=Ju (P:=P) (x:=er.eval x) hk
   refine⟨q,fun hm=>?_⟩
   unfold dC
   simp only[hop,aO,hq,aeI]
   rfl
  ·cases hk
 ·cases hk
theorem bU{id:Nat}{ops:Array Oper}(ps:List (Nat × Nat))(hL:jo prims L)(hd:mF ops (zu P ops L) ps=true)(hs:∀p∈ps,cX P G (whole P G prims) ops e h p.1 p.2=true)
 (hr:cz P G (whole P G prims) ops ops.toList e h (rh Q)):Run (whole P G prims) (.region id ops true) e h Q:=by
 have hr':=hr
 obtain⟨o,en,hn,h1,h2⟩:=hr'
 cases o with
 |normal=>
  have hall:br P G (whole P G prims) ops (aaV ops.size) e h=some (.normal,en,hn):=by
   rw[dM (aaP _),<-Array.length_toList,abl];exact h1
  exact oB (sD hd (fun k hk=>tE hL hall (acj.1 hk).2) hs) hr
 |_=>exact h2.elim
theorem bf{id:Nat}{ops:Array Oper}(hL:jo prims L)(hd:mF ops (zu P ops L) []=true)
 (hr:cz P G (whole P G prims) ops ops.toList e h (rh Q)):Run (whole P G prims) (.region id ops true) e h Q:=bU [] hL hd (fun p hp=>nomatch hp) hr
end
end Go.AE
end
section
namespace Go.AE
structure fi(S:List Nat)(n0:Nat)(h h':ae):Prop where
 box:∀(c:Nat) (cs:List AV),c∉S->h.boxes[c]?=some cs->h'.boxes[c]?=some cs
 len:h.boxes.length<=h'.boxes.length
 loop:∀(l:Nat) (r:bE),h.loops[l]?=some r->h'.loops[l]?=some r
 tn:h.tn<=h'.tn
 dead:∀n,n<n0->n∈h'.dead->n∈h.dead
 ok:aZ h=true->aZ h'=true
section
variable {S S':List Nat} {n0:Nat} {h0 h h' h2:ae}
theorem fi.refl:fi S n0 h h:=⟨fun _ _ _ q=>q,aaP _,fun _ _ q=>q,aaP _,fun _ _ q=>q,fun q=>q⟩
theorem fi.trans(m:fi S n0 h h')(k:fi S n0 h' h2):fi S n0 h h2:=
 ⟨fun c cs hc hb=>k.box c cs hc (m.box c cs hc hb),abh m.len k.len,fun l r q=>k.loop l r (m.loop l r q),abh m.tn k.tn,fun n hn q=>m.dead n hn (k.dead n hn q),fun q=>k.ok (m.ok q)⟩
theorem fi.mono(m:fi S n0 h h')(hs:∀b∈S,b∈S'):fi S' n0 h h':=⟨fun c cs hc=>m.box c cs fun q=>hc (hs c q),m.len,m.loop,m.tn,m.dead,m.ok⟩
theorem fi.put{b:Nat}(hb:b∈S)(cs:List AV):fi S n0 h (h.put b cs):=
 ⟨fun c ds hc q=>by rw[av (fun(e:c=b)=>hc (by rw[e];exact hb))];exact q,by rw[dU];exact aaP _,fun _ _ q=>q,aaP _,fun _ _ q=>q,fun q=>q⟩
theorem fi.bZ(m:fi S n0 h h'){b:Nat}(hb:h.boxes.length<=b)(cs:List AV):fi S n0 h (h'.put b cs):=
 ⟨fun c ds hc q=>by
  have:=(aaL.1 q).1
  rw[av (by omega)];exact m.box c ds hc q,by rw[dU];exact m.len,m.loop,m.tn,m.dead,m.ok⟩
theorem fi.push(m:fi S n0 h h')(cs:List AV):fi S n0 h (h'.push cs):=
 ⟨fun c ds hc q=>aj (m.box c ds hc q),by rw[az];exact Nat.le_succ_of_le m.len,m.loop,m.tn,m.dead,m.ok⟩
theorem fi.lD(m:fi S n0 h h')(r:bE):fi S n0 h (h'.loop r):=⟨m.box,m.len,fun l q hq=>AM (m.loop l q hq),m.tn,m.dead,m.ok⟩
theorem fi.bh(m:fi S n0 h h'){l:Nat}(hl:h.loops.length<=l)(r:bE):fi S n0 h (h'.bh l r):=
 ⟨m.box,m.len,fun k q hq=>by
  have:=(aaL.1 hq).1
  rw[pX (by omega)];exact m.loop k q hq,m.tn,m.dead,m.ok⟩
theorem fi.sF(x:Ext h h')(hn:n0<=h.tn):fi S n0 h h':=⟨fun c cs _ hb=>x.box c cs hb,x.len,x.loop,x.tn,fun n hl hd=>x.dead n (abw hl hn) hd,x.ok⟩
theorem fi.tS{n1:Nat}(m:fi S n1 h h')(hn:n0<=n1):fi S n0 h h':=⟨m.box,m.len,m.loop,m.tn,fun n hl hd=>m.dead n (abw hl hn) hd,m.ok⟩
theorem Ext.O0(x:Ext h0 h)(m:fi S h0.tn h h')(hb:∀b∈S,h0.boxes.length<=b):Ext h0 h':=
 ⟨fun c cs q=>m.box c cs (fun hc=>by
  have:=hb c hc
  have:=(aaL.1 q).1
  omega) (x.box c cs q),fun l r q=>m.loop l r (x.loop l r q),abh x.tn m.tn,fun n hn hd=>x.dead n hn (m.dead n hn hd),fun q=>m.ok (x.ok q)⟩
theorem Grown.O0{t:Tok}(g:Grown n0 h h' t):fi S n0 h h':=⟨fun c cs _ q=>g.box c cs q,by
 rcases aa9 h'.boxes.length h.boxes.length with hlt|hge
 ·have h1:=g.box h'.boxes.length _ (aaM hlt)
  have:=(aaL.1 h1).1
  omega
 ·exact hge,g.loop,g.tn,g.dead,fun _=>g.ok⟩
end
section
variable {P:Program} {G:Nat->Option (List AV)} {prims:FuncId->Option (List AV->ae->Option (AV × ae))} {H:ae} {l:Nat} {rec:bE} {args:List AV}
theorem Jv{Post:ae->Prop}(hr:H.loops[l]?=some rec)(hs:rec.params.size=args.length)(hst:rec.state=.ready)(hp:rec.pending=none)
 (ha:Run (whole P G prims) rec.assign (dD l rec args) H (fun o e1 h1=>o=.normal/\h1=H/\Run (whole P G prims) rec.body e1 (H.busy l rec) (fun o _ h2=>o=.normal/\h2.loops=(H.busy l rec).loops/\Post {h2 with loops:=H.loops}))):
 ∃H',(whole P G prims).round l args H=some (.ret (.v (.bool true)),H')/\H'.loops=H.loops/\Post H':=by
 obtain⟨o,e1,h1,q1,rfl,rfl,o2,e2,h2,q2,rfl,q3,q4⟩:=ha
 have hll:=(aaL.1 hr).1
 have hb:(h1.busy l rec).loops[l]?=some {rec with state:=.busy}:=by
  show(h1.loops.set l _)[l]?=_
  simp[hll]
 refine⟨{h2 with loops:=h1.loops},jT hr hs ⟨_,e1,h1,q1,rfl,rec,hr,hst,.normal,e2,h2,q2,{rec with state:=.busy},by rw[q3];exact hb,rfl,?_⟩,rfl,q4⟩
 have hrec:{rec with state:=LoopState.ready,pending:=none}=rec:=by
  cases rec;cases hst;cases hp;rfl
 have hset:h2.loops.set l rec=h1.loops:=by
  rw[q3]
  show(h1.loops.set l _).set l rec=_
  rw[adV]
  apply abZ
  intro k
  rw[abD]
  split
  ·rename_i e;subst e;exact hr.symm
  ·rfl
 show _=({h2 with loops:=h2.loops.set l {rec with state:=LoopState.ready,pending:=none}}:ae)
 rw[hrec,hset]
theorem pC{Post:ae->Prop}(hr:H.loops[l]?=some rec)(hs:rec.params.size=args.length)(hst:rec.state=.ready)(hp:rec.pending=none)
 (ha:Run (whole P G prims) rec.assign (dD l rec args) H (fun o e1 h1=>o=.normal/\h1=H/\Run (whole P G prims) rec.body e1 (H.busy l rec) (fun o _ h2=>o=.normal/\h2.loops=(H.busy l rec).loops/\Post {h2 with loops:=H.loops}))):
 ∃H',(whole P G prims).round l args H=some (.ret (.v (.bool true)),H')/\Post H':=by
 obtain⟨H',q1,_,q3⟩:=Jv hr hs hst hp ha
 exact⟨H',q1,q3⟩
end
end Go.AE
end
section
namespace Go.NT
theorem wG{α:Type}{f:α->Int}:∀{l:List α},(∀i∈l,f i=0)->bW (l.map f)=0:=by
 intro l
 induction l with
 |nil=>intro _;rfl
 |cons x l ih=>intro h;simp only[aa8,bW];rw[h x aba,ih fun i hi=>h i (aa5 _ hi)];rfl
theorem qC{α:Type}{f g:α->Int}:∀{l:List α},(∀i∈l,f i=g i)->bW (l.map f)=bW (l.map g):=by
 intro l
 induction l with
 |nil=>intro _;rfl
 |cons x l ih=>intro h;simp only[aa8,bW];rw[h x aba,ih fun i hi=>h i (aa5 _ hi)]
theorem Bc{α:Type}{f:α->Int}{p:α->Bool}:∀{l:List α},(∀i∈l,p i=false->f i=0)->bW ((l.filter p).map f)=bW (l.map f):=by
 intro l
 induction l with
 |nil=>intro _;rfl
 |cons x l ih=>
  intro h
  have ih:=ih fun i hi=>h i (aa5 _ hi)
  cases hp:p x
  ·rw[adh (by simp[hp]),ih]
   simp only[aa8,bW]
   rw[h x aba hp];omega
  ·rw[adi hp]
   simp only[aa8,bW,ih]
theorem Bd{α:Type}{f g:α->Int}:∀{l:List α},bW (l.map fun i=>f i+g i)=bW (l.map f)+bW (l.map g):=by
 intro l
 induction l with
 |nil=>rfl
 |cons x l ih=>simp only[aa8,bW,ih];omega
theorem rK{α:Type}{f:α->Int}{c:Int}:∀{l:List α},bW (l.map fun i=>c * f i)=c * bW (l.map f):=by
 intro l
 induction l with
 |nil=>simp[bW]
 |cons x l ih=>simp only[aa8,bW,ih,Int.mul_add]
theorem xB{α β:Type}{f:α->β->Int}:∀{l:List α} {m:List β},bW (l.map fun i=>bW (m.map fun j=>f i j))=bW (m.map fun j=>bW (l.map fun i=>f i j)):=by
 intro l m
 induction l with
 |nil=>simp only[List.map_nil,bW];exact(wG fun _ _=>rfl).symm
 |cons x l ih=>simp only[aa8,bW,ih];rw[<-Bd]
theorem oO{α:Type}{f g:α->Int}{q:Int}:∀{l:List α},(∀i∈l,q∣f i - g i)->q∣bW (l.map f) - bW (l.map g):=by
 intro l
 induction l with
 |nil=>intro _;simp[bW]
 |cons x l ih=>
  intro h
  simp only[aa8,bW]
  have e:f x+bW (l.map f) - (g x+bW (l.map g))=(f x - g x)+(bW (l.map f) - bW (l.map g)):=by omega
  rw[e]
  exact adn (h x aba) (ih fun i hi=>h i (aa5 _ hi))
theorem Gq{α β:Type}{l:List α}{f:α->β}{g:Nat->β}(h:∀i x,l[i]?=some x->f x=g i):l.map f=(aaV l.length).map g:=by
 apply adz
 ·simp
 ·intro i h1 h2
  rw[abW,abW,acy]
  exact h i _ (aaM (by simpa using h1))
theorem vt(rows:List (List Int))(target:List Int):(cO rows target).length=target.length:=by unfold cO;simp
theorem vu{rows:List (List Int)}{target a:List Int}(h:a∈cO rows target):∃k,k<target.length/\a=rows.map (fun r=>at0 r k)++[at0 target k]:=by
 unfold cO at h
 obtain⟨k,hk,rfl⟩:=abE.1 h
 exact⟨k,abf.1 hk,rfl⟩
theorem Mx{rows:List (List Int)}{k i:Nat}{t:List Int}(hi:i<rows.length):at0 (rows.map (fun r=>at0 r k)++t) i=at0 (rows.getD i []) k:=by
 unfold at0
 rw[aaU,List.getElem?_append_left (by simpa using hi),List.getElem?_map,aaM hi,cU hi]
 rfl
theorem Be{rows:List (List Int)}{k:Nat}{x:Int}:at0 (rows.map (fun r=>at0 r k)++[x]) rows.length=x:=by
 unfold at0
 rw[aaU,List.getElem?_append_right (by simp)]
 simp
section
variable {rows:List (List Int)} {target l:List Int}
theorem xC(hr:∀r∈rows,∀x∈r,okF x)(ht:∀x∈target,okF x):(∀a∈cO rows target,a.length=rows.length+1)/\∀a∈cO rows target,∀x∈a,okF x:=by
 refine⟨fun a ha=>?_,fun a ha x hx=>?_⟩
 ·obtain⟨k,-,rfl⟩:=vu ha
  simp
 ·obtain⟨k,hk,rfl⟩:=vu ha
  rcases List.mem_append.1 hx with q|q
  ·obtain⟨r,h1,rfl⟩:=abE.1 q
   exact gU (hr r h1) k
  ·rw[abC] at q
   subst q
   exact gU ht k
theorem combine_sat(hr:∀r∈rows,∀x∈r,okF x)(ht:∀x∈target,okF x)(h:gi rows target=some l):
 l.length=rows.length/\(∀x∈l,okF x)/\∀k,k<target.length->Qi∣bW ((aaV rows.length).map fun i=>at0 l i * at0 (rows.getD i []) k) - at0 target k:=by
 obtain⟨t1,t2⟩:=xC hr ht
 unfold gi at h
 dsimp only at h
 split at h
 ·rename_i hall
  simp only[aaX] at h
  subst h
  have hlast:∀i a,(cJ (cO rows target) rows.length).2.length<=i->(cJ (cO rows target) rows.length).1[i]?=some a->at0 a rows.length=0:=fun i a hi ha=>by
   rw[aa2] at hall
   have:a∈(cJ (cO rows target) rows.length).1.drop (cJ (cO rows target) rows.length).2.length:=by
    refine List.mem_of_getElem? (i:=i - (cJ (cO rows target) rows.length).2.length) ?_
    rw[abS]
    rw[show(cJ (cO rows target) rows.length).2.length+(i - (cJ (cO rows target) rows.length).2.length)=i by omega]
    exact ha
   simpa using hall a this
  have hs:=F9 t1 t2 hlast
  have R:=(pk t1 t2 (show rows.length<=rows.length+1 by omega)).1
  refine⟨po _ _,?_,fun k hk=>?_⟩
  ·have hok:∀(ps:List (Nat × Nat)) (y:List Int),(∀x∈y,okF x)->∀x∈ps.foldl (fun y p=>y.set p.1 (at0 ((cJ (cO rows target) rows.length).1.getD p.2 []) rows.length)) y,okF x:=by
    intro ps
    induction ps with
    |nil=>intro y hy;exact hy
    |cons p ps ih=>
     intro y hy
     refine ih _ fun x hx=>?_
     rcases abQ hx with q|q
     ·exact hy x q
     ·rw[q]
      refine gU (fun z hz=>?_) _
      rcases aa9 p.2 (cJ (cO rows target) rows.length).1.length with q2|q2
      ·rw[cU q2] at hz
       exact R.ok _ (abj q2) z hz
      ·rw[aaU,List.getElem?_eq_none q2] at hz
       simp at hz
   unfold gF
   exact hok _ _ fun x hx=>by rw[acP hx];exact iJ
  ·have hm:rows.map (fun r=>at0 r k)++[at0 target k]∈cO rows target:=by
    unfold cO
    exact abE.2 ⟨k,abf.2 hk,rfl⟩
   have:=hs _ hm
   unfold Sat res dot at this
   rw[po,Be] at this
   have e:((aaV rows.length).map fun i=>at0 (gF (cJ (cO rows target) rows.length) rows.length) i * at0 (rows.map (fun r=>at0 r k)++[at0 target k]) i)=(aaV rows.length).map fun i=>at0 (gF (cJ (cO rows target) rows.length) rows.length) i * at0 (rows.getD i []) k:=
    List.map_congr_left fun i hi=>by rw[Mx (abf.1 hi)]
   rw[e] at this
   exact this
 ·cases h
end
theorem Dz{n:Nat}{at_:List Nat}{l:List Int}:(fS n at_ l).length=n:=by
 unfold fS
 rw[oJ (fun p=>at0 l p.2)];simp
theorem zv{n i:Nat}{at_:List Nat}{l:List Int}(h:i∉at_):at0 (fS n at_ l) i=0:=by
 unfold fS
 rw[ny (fun p=>at0 l p.2) _ _ fun p hp e=>h (by
  subst e
  obtain⟨p1,p2⟩:=p
  have:=List.mem_zipIdx hp
  simp only at this ⊢
  rw[this.2.2]
  exact abj _)]
 unfold at0
 rw[aaU,adG]
 split<;>rfl
theorem Bf{l:List Int}:∀(ps:List (Nat × Nat)) (y:List Int),(ps.map ae6).Nodup->(∀p∈ps,p.1<y.length)->∀p∈ps,at0 (ps.foldl (fun y p=>y.set p.1 (at0 l p.2)) y) p.1=at0 l p.2:=by
 intro ps
 induction ps with
 |nil=>intro y _ _ p hp;cases hp
 |cons q ps ih=>
  intro y hn hy p hp
  rw[aa8,adM] at hn
  rcases abx.1 hp with rfl|hp
  ·rw[acI,ny (fun p=>at0 l p.2) _ _ fun p' hp' e=>hn.1 (abE.2 ⟨p',hp',e⟩),ui (hy p aba),if_pos rfl]
  ·exact ih _ hn.2 (fun p hp=>by rw[abV];exact hy p (aa5 _ hp)) p hp
theorem zip_fst(at_:List Nat):at_.zipIdx.map ae6=at_:=by
 apply adz<;>simp
theorem Gs{n j i:Nat}{at_:List Nat}{l:List Int}(hn:at_.Nodup)(hb:∀i∈at_,i<n)(hj:at_[j]?=some i):at0 (fS n at_ l) i=at0 l j:=by
 unfold fS
 have hm:(i,j)∈at_.zipIdx:=by
  rw[List.mem_zipIdx_iff_getElem?]
  exact hj
 exact Bf at_.zipIdx (List.replicate n 0) (by rw[zip_fst];exact hn) (fun p hp=>by
  rw[List.length_replicate]
  refine hb _ ?_
  have:p.1∈at_.zipIdx.map ae6:=abE.2 ⟨p,hp,rfl⟩
  rwa [zip_fst] at this) (i,j) hm
theorem Gu{n:Nat}{at_:List Nat}{l:List Int}(hl:∀x∈l,okF x):∀x∈fS n at_ l,okF x:=by
 have hok:∀(ps:List (Nat × Nat)) (y:List Int),(∀x∈y,okF x)->∀x∈ps.foldl (fun y p=>y.set p.1 (at0 l p.2)) y,okF x:=by
  intro ps
  induction ps with
  |nil=>intro y hy;exact hy
  |cons p ps ih=>
   intro y hy
   refine ih _ fun x hx=>?_
   rcases abQ hx with q|q
   ·exact hy x q
   ·rw[q];exact gU hl _
 exact hok _ _ fun x hx=>by rw[acP hx];exact iJ
theorem zw{owners who:List Int}{i:Nat}:i∈gV owners who↔i<owners.length/\at0 owners i∈who:=by
 unfold gV
 rw[acj,abf,afl]
theorem Gv(owners who:List Int):(gV owners who).Nodup:=List.nodup_range.filter _
theorem fk{rows:List (List Int)}{owners:List Int}(h:bC rows owners=0):rows.length=owners.length/\rows.length<=64/\(∀r∈rows,r.length=aK rows/\0<r.length/\r.length<=64/\∀x∈r,okF x)/\∀x∈owners,0<=x/\x<=63:=by
 unfold bC at h
 split at h
 ·cases h
 ·rename_i h1
  simp only[Bool.or_eq_true,decide_eq_true_eq,List.any_eq_true,not_or,not_exists,not_and,Nat.not_lt] at h1
  split at h
  ·cases h
  ·rename_i h2
   have h2:rows.length=owners.length:=by simpa using h2
   split at h
   ·rename_i h3
    rw[aa2] at h3
    have key:∀i (hi:i<rows.length),rows[i].length=(rows.getD 0 []).length/\0<rows[i].length/\(∀x∈rows[i],okF x)/\0<=at0 owners i/\at0 owners i<=63:=fun i hi=>by
     have:=h3 i (abf.2 hi)
     simp only[cU hi,aaQ,decide_eq_true_eq,aa2] at this
     obtain⟨⟨⟨a,b⟩,c,d⟩,f⟩:=this
     refine⟨b,?_,fun x hx=>?_,c,d⟩
     ·rcases Nat.eq_zero_or_pos rows[i].length with q|q
      ·rw[List.length_eq_zero_iff] at q
       rw[q] at a;cases a
      ·exact q
     ·have:=f x hx
      unfold inQ at this
      simpa [okF] using this
    refine⟨h2,h1.1,fun r hr=>?_,fun x hx=>?_⟩
    ·obtain⟨i,hi,rfl⟩:=acr.1 hr
     obtain⟨a,b,c,-⟩:=key i hi
     refine⟨?_,b,h1.2 _ hr,c⟩
     unfold aK
     rw[if_neg (by omega)];exact a
    ·obtain⟨i,hi,rfl⟩:=acr.1 hx
     have:=(key i (by omega)).2.2.2
     rwa [bN hi] at this
   ·cases h
theorem fI{rows:List (List Int)}{owners:List Int}(h:bC rows owners=0):0<aK rows/\aK rows<=64:=by
 obtain⟨-,-,h3,-⟩:=fk h
 unfold aK
 split
 ·omega
 ·rename_i q
  have:=h3 (rows.getD 0 []) (by rw[cU (by omega)];exact abj _)
  exact⟨this.2.1,this.2.2.1⟩
theorem DA{n:Nat}(h:0<n):(ct n).length=n:=by unfold ct;simp;omega
theorem Gw{n k:Nat}:at0 (ct n) k=if k=0 then 1 else 0:=by
 unfold ct at0
 cases k with
 |zero=>rfl
 |succ k=>
  rw[List.getD_cons_succ,aaU,adG]
  split<;>rfl
theorem Gx{n:Nat}:∀x∈ct n,okF x:=by
 intro x hx
 unfold ct at hx
 rcases abx.1 hx with rfl|q
 ·unfold okF;decide
 ·rw[acP q];exact iJ
theorem e7{rows:List (List Int)}{owners who y:List Int}(h:bJ rows owners who=(y,true,0)):
 bC rows owners=0/\cS (-1) who=true/\y.length=rows.length/\(∀x∈y,okF x)/\(∀i,at0 owners i∉who->at0 y i=0)/\
  ∀k,k<aK rows->Qi∣bW ((aaV rows.length).map fun i=>at0 y i * at0 (rows.getD i []) k) - (if k=0 then 1 else 0):=by
 unfold bJ at h
 split at h
 ·simp at h
 ·rename_i hp
  have hp:bC rows owners=0:=by simpa using hp
  obtain⟨p1,p2,p3,p4⟩:=fk hp
  split at h
  ·simp at h
  ·rename_i hw
   split at h
   ·simp at h
   ·rename_i l hl
    simp only[aaZ,and_true] at h
    subst h
    have hb:∀i∈gV owners who,i<rows.length:=fun i hi=>by rw[p1];exact(zw.1 hi).1
    have hr:∀r∈(gV owners who).map (fun i=>rows.getD i []),∀x∈r,okF x:=fun r hr=>by
     obtain⟨i,hi,rfl⟩:=abE.1 hr
     rw[cU (hb i hi)]
     exact(p3 _ (abj _)).2.2.2
    obtain⟨c1,c2,c3⟩:=combine_sat hr Gx hl
    rw[aaR] at c1 c3
    have hout:∀i,i∉gV owners who->at0 (fS rows.length (gV owners who) l) i=0:=fun i hi=>zv hi
    refine⟨hp,by simpa using hw,Dz,Gu c2,fun i hi=>hout i fun q=>hi (zw.1 q).2,fun k hk=>?_⟩
    have:=c3 k (by rw[DA (fI hp).1];exact hk)
    rw[Gw] at this
    have e:bW ((aaV rows.length).map fun i=>at0 (fS rows.length (gV owners who) l) i * at0 (rows.getD i []) k)=bW ((aaV (gV owners who).length).map fun i=>at0 l i * at0 (((gV owners who).map fun i=>rows.getD i []).getD i []) k):=by
     have e1:gV owners who=(aaV rows.length).filter fun i=>who.contains (at0 owners i):=by unfold gV;rw[p1]
     have e2:=Bc (f:=fun i=>at0 (fS rows.length (gV owners who) l) i * at0 (rows.getD i []) k) (p:=fun i=>who.contains (at0 owners i)) (l:=aaV rows.length) fun i hi hq=>by
      rw[hout i fun q=>?_,aeB]
      rw[afl.2 (zw.1 q).2] at hq;cases hq
     rw[<-e1] at e2
     rw[<-e2]
     congr 1
     refine Gq fun j i hj=>?_
     have hjl:=(aaL.1 hj).1
     rw[Gs (Gv owners who) hb hj,cU (t:=(gV owners who).map fun i=>rows.getD i []) (by simpa using hjl),abW]
     rw[(aaL.1 hj).2]
    rw[e]
    exact this
end Go.NT
end
section
namespace Go.NT
def Gn:Nat:=4
theorem gZ:elem Gn=true:=by decide+kernel
theorem Bg{a b:Int}(h:Qi∣a - b):a%Qi=b%Qi:=ad9.2 (Int.emod_eq_zero_of_dvd h)
theorem rL{a b:Int}(h:a%Qi=b%Qi):Qi∣a - b:=Int.dvd_of_emod_eq_zero (ad9.1 h)
theorem vv{a b:Int}(h:Qi∣a - b):aY Gn a=aY Gn b:=mM (Bg h)
theorem wH{a:Int}(h:aY Gn a=1):Qi∣a:=by
 have hf:=mJ a
 have ha:Qi∣a - fmod a:=rL (by unfold fmod;rw[acC _ (adB _)])
 by_cases h0:fmod a=0
 ·rw[h0,Int.sub_zero] at ha;exact ha
 ·exfalso
  have h1:aY Gn (fmod a * eZ (fmod a))=1:=by
   rw[oL gZ,Gd,h,jW,Nat.one_pow];rfl
  have h2:cq (fmod a) (eZ (fmod a))=1:=sG hf h0
  rw[fR] at h2
  have h3:aY Gn (fmod a * eZ (fmod a))=aY Gn 1:=mM (by rw[h2];rfl)
  rw[h1,Jc gZ] at h3
  cases h3
theorem My{a b:Int}(h:aY Gn a=aY Gn b):Qi∣a - b:=by
 refine wH ?_
 rw[Int.sub_eq_add_neg,mO gZ,h]
 exact Jd gZ b
theorem DB{a b:Int}(ha:okF a)(hb:okF b)(h:aY Gn a=aY Gn b):a=b:=by
 have:=Bg (My h)
 rwa [acp ha.1 ha.2,acp hb.1 hb.2] at this
theorem Jw{α:Type}{f:α->Nat}{a:α->Int}:∀{l:List α} (_:∀p∈l,f p=aY Gn (a p)) (k:Int),l.foldl (fun x p=>x * f p%P) (aY Gn k)=aY Gn (k+bW (l.map a)):=by
 intro l
 induction l with
 |nil=>intro _ k;simp[bW]
 |cons p l ih=>
  intro h k
  rw[acI,h p aba,<-mO gZ,ih (fun q hq=>h q (aa5 _ hq))]
  simp only[aa8,bW]
  congr 1;omega
theorem vw{α:Type}{f:α->Nat}{a:α->Int}{l:List α}(h:∀p∈l,f p=aY Gn (a p)):l.foldl (fun x p=>x * f p%P) 1=aY Gn (bW (l.map a)):=by
 have:=Jw h 0
 rw[xq,adT] at this
 exact this
def oa(a b:List Int):Int:=(aaV a.length).foldl (fun x j=>cN x (cq (at0 a j) (at0 b j))) 0
theorem vx{α:Type}{f:α->Int}:∀{l:List α} (x:Int),Qi∣l.foldl (fun x j=>cN x (f j)) x - (x+bW (l.map f)):=by
 intro l
 induction l with
 |nil=>intro x;simp[bW]
 |cons j l ih=>
  intro x
  have h1:=ih (cN x (f j))
  simp only[acI,aa8,bW]
  have h2:Qi∣cN x (f j) - (x+f j):=rL (by rw[jU,acC _ (adB _)])
  have:=adn h1 h2
  rw[show l.foldl (fun x j=>cN x (f j)) (cN x (f j)) - (cN x (f j)+bW (l.map f))+(cN x (f j) - (x+f j))=l.foldl (fun x j=>cN x (f j)) (cN x (f j)) - (x+(f j+bW (l.map f))) by omega] at this
  exact this
theorem Bh{α:Type}{f:α->Int}{l:List α}{x:Int}(hx:okF x):okF (l.foldl (fun x j=>cN x (f j)) x):=by
 rcases List.eq_nil_or_concat l with rfl|⟨l',a,rfl⟩
 ·exact hx
 ·rw[List.concat_eq_append,List.foldl_append];exact oI _ _
theorem Mz(a b:List Int):okF (oa a b):=Bh iJ
theorem rM(a b:Int):Qi∣cq a b - a * b:=rL (by rw[fR,acC _ (adB _)])
theorem Bi(a b:Int):Qi∣cN a b - (a+b):=rL (by rw[jU,acC _ (adB _)])
theorem jg{a b c:Int}(h:Qi∣a - b)(k:Qi∣b - c):Qi∣a - c:=by
 have:=adn h k
 rwa [show a - b+(b - c)=a - c by omega] at this
theorem Zh{a b:Int}(h:Qi∣a - b):Qi∣b - a:=by
 have:=Int.dvd_neg.2 h
 rwa [Int.neg_sub] at this
theorem Ez(a b:List Int):Qi∣oa a b - bW ((aaV a.length).map fun j=>at0 a j * at0 b j):=by
 have h1:=vx (f:=fun j=>cq (at0 a j) (at0 b j)) (l:=aaV a.length) 0
 rw[adT] at h1
 exact jg h1 (oO fun j _=>rM _ _)
def lU(aa row:List Int):Nat:=(aaV aa.length).foldl (fun x j=>x * aY (at0 aa j).toNat (at0 row j)%P) 1
def bO(rows:List (List Int))(s:List Int):List Int:=rows.map fun r=>oa r s
def ax(s:List Int):List Int:=s.map fun n=>((aY Gn n:Nat):Int)
theorem tF{s:List Int}{j:Nat}(hj:j<s.length):at0 (ax s) j=((aY Gn (at0 s j):Nat):Int):=by
 unfold ax
 have:j<(s.map fun n=>((aY Gn n:Nat):Int)).length:=by simpa using hj
 rw[bN this,bN hj,abW]
theorem Jx{s row:List Int}(hl:row.length=s.length):lU (ax s) row=aY Gn (oa row s):=by
 unfold lU
 have hc:(ax s).length=s.length:=by unfold ax;simp
 rw[hc,vw (a:=fun j=>at0 row j * at0 s j) fun j hj=>by
  rw[tF (abf.1 hj),aa1,<-oL gZ,adq]]
 refine(vv ?_).symm
 have:=Ez row s
 rwa [hl] at this
theorem zx{s:List Int}:(ax s).all aX=true:=by
 rw[aa2]
 intro x hx
 obtain⟨n,-,rfl⟩:=abE.1 hx
 have:=iq gZ n
 unfold aX
 rw[aa1,this,ac0]
 have h:=(elem_iff.1 this).1
 exact decide_eq_true (by omega)
theorem tW{rows:List (List Int)}{owners who y s:List Int}(h:bJ rows owners who=(y,true,0))(hs:s.length=aK rows):
 Qi∣bW ((aaV rows.length).map fun i=>at0 y i * at0 (bO rows s) i) - at0 s 0:=by
 obtain⟨hp,-,h1,h2,h3,h4⟩:=e7 h
 obtain⟨p1,p2,p3,p4⟩:=fk hp
 have hc:=fI hp
 have e1:Qi∣bW ((aaV rows.length).map fun i=>at0 y i * at0 (bO rows s) i) - bW ((aaV rows.length).map fun i=>bW ((aaV (aK rows)).map fun k=>at0 s k * (at0 y i * at0 (rows.getD i []) k))):=by
  refine oO fun i hi=>?_
  have hi:=abf.1 hi
  have hd:=Ez rows[i] s
  rw[(p3 _ (abj hi)).1] at hd
  have e:at0 (bO rows s) i=oa rows[i] s:=by
   unfold bO
   rw[bN (by simpa using hi),abW]
  rw[e,cU hi]
  have:bW ((aaV (aK rows)).map fun k=>at0 s k * (at0 y i * at0 rows[i] k))=at0 y i * bW ((aaV (aK rows)).map fun k=>at0 rows[i] k * at0 s k):=by
   rw[<-rK]
   exact qC fun k _=>by rw[Int.mul_left_comm,adq (at0 s k)]
  rw[this,<-acS]
  exact acw hd
 refine jg e1 ?_
 rw[xB]
 have e2:Qi∣bW ((aaV (aK rows)).map fun k=>bW ((aaV rows.length).map fun i=>at0 s k * (at0 y i * at0 (rows.getD i []) k))) - bW ((aaV (aK rows)).map fun k=>if k=0 then at0 s 0 else 0):=by
  refine oO fun k hk=>?_
  have:=h4 k (abf.1 hk)
  rw[rK]
  have e:(if k=0 then at0 s 0 else 0)=at0 s k * (if k=0 then 1 else 0):=by
   split
   ·rename_i q;subst q;rw[Int.mul_one]
   ·rw[Int.mul_zero]
  rw[e,<-acS]
  exact acw this
 refine jg e2 ?_
 rw[vh (p:=0) _ hc.1 fun i _ hne=>if_neg hne,if_pos rfl,Int.sub_self]
 exact Int.dvd_zero _
def cT(owners:List Int)(ag:Int):List Nat:=(aaV owners.length).filter fun i=>decide (at0 owners i=ag)
def aM(rows:List (List Int))(owners:List Int)(l:List Pr):List Int:=(bJ rows owners (l.map Pr.ag)).1
def fh(y:List Int)(s:List (Int × Int)):Int:=s.foldl (fun a p=>cN a (cq (at0 y p.1.toNat) p.2)) 0
def nF(rows:List (List Int))(aa:List Int)(p:Int × Int):Bool:=inQ p.2&&decide (aY Gn p.2=lU aa (rows.getD p.1.toNat []))
def eQ(rows:List (List Int))(owners aa:List Int)(ag:Int)(s:List (Int × Int)):Bool:=decide (s.map ae6=(cT owners ag).map fun(i:Nat)=>(i:Int))&&s.all (nF rows aa)
def gl(l:List Pr)(ag:Int):Option Pr:=l.find? fun p=>decide (p.ag=ag)
def aG(c0:Int)(text:List UInt8)(l:List Pr):Nat:=tw (dA c0 text l) c0 text
def rN(rows:List (List Int))(owners:List Int)(aa:List Int)(text:List UInt8)(l:List Pr)(ag:Int)(s:List (Int × Int))(d f:Int):Int × Int:=
 match gl l ag with
 |none=>(0,1)
 |some x=>
  if !(inQ d&&inQ f) then (0,1)
  else if !eQ rows owners aa ag s then (0,340)
  else if ¬((aY Gn d:Nat):Int)=x.d∨¬((aY Gn f:Nat):Int)=x.e then (0,420)
  else (cN (cN d (cq f (dP (at0 aa 0) text l ag))) (cq (aG (at0 aa 0) text l) (fh (aM rows owners l) s)),0)
def p9(rows:List (List Int))(owners:List Int)(aa:List Int)(text:List UInt8)(l:List Pr)(x:Pr):Nat:=
 gX (at0 aa 0) text l x * ((cT owners x.ag).foldl (fun a i=>a * aY (lU aa (rows.getD i [])) (at0 (aM rows owners l) i * aG (at0 aa 0) text l)%P) 1)%P
def tG(rows:List (List Int))(owners:List Int)(aa:List Int)(text:List UInt8)(l:List Pr)(ag z:Int):Bool × Int:=
 match gl l ag with
 |none=>(false,1)
 |some x=>if !inQ z then (false,1) else (decide (aY Gn z=p9 rows owners aa text l x),0)
def iO(key:Int)(text:List UInt8)(e s:Int):Bool:=aX key&&inQ e&&inQ s&&decide (e=((tw ((aY Gn s * aY key.toNat (-e)%P:Nat):Int) key text:Nat):Int))
theorem Jy(b:List UInt8):mK b<Q:=ab9 _ (by decide)
theorem iP{x:Int}:inQ x=true↔okF x:=by unfold inQ okF;simp
theorem Bj(tag:List UInt8)(v:Vl):inQ ((mL tag v:Nat):Int)=true:=by
 rw[iP]
 have:=Jy (dV tag (fB v))
 unfold mL okF
 rw[qw]
 omega
theorem Gy{x n s:Int}{text:List UInt8}{e:Nat}(he:e=tw ((aY Gn n:Nat):Int) ((aY Gn x:Nat):Int) text)(hs:okF s)(h:Qi∣s - (n+e * x)):iO ((aY Gn x:Nat):Int) text e s=true:=by
 unfold iO
 have hx:=iq gZ x
 have e1:aX ((aY Gn x:Nat):Int)=true:=by
  unfold aX
  rw[aa1,hx,ac0]
  have h:=(elem_iff.1 hx).1
  exact decide_eq_true (by omega)
 have e2:inQ ((e:Nat):Int)=true:=by rw[he];exact Bj _ _
 have e3:aY Gn s * aY (aY Gn x) (-(e:Int))%P=aY Gn n:=by
  rw[<-oL gZ,<-mO gZ]
  refine vv ?_
  have:s+x * -(e:Int) - n=s - (n+e * x):=by rw[Int.mul_neg,adq x];omega
  rw[this];exact h
 rw[e1,e2,iP.2 hs,aa1,e3,<-he]
 simp
end Go.NT
end
section
namespace Go.NT
def mS(f:Nat->Int)(a:List Int)(c k:Nat):List Int:=(aaV a.length).map fun j=>if c<=j/\j<k then f j else at0 a j
section
variable {f:Nat->Int} {a own:List Int} {c k j r w:Nat} {t:List (List Int)}
theorem gm:(mS f a c k).length=a.length:=by unfold mS;simp
theorem rO(hj:j<a.length):at0 (mS f a c k) j=if c<=j/\j<k then f j else at0 a j:=by
 rw[bN (by rw[gm];exact hj)]
 unfold mS
 rw[abW,acy]
theorem Gz:mS f a c c=a:=by
 refine jV gm fun j hj=>?_
 rw[gm] at hj
 rw[rO hj,if_neg (by omega)]
theorem GA(hc:c<=k)(hk:k<a.length):(mS f a c k).set k (f k)=mS f a c (k+1):=by
 refine jV (by rw[abV,gm,gm]) fun j hj=>?_
 rw[abV,gm] at hj
 rw[ui (by rw[gm];exact hk),rO hj,rO hj]
 by_cases hjk:j=k
 ·subst hjk;rw[if_pos rfl,if_pos (by omega)]
 ·rw[if_neg hjk]
  by_cases q:c<=j/\j<k
  ·rw[if_pos q,if_pos (by omega)]
  ·rw[if_neg q,if_neg (by omega)]
theorem DC{n:Int}(hc:c<=a.length):mS (fun j=>cq (at0 a j) n) a c a.length=da c a n:=by
 unfold da
 refine jV (by rw[gm,aaW,aaR,aa6,abi];omega) fun j hj=>?_
 rw[gm] at hj
 rw[rO hj,kJ hc]
 by_cases q:j<c
 ·rw[if_neg (by omega),if_pos q]
 ·rw[if_pos (by omega),if_neg q]
  have hm:j - c<((a.drop c).map (cq · n)).length:=by rw[aaR,abi];omega
  rw[bN hm,abW,List.getElem_drop,bN hj]
  congr 2
  omega
def pP(c:Nat)(own:List Int)(r j:Nat)(t:List (List Int)):List (List Int):=t.mapIdx fun i a=>if i<j/\i≠r then lE c a own else a
theorem Bk:(pP c own r j t).length=t.length:=by unfold pP;simp
theorem gJ(i:Nat):(pP c own r j t)[i]?=t[i]?.map fun a=>if i<j/\i≠r then lE c a own else a:=by
 unfold pP;rw[aey]
theorem GB:pP c own r 0 t=t:=by
 apply abZ
 intro i
 rw[gJ]
 cases t[i]?<;>simp
theorem GC:pP c own r (r+1) t=pP c own r r t:=by
 apply abZ
 intro i
 rw[gJ,gJ]
 congr 1
 funext a
 by_cases h:i<r/\i≠r
 ·rw[if_pos h,if_pos (by omega)]
 ·rw[if_neg h,if_neg (by omega)]
theorem GD:(pP c own r j t)[j]?=t[j]?:=by
 rw[gJ];cases t[j]?<;>simp
theorem Jz:(pP c own r j t)[r]?=t[r]?:=by
 rw[gJ];cases t[r]?<;>simp
theorem GF{a:List Int}(hj:t[j]?=some a)(hr:j≠r):(pP c own r j t).set j (lE c a own)=pP c own r (j+1) t:=by
 apply abZ
 intro i
 rw[abD,Bk]
 have hl:=(aaL.1 hj).1
 split
 ·rename_i e;subst e
  try rw[if_pos hl]
  rw[gJ,hj,aa7,if_pos ⟨Nat.lt_succ_self _,hr⟩]
 ·rename_i e
  rw[gJ,gJ]
  congr 1
  funext a
  by_cases h:i<j/\i≠r
  ·rw[if_pos h,if_pos (by omega)]
  ·rw[if_neg h,if_neg (by omega)]
theorem xD{j:Nat}(hr:r<=j)(hj:j<=t.length)(hz:∀k,r<=k->k<j->at0 (t.getD k []) c=0)(he:j<t.length->at0 (t.getD j []) c≠0):lF t r c=if j=t.length then none else some j:=by
 cases hf:lF t r c with
 |none=>
  by_cases e:j=t.length
  ·rw[if_pos e]
  ·exact absurd (vg hf (by omega) hr) (he (by omega))
 |some k=>
  obtain⟨k1,k2,k3⟩:=jf hf
  have hkj:j<=k:=by
   rcases aa9 k j with h|h
   ·exact absurd (hz k k2 h) k3
   ·exact h
  rw[if_neg (by omega)]
  unfold lF at hf
  rw[List.find?_eq_some_iff_getElem] at hf
  obtain⟨-,i,hi,hik,hall⟩:=hf
  rw[acy] at hik
  subst hik
  rcases aa9 j i with h|h
  ·have:=hall j h
   rw[acy] at this
   simp only[acn,Bool.and_eq_false_imp,decide_eq_true_eq,Bool.not_eq_false',decide_eq_true_eq] at this
   exact absurd (this hr) (he (by omega))
  ·rw[Nat.le_antisymm h hkj]
theorem JA{pv:List Nat}{k:Nat}{b o:List Int}(hf:lF t pv.length c=some k)(hb:t[k]?=some b)(ho:t[pv.length]?=some o):
 pZ (t,pv) c=(pP c (da c b (eZ (at0 b c))) pv.length t.length (((t.set pv.length b).set k o).set pv.length (da c b (eZ (at0 b c)))),pv++[c]):=by
 have hk:=(aaL.1 hb).1
 have hr:=(aaL.1 ho).1
 have gb:t.getD k []=b:=by rw[aaU,hb];rfl
 have go:t.getD pv.length []=o:=by rw[aaU,ho];rfl
 unfold pZ
 simp only[hf,gb,go]
 congr 1
 generalize da c b (eZ (at0 b c))=s
 have e1:((t.set pv.length b).set k o).set pv.length s=(t.set k o).set pv.length s:=by
  by_cases e:k=pv.length
  ·subst e;simp
  ·rw[List.set_comm _ _ (fun q=>e q.symm),adV]
 rw[e1]
 apply abZ
 intro i
 rw[aey,gJ]
 by_cases e:i=pv.length
 ·subst e
  rw[List.getElem?_set_self (by rw[abV];exact hr)]
  simp
 ·cases hi:((t.set k o).set pv.length s)[i]? with
  |none=>rfl
  |some x=>
   have:=(aaL.1 hi).1
   rw[abV,abV] at this
   simp[e,this]
end
end Go.NT
end
section
namespace Go.NT
def O1(l:List Pr)(ld le:Int->Int):Prop:=∀p∈l,p.d=((aY Gn (ld p.ag):Nat):Int)/\p.e=((aY Gn (le p.ag):Nat):Int)
theorem Bl(tag:List UInt8)(v:Vl):okF ((mL tag v:Nat):Int):=iP.1 (Bj tag v)
theorem sM(x:Nat)(tag:List UInt8)(v:Vl):y7 x (mL tag v)=aY x ((mL tag v:Nat):Int):=by
 unfold aY
 rw[ph (Bl tag v),aa1]
theorem xE{text:List UInt8}{l:List Pr}{p:Pr}{d e:Int}(hd:p.d=((aY Gn d:Nat):Int))(he:p.e=((aY Gn e:Nat):Int))(c0:Int):
 gX c0 text l p=aY Gn (d+e * ((dP c0 text l p.ag:Nat):Int)):=by
 unfold gX
 rw[hd,he,aa1,aa1]
 unfold dP
 rw[sM,<-oL gZ,<-mO gZ]
theorem GG{text:List UInt8}{l:List Pr}{ld le:Int->Int}(h:O1 l ld le)(c0:Int):
 dA c0 text l=aY Gn (bW (l.map fun p=>ld p.ag+le p.ag * ((dP c0 text l p.ag:Nat):Int))):=by
 unfold dA
 exact vw fun p hp=>xE (h p hp).1 (h p hp).2 c0
def gK(owners sh:List Int)(k:Int):List (Int × Int):=(cT owners k).map fun i=>((i:Nat),at0 sh i)
def nG(y sh:List Int)(L:List Nat):Int:=bW (L.map fun i=>at0 y i * at0 sh i)
theorem JB(y owners sh:List Int)(k:Int):Qi∣fh y (gK owners sh k) - nG y sh (cT owners k):=by
 unfold fh gK nG
 rw[List.foldl_map]
 have h1:=vx (f:=fun i:Nat=>cq (at0 y i) (at0 sh i)) (l:=cT owners k) 0
 rw[adT] at h1
 have e:(fun(a:Int) (i:Nat)=>cN a (cq (at0 y (((i:Nat):Int)).toNat) (at0 sh i)))=fun a i=>cN a (cq (at0 y i) (at0 sh i)):=by
  funext a i
  rw[aa1]
 simp only[e]
 exact jg h1 (oO fun i _=>rM _ _)
theorem GH{α:Type}{f:α->Int}{p:α->Bool}:∀{l:List α},bW ((l.filter p).map f)=bW (l.map fun i=>if p i=true then f i else 0):=by
 intro l
 induction l with
 |nil=>rfl
 |cons x l ih=>
  cases hp:p x
  ·rw[adh (by simp[hp]),ih]
   simp only[aa8,bW,hp]
   simp
  ·rw[adi hp]
   simp only[aa8,bW,hp,ih]
   simp
theorem GI{n v:Int}:∀{who:List Int},who.Nodup->bW (who.map fun k=>if decide (n=k)=true then v else 0)=if n∈who then v else 0:=by
 intro who
 induction who with
 |nil=>intro _;rfl
 |cons k l ih=>
  intro h
  obtain⟨h1,h2⟩:=adM.1 h
  simp only[aa8,bW,ih h2]
  by_cases hk:n=k
  ·subst hk
   simp[h1]
  ·simp[hk]
theorem GJ{owners y sh:List Int}{who:List Int}(hn:who.Nodup)(h0:∀i,at0 owners i∉who->at0 y i=0):
 bW (who.map fun k=>nG y sh (cT owners k))=bW ((aaV owners.length).map fun i=>at0 y i * at0 sh i):=by
 have e1:(fun k=>nG y sh (cT owners k))=fun k=>bW ((aaV owners.length).map fun i=>if decide (at0 owners i=k)=true then at0 y i * at0 sh i else 0):=by
  funext k
  exact GH
 rw[e1,xB]
 refine qC fun i _=>?_
 rw[GI hn]
 split
 ·rfl
 ·rename_i h
  rw[h0 i h,aeB]
theorem nH:∀{last:Int} {who:List Int},cS last who=true->(∀n∈who,last<n/\n<=63)/\who.Nodup:=by
 intro last who
 induction who generalizing last with
 |nil=>intro _;exact⟨fun n hn=>by simp at hn,.nil⟩
 |cons n l ih=>
  intro h
  rw[cS] at h
  simp only[aaQ,decide_eq_true_eq] at h
  obtain⟨h1,h2⟩:=ih h.2
  refine⟨fun m hm=>?_,adM.2 ⟨fun hm=>?_,h2⟩⟩
  ·rcases abx.1 hm with rfl|hm
   ·exact h.1
   ·have:=h1 m hm
    exact⟨by omega,this.2⟩
  ·have:=h1 n hm
   omega
def fD(rows:List (List Int))(owners aa:List Int)(text:List UInt8)(l:List Pr)(k d f:Int)(s:List (Int × Int)):Int:=
 cN (cN d (cq f (dP (at0 aa 0) text l k))) (cq (aG (at0 aa 0) text l) (fh (aM rows owners l) s))
theorem JC{rows:List (List Int)}{owners aa:List Int}{text:List UInt8}{l:List Pr}{k d f:Int}{s:List (Int × Int)}:okF (fD rows owners aa text l k d f s):=oI _ _
theorem Bm(rows:List (List Int))(owners aa:List Int)(text:List UInt8)(l:List Pr)(k d f:Int)(sh:List Int):
 Qi∣fD rows owners aa text l k d f (gK owners sh k) - (d+f * ((dP (at0 aa 0) text l k:Nat):Int)+((aG (at0 aa 0) text l:Nat):Int) * nG (aM rows owners l) sh (cT owners k)):=by
 unfold fD
 generalize ((dP (at0 aa 0) text l k:Nat):Int)=b
 generalize ((aG (at0 aa 0) text l:Nat):Int)=c
 have h1:=JB (aM rows owners l) owners sh k
 generalize fh (aM rows owners l) (gK owners sh k)=w at *
 generalize nG (aM rows owners l) sh (cT owners k)=v at *
 have h2:=Bi (cN d (cq f b)) (cq c w)
 have h3:=Bi d (cq f b)
 have h4:=rM f b
 have h5:=rM c w
 have h6:Qi∣c * (w - v):=acw h1
 rw[acS] at h6
 have:=adn (adn (adn h2 h3) (adn h4 h5)) h6
 refine(congrArg (Qi∣·) ?_).mp this
 generalize f * b=x1
 generalize c * w=x2
 generalize c * v=x3
 omega
theorem GK{rows:List (List Int)}{owners y s:List Int}{text:List UInt8}{l:List Pr}{ld le:Int->Int}(ha:bJ rows owners (l.map Pr.ag)=(y,true,0))(hs:s.length=aK rows):
 Qi∣bW ((l.map Pr.ag).map fun k=>fD rows owners (ax s) text l k (ld k) (le k) (gK owners (bO rows s) k)) -
  (bW ((l.map Pr.ag).map fun k=>ld k+le k * ((dP (at0 (ax s) 0) text l k:Nat):Int))+((aG (at0 (ax s) 0) text l:Nat):Int) * at0 s 0):=by
 obtain⟨hp,hw,h1,h2,h3,h4⟩:=e7 ha
 obtain⟨p1,-,-,-⟩:=fk hp
 have hn:=(nH hw).2
 have e1:=oO (q:=Qi) (l:=l.map Pr.ag) (f:=fun k=>fD rows owners (ax s) text l k (ld k) (le k) (gK owners (bO rows s) k))
  (g:=fun k=>ld k+le k * ((dP (at0 (ax s) 0) text l k:Nat):Int)+((aG (at0 (ax s) 0) text l:Nat):Int) * nG (aM rows owners l) (bO rows s) (cT owners k))
  fun k _=>Bm rows owners (ax s) text l k (ld k) (le k) (bO rows s)
 refine jg e1 ?_
 rw[Bd,rK]
 have hy:aM rows owners l=y:=by unfold aM;rw[ha]
 rw[hy,GJ hn h3,<-p1]
 have h5:=tW ha hs
 have h6:Qi∣((aG (at0 (ax s) 0) text l:Nat):Int) * (bW ((aaV rows.length).map fun i=>at0 y i * at0 (bO rows s) i) - at0 s 0):=acw h5
 rw[acS] at h6
 refine(congrArg (Qi∣·) ?_).mp h6
 omega
theorem JD{s:List Int}(h:0<s.length):at0 (ax s) 0=((aY Gn (at0 s 0):Nat):Int):=tF h
theorem DD(z:List Int):Qi∣z.foldl cN 0 - bW z:=by
 have:=vx (f:=fun x:Int=>x) (l:=z) 0
 rw[adT,List.map_id'] at this
 exact this
theorem DE(z:List Int):okF (z.foldl cN 0):=Bh (f:=fun x:Int=>x) iJ
theorem QU{rows:List (List Int)}{owners y s:List Int}{text:List UInt8}{l:List Pr}{ld le:Int->Int}(ha:bJ rows owners (l.map Pr.ag)=(y,true,0))(hs:s.length=aK rows)(hl:O1 l ld le):
 iO (at0 (ax s) 0) text ((aG (at0 (ax s) 0) text l:Nat):Int) (((l.map Pr.ag).map fun k=>fD rows owners (ax s) text l k (ld k) (le k) (gK owners (bO rows s) k)).foldl cN 0)=true:=by
 obtain⟨hp,-⟩:=e7 ha
 have hpos:0<s.length:=by have:=(fI hp).1;omega
 have h1:=GK (text:=text) (ld:=ld) (le:=le) ha hs
 have h2:=DD ((l.map Pr.ag).map fun k=>fD rows owners (ax s) text l k (ld k) (le k) (gK owners (bO rows s) k))
 have h3:=jg h2 h1
 have hpt:=GG (text:=text) hl (at0 (ax s) 0)
 have e:(l.map Pr.ag).map (fun k=>ld k+le k * ((dP (at0 (ax s) 0) text l k:Nat):Int))=l.map fun p=>ld p.ag+le p.ag * ((dP (at0 (ax s) 0) text l p.ag:Nat):Int):=by
  rw[ac7];rfl
 rw[e] at h3
 have hc:aG (at0 (ax s) 0) text l=tw ((dA (at0 (ax s) 0) text l:Nat):Int) (at0 (ax s) 0) text:=rfl
 rw[hpt] at hc
 generalize aG (at0 (ax s) 0) text l=c at *
 generalize bW (l.map fun p=>ld p.ag+le p.ag * ((dP (at0 (ax s) 0) text l p.ag:Nat):Int))=n at *
 rw[JD hpos] at *
 exact Gy hc (DE _) h3
theorem sN{rows:List (List Int)}{s:List Int}{i:Nat}(h:i<rows.length):at0 (bO rows s) i=oa (rows.getD i []) s:=by
 unfold bO
 rw[bN (by simpa using h),abW,cU h]
theorem JE{rows:List (List Int)}{owners s:List Int}{text:List UInt8}{l:List Pr}{x:Pr}{d f:Int}(hp:bC rows owners=0)(hs:s.length=aK rows)(hd:x.d=((aY Gn d:Nat):Int))(he:x.e=((aY Gn f:Nat):Int)):
 p9 rows owners (ax s) text l x=aY Gn (fD rows owners (ax s) text l x.ag d f (gK owners (bO rows s) x.ag)):=by
 obtain⟨p1,p2,p3,p4⟩:=fk hp
 unfold p9
 rw[xE hd he,vw (a:=fun i=>at0 (aM rows owners l) i * at0 (bO rows s) i * ((aG (at0 (ax s) 0) text l:Nat):Int)) fun i hi=>?_]
 rotate_left 1
 ·have hi:i<rows.length:=by
   rw[p1]
   unfold cT at hi
   exact abf.1 (acj.1 hi).1
  rw[Jx (by rw[hs,cU hi];exact(p3 _ (abj _)).1),<-oL gZ,sN hi]
  congr 1
  rw[adq (at0 (aM rows owners l) i) (oa _ _),Int.mul_assoc]
 rw[<-mO gZ]
 refine(vv ?_).symm
 have h1:=Bm rows owners (ax s) text l x.ag d f (bO rows s)
 have e:bW ((cT owners x.ag).map fun i=>at0 (aM rows owners l) i * at0 (bO rows s) i * ((aG (at0 (ax s) 0) text l:Nat):Int))=((aG (at0 (ax s) 0) text l:Nat):Int) * nG (aM rows owners l) (bO rows s) (cT owners x.ag):=by
  unfold nG
  rw[<-rK]
  exact qC fun i _=>adq _ _
 rw[e]
 exact h1
theorem JF{rows:List (List Int)}{owners s:List Int}{text:List UInt8}{l:List Pr}{x:Pr}{d f z:Int}(hp:bC rows owners=0)(hs:s.length=aK rows)(hd:x.d=((aY Gn d:Nat):Int))(he:x.e=((aY Gn f:Nat):Int))(hz:okF z):
 decide (aY Gn z=p9 rows owners (ax s) text l x)=decide (z=fD rows owners (ax s) text l x.ag d f (gK owners (bO rows s) x.ag)):=by
 rw[JE hp hs hd he,decide_eq_decide]
 exact⟨fun h=>DB hz JC h,fun h=>by rw[h]⟩
theorem GL{rows:List (List Int)}{owners s:List Int}(hp:bC rows owners=0)(hs:s.length=aK rows)(k:Int):eQ rows owners (ax s) k (gK owners (bO rows s) k)=true:=by
 obtain⟨p1,p2,p3,p4⟩:=fk hp
 unfold eQ gK
 rw[aaQ]
 refine⟨by simp[ac7,Function.comp_def],?_⟩
 rw[aa2]
 intro q hq
 obtain⟨i,hi,rfl⟩:=abE.1 hq
 have hi:i<rows.length:=by
  rw[p1]
  unfold cT at hi
  exact abf.1 (acj.1 hi).1
 unfold nF
 simp only[aa1]
 have hpe:lU (ax s) (rows.getD i [])=aY Gn (oa (rows.getD i []) s):=Jx (by rw[hs,cU hi];exact(p3 _ (abj _)).1)
 rw[sN hi,iP.2 (Mz _ _),Bool.true_and]
 exact decide_eq_true hpe.symm
theorem EA{l:List Pr}{last:Int}(h:dy last l=true){p:Pr}(hp:p∈l):gl l p.ag=some p:=by
 induction l generalizing last with
 |nil=>simp at hp
 |cons q l ih=>
  rw[dy] at h
  simp only[aaQ,decide_eq_true_eq] at h
  unfold gl
  rw[List.find?_cons]
  rcases abx.1 hp with rfl|hp
  ·simp
  ·have hgt:∀{l:List Pr} {last:Int},dy last l=true->∀p∈l,last<p.ag:=by
    intro l
    induction l with
    |nil=>intro _ _ p hp;simp at hp
    |cons q l ih=>
     intro last h p hp
     rw[dy] at h
     simp only[aaQ,decide_eq_true_eq] at h
     rcases abx.1 hp with rfl|hp
     ·exact h.1.1.1.1.1.1
     ·have:=ih h.2 p hp
      have:=h.1.1.1.1.1.1
      omega
   have:=hgt h.2 p hp
   have hne:decide (q.ag=p.ag)=false:=decide_eq_false (by omega)
   rw[hne]
   exact ih h.2 hp
theorem MA{rows:List (List Int)}{owners s:List Int}{text:List UInt8}{l:List Pr}{last:Int}(hp:bC rows owners=0)(hs:s.length=aK rows)(hl:dy last l=true){x:Pr}(hx:x∈l){d f:Int}(hd:x.d=((aY Gn d:Nat):Int))(he:x.e=((aY Gn f:Nat):Int))(od:okF d)(of_:okF f):
 rN rows owners (ax s) text l x.ag (gK owners (bO rows s) x.ag) d f=(fD rows owners (ax s) text l x.ag d f (gK owners (bO rows s) x.ag),0):=by
 unfold rN
 rw[EA hl hx]
 simp only[iP.2 od,iP.2 of_,GL hp hs,hd,he]
 simp[fD]
end Go.NT
end
section
namespace Go.Proofs.YtnfciiiohoafaaaGreatDoor
open Go.AE Go.NT
theorem QV:Tryz.f210.results.toList=[.tmp 2]:=kZq
theorem QW{t:TypeId}{x y:Operand}{n:Nat}(hn:n<=4611686018427387903):bB Tryz.prog .shl t x y (.v (.int .u64 (n:Nat))) (.v (.int .u64 1))=some (.v (.int .u64 ((2 * n:Nat):Int))):=by
 rw[y0 (by decide)]
 congr 3
 show IntKind.u64.wrap (((n:Nat):Int) * 2)=_
 unfold IntKind.wrap
 simp[IntKind.signed,IntKind.bits]
 omega
theorem QX{t:TypeId}{x y:Operand}{n:Nat}(hn:n<=4611686018427387903):bB Tryz.prog .shr t x y (.v (.int .i64 (n:Nat))) (.v (.int .u64 63))=some (.v (.int .i64 0)):=by
 rw[nr (by decide)]
 congr 3
 show((n:Nat):Int).fdiv (2^63)=_
 rw[acE _ (by decide)]
 omega
theorem SW{t:TypeId}{x y:Operand}{n:Nat}(hn:n<=4611686018427387903):bB Tryz.prog .xor t x y (.v (.int .u64 ((2 * n:Nat):Int))) (.v (.int .u64 0))=some (.v (.int .u64 ((2 * n:Nat):Int))):=by
 rw[Ej]
 congr 3
 have e1:(BitVec.ofInt IntKind.u64.bits ((2 * n:Nat):Int)^^^BitVec.ofInt IntKind.u64.bits 0).toNat=2 * n:=by
  show(BitVec.ofInt 64 ((2 * n:Nat):Int)^^^0#64).toNat=2 * n
  rw[BitVec.xor_zero,BitVec.toNat_ofInt];omega
 rw[e1]
 unfold IntKind.wrap
 simp[IntKind.signed,IntKind.bits]
 omega
theorem JG{n:Nat}(hn:n<18446744073709551616):IntKind.u64.wrap ((n:Nat):Int)=((n:Nat):Int):=by
 unfold IntKind.wrap
 simp[IntKind.signed,IntKind.bits]
 omega
theorem Bn(n:Nat)(hn:n<=4611686018427387903)(h:ae):W.call 210 [.v (.int .i64 (n:Nat))] h=some (.ret (.v (.int .u64 (oK n:Nat))),h):=by
 have e:oK (n:Int)=2 * n:=by unfold oK;rw[if_pos (by omega),aa1]
 rw[e]
 have e1:=JG (n:=n) (by omega)
 have e2:IntKind.u64.wrap 0=0:=rfl
 have s1:=fun t x y=>QW (t:=t) (x:=x) (y:=y) hn
 have s2:=fun t x y=>QX (t:=t) (x:=x) (y:=y) hn
 have s3:=fun t x y=>SW (t:=t) (x:=x) (y:=y) hn
 refine ar rfl Tryz.func210 rfl ?_
 exact gz2 @QV @jY
def L1:List FuncId:=[28,29,30,46,65,66,69,78,82,94,132,138,140,194,201,210,223,224]
noncomputable def DF:FuncId->Option (List AV->ae->Option (AV × ae)):=fx W L1
noncomputable abbrev W1:=whole Tryz.prog Gt DF
theorem Bo:jo DF L1:=nE
theorem bV{t:Nat}(k:Tok):oF t (di k)=true:=by cases k<;>rfl
theorem iQ:∀b:List UInt8,eF (u8s b)=u8s b
 | []=>rfl
 |c::b=>by
  show bM (dp c)::eF (u8s b)=_
  rw[iQ b];rfl
theorem fT{n l t:Nat}:∀b:List UInt8,gH n l t (u8s b)=true
 | []=>rfl
 |c::b=>by
  show(bA n l t (dp c)&&gH n l t (u8s b))=true
  rw[fT b];rfl
theorem xF:∀l:List Int,eF (ints l)=ints l
 | []=>rfl
 |c::b=>by
  show bM (nC c)::eF (ints b)=_
  rw[xF b];rfl
theorem fJ{n l t:Nat}:∀b:List Int,gH n l t (ints b)=true
 | []=>rfl
 |c::b=>by
  show(bA n l t (nC c)&&gH n l t (ints b))=true
  rw[fJ b];rfl
section
variable (a b n x:Int)
theorem SX:∀h,W1.call 28 [im a,im b] h=some (.ret (im (cN a b)),h):=aF (L:=L1) rfl rfl rfl (OG a b _) rfl rfl
theorem SY:∀h,W1.call 29 [im a,im b] h=some (.ret (im (cq a b)),h):=aF (L:=L1) rfl rfl rfl (Dl a b _) rfl rfl
theorem JH:∀h,W1.call 201 [im n] h=some (.ret (.tuple [im (if fmod n=0 then 0 else eZ n),im (if fmod n=0 then 90 else 0)]),h):=aF (L:=L1) rfl rfl rfl (Dn n _) rfl rfl
theorem O2:∀h,W1.call 46 [im x] h=some (.ret (.v (.bool (aX x))),h):=aF (L:=L1) rfl rfl rfl (rF x _) rfl rfl
theorem QY:∀h,W1.call 69 [im a,im b] h=some (.ret (.tuple [im (pO a b),im (mP a b)]),h):=aF (L:=L1) rfl rfl rfl (Mn a b _) rfl rfl
theorem QZ:∀h,W1.call 30 [im a,im n] h=some (.ret (.tuple [im (iL a n),im (lG a)]),h):=by
 obtain⟨h',hc,-⟩:=Mq a n ⟨[],[],0,[]⟩
 exact aF (L:=L1) rfl rfl rfl hc rfl rfl
end
theorem GN(n:Nat)(hn:n<=4611686018427387903):∀h,W1.call 210 [.v (.int .i64 (n:Nat))] h=some (.ret (.v (.int .u64 (oK n:Nat))),h):=aF (L:=L1) rfl rfl rfl (Bn n hn _) rfl rfl
theorem O4(tag b:List UInt8)(k:Tok)(hb:b.length<=1099511620000)(ht:tag.length<=1099511620000):∀h,W1.call 78 [.v (.string (bs tag)),.list k 1 (u8s b)] h=some (.ret (im (mK (dV tag b):Nat)),h):=by
 obtain⟨h',hc,-⟩:=Jt tag b (.list (di k) 1 (u8s b)) ⟨[],[],0,[]⟩ (b9.list (ga _) fun _=>rfl) hb ht
 exact aF (L:=L1) (args':=[.v (.string (bs tag)),.list (di k) 1 (u8s b)]) rfl (by rw[bM,bM,au.eq_1,iQ];rfl) (by simp[bA,aV,bV,fT]) hc rfl rfl
def sv(s:List UInt8):AV:=.v (.string (bs s))
def cE(k n:Int)(s:List UInt8)(t:Tok)(sz:Nat)(rows:List (List AV)):List AV:=[im k,im n,sv s,.list t sz rows]
inductive eo:Vl->List AV->Prop
 |int (n:Int) (hn:0<=n/\n<=4611686018427387903):eo (.int n) (cE 1 n [] .nil 0 [])
 |text (s:List UInt8) (hs:s.length<=1099511620000):eo (.text s) (cE 2 0 s .nil 0 [])
 |list (l:List Vl) (k:Tok) (sz:Nat) (rows:List (List AV)) (hl:rows.length=l.length) (hs:rows≠[]->sz=4) (hm:rows.length<=1000000) (h:∀(i:Nat) v r,l[i]?=some v->rows[i]?=some r->eo v r):eo (.list l) (cE 3 0 [] k sz rows)
theorem eo.len{v:Vl}{r:List AV}(h:eo v r):r.length=4:=by
 cases h<;>rfl
theorem dB{k n:Int}{s:List UInt8}{t:Tok}{sz:Nat}{rows:List (List AV)}:(AV.agg (cE k n s t sz rows)).aC=some (cE k n s t sz rows):=rfl
theorem eo.cells{v:Vl}{r:List AV}(h:eo v r):(AV.agg r).aC=some r:=by
 cases h<;>rfl
theorem Bp:Tryz.f207.results.toList=[.tmp 2,.tmp 3]:=kZq
theorem O5:cZ Tryz.prog 96=some true:=kZq
theorem tX:bF Tryz.prog 96=some 4:=kZq
theorem Q2:cZ Tryz.prog 94=some false:=kZq
theorem ag9:cZ Tryz.prog 9=some false:=kZq
theorem ag4:cZ Tryz.prog 4=some false:=kZq
theorem Q3:bF Tryz.prog 246=some 4:=kZq
section
variable {H:ae} {b:Nat} {k n:Int} {s:List UInt8} {t:Tok} {sz:Nat} {rows:List (List AV)}
theorem MB(hb:H.boxes[b]?=some (cE k n s t sz rows)):ai Tryz.prog Gt H 3 (.ptr (.box b) 0)=some (.v (.int .i64 k)):=by rw[dc ag3 hb];rfl
theorem GO(hb:H.boxes[b]?=some (cE k n s t sz rows)):ai Tryz.prog Gt H 3 (.ptr (.box b) 1)=some (.v (.int .i64 n)):=by rw[dc ag3 hb];rfl
theorem GP(hb:H.boxes[b]?=some (cE k n s t sz rows)):ai Tryz.prog Gt H 9 (.ptr (.box b) 2)=some (.v (.string (bs s))):=by rw[dc ag9 hb];rfl
theorem vy(hb:H.boxes[b]?=some (cE k n s t sz rows)):ai Tryz.prog Gt H 94 (.ptr (.box b) 3)=some (.list t sz rows):=by rw[dc Q2 hb];rfl
theorem ldv{r:List AV}(hr:r.length=4)(hb:H.boxes[b]?=some r):ai Tryz.prog Gt H 96 (.ptr (.box b) 0)=some (.agg r):=by
 rw[cP O5 tX hb (by omega),abp,<-hr,abl]
end
theorem jL:(∀b,aJ Tryz.prog 96 (.ptr (.box b) 0) 0=some (.ptr (.box b) 0))/\(∀b,aJ Tryz.prog 96 (.ptr (.box b) 0) 1=some (.ptr (.box b) 1))/\(∀b,aJ Tryz.prog 96 (.ptr (.box b) 0) 2=some (.ptr (.box b) 2))/\∀b,aJ Tryz.prog 96 (.ptr (.box b) 0) 3=some (.ptr (.box b) 3):=⟨fun _=>kZq,fun _=>kZq,fun _=>kZq,fun _=>kZq⟩
def b4(a b c:Bool):List AV:=[.v (.bool false),.v (.bool a),.v (.bool b),.v (.bool c)]
theorem JI(a b c:Bool):fj Tryz.prog 246 [(1,.v (.bool a)),(2,.v (.bool b)),(3,.v (.bool c))]=some (.agg (b4 a b c)):=kZq
theorem Q4:(ej Tryz.prog 246).bind AV.aC=some (b4 false false false):=kZq
theorem JJ:(ej Tryz.prog 96).bind AV.aC=some (cE 0 0 [] .nil 0 []):=kZq
theorem JK(H:ae)(a b c:Bool):aA Tryz.prog (H.push (b4 false false false)) 246 (.ptr (.box H.boxes.length) 0) (.agg (b4 a b c))=some (H.push (b4 a b c)):=cQ rfl Q3 rfl rfl
theorem JL{b n:Nat}{k:IntKind}(hn:n<4):ay Tryz.prog 246 (.ptr (.box b) 0) (.v (.int k (n:Nat)))=some (.ptr (.box b) n):=by
 have h1:Tryz.prog.underlying 246=some (.array 4 4):=Tryz.underlying246
 have sz4:bF Tryz.prog 4=some 1:=kZq
 unfold ay
 simp only[h1,sz4]
 rw[if_pos ⟨by omega,by omega⟩]
 simp
theorem ixb{b:Nat}:ay Tryz.prog 246 (.ptr (.box b) 0) (.v (.int .i64 1))=some (.ptr (.box b) 1)/\ay Tryz.prog 246 (.ptr (.box b) 0) (.v (.int .i64 2))=some (.ptr (.box b) 2)/\ay Tryz.prog 246 (.ptr (.box b) 0) (.v (.int .i64 3))=some (.ptr (.box b) 3):=⟨JL (n:=1) (by decide),JL (n:=2) (by decide),JL (n:=3) (by decide)⟩
theorem ldb{H:ae}{b:Nat}{x y z:Bool}(hb:H.boxes[b]?=some (b4 x y z)):ai Tryz.prog Gt H 4 (.ptr (.box b) 1)=some (.v (.bool x))/\ai Tryz.prog Gt H 4 (.ptr (.box b) 2)=some (.v (.bool y))/\ai Tryz.prog Gt H 4 (.ptr (.box b) 3)=some (.v (.bool z)):=by
 refine⟨?_,?_,?_⟩<;>(rw[dc ag4 hb];rfl)
theorem O6{H:ae}{x:List AV}{p q r:Bool}:ai Tryz.prog Gt ((H.push x).push (b4 p q r)) 4 (.ptr (.box (H.push x).boxes.length) 1)=some (.v (.bool p))/\ai Tryz.prog Gt ((H.push x).push (b4 p q r)) 4 (.ptr (.box (H.push x).boxes.length) 2)=some (.v (.bool q))/\ai Tryz.prog Gt ((H.push x).push (b4 p q r)) 4 (.ptr (.box (H.push x).boxes.length) 3)=some (.v (.bool r)):=ldb (ak _ _)
theorem stv{H:ae}{v:Vl}{r:List AV}(hv:eo v r):aA Tryz.prog (H.push (cE 0 0 [] .nil 0 [])) 96 (.ptr (.box H.boxes.length) 0) (.agg r)=some (H.push r):=cQ hv.cells tX hv.len rfl
theorem ND{H:ae}{rows:List (List AV)}{i:Nat}{r:List AV}(hl:r.length=4)(hr:rows[i]?=some r):ai Tryz.prog Gt H 96 (.elem 4 rows i 0)=some (.agg r):=by
 rw[jm O5 tX hr (by omega),abp,<-hl,abl]
theorem qD:∀l m:List Vl,dN (l++m)=max (dN l) (dN m)
 | [],m=>by simp[dN]
 |v::l,m=>by rw[abt,dN,dN,qD l m,Nat.max_assoc]
theorem vz{l:List Vl}{i:Nat}{v:Vl}(h:l[i]?=some v):dN (l.take (i+1))=max (dN (l.take i)) (eD v):=by
 rw[a9 h,qD];simp[dN]
theorem vA(l:List Vl)(i:Nat):dN (l.take i)<=dN l:=by
 have:=qD (l.take i) (l.drop i)
 rw[ab6] at this
 omega
theorem JM{l:List Vl}{i:Nat}{v:Vl}(h:l[i]?=some v):eD v<=dN l:=by
 have h1:=vz h
 have h2:=vA l (i+1)
 omega
theorem GQ{v:Vl}{r:List AV}(hv:eo v r):eD v<=100->∀h,∃h',W1.call 207 [.agg r] h=some (.ret (.tuple [.v (.int .i64 (eD v:Nat)),.v (.bool true)]),h')/\Ext h h':=by
 have u9:=Tryz.underlying9;have u94:=Tryz.underlying94
 have z:=Q4
 induction hv with
 |int n hn=>
  intro _ h
  refine dL rfl Tryz.func207 rfl ?_
  show Run _ _ _ _ (FT _ _ _ _ (.ret (.tuple [.v (.int .i64 0),.v (.bool true)])) _)
  repeat' (first|simp(maxSteps:=999999)(disch:=first|exact dZ|fail)only[gW,reduceIte,aaN,gBQ,Bp,JI,JK,dB,MB,GO,GP,vy,ixb,jL,O6,abG,ac2,decide_true, *]|refine dX ?_ ?_<;>(intro _;try omega))
  all_goals exact⟨_,rfl,(Ext.push _ _).trans (Ext.push _ _)⟩
 |text s hs=>
  intro _ h
  refine dL rfl Tryz.func207 rfl ?_
  show Run _ _ _ _ (FT _ _ _ _ (.ret (.tuple [.v (.int .i64 0),.v (.bool true)])) _)
  repeat' (first|simp(maxSteps:=999999)(disch:=first|exact dZ|fail)only[gW,reduceIte,aaN,gBQ,Bp,JI,JK,dB,MB,GO,GP,vy,ixb,jL,O6,abG,ac2,decide_true, *]|refine dX ?_ ?_<;>(intro _;try omega))
  all_goals exact⟨_,rfl,(Ext.push _ _).trans (Ext.push _ _)⟩
 |list l k sz rows hl hs hm hr ih=>
  intro hd h
  have kd:=ah.mk hd
  have kr:=ah.mk hr
  have kih:=ah.mk ih
  have kh:=ah.mk hs
  have kl:=ah.mk hl
  refine dL rfl Tryz.func207 rfl ?_
  clear hr ih hs hd hl
  by_cases h0:(rows.length:Int)=0
  all_goals
   repeat' (first|simp(maxSteps:=999999)(disch:=first|exact dZ|fail)only[gW,reduceIte,aaN,gBQ,Bp,JI,JK,dB,MB,GO,GP,vy,ixb,jL,O6,ac2,decide_true, *]|refine dX ?_ ?_<;>(intro _;try omega))
   refine aD (fun m e H=>∃i:Nat,i<=rows.length/\m=rows.length - i/\e.get 55=.list k sz rows/\e.get 56=.v (.int .i64 (rows.length:Nat))/\e.get 57=.v (.int .i64 i)/\e.get 2=.v (.int .i64 (dN (l.take i):Nat))/\e.defers=[]/\Ext h H) ?_ rows.length _ _ ?_
   rotate_left 1
   ·refine⟨0,aa4 _,rfl,?_,?_,?_,?_,?_,(Ext.push _ _).trans (Ext.push _ _)⟩<;>(first|assumption|(simp only[gW,reduceIte,aaN,gBQ]<;>first|rfl|(rw[h0])))
   rintro m e H ⟨i,hi,rfl,g55,g56,g57,g2,hd,hX⟩
   have kX:=ah.mk hX
   clear hX
   by_cases hlt:i<rows.length
   ·obtain⟨r,hr⟩:∃r,rows[i]?=some r:=⟨_,aaM hlt⟩
    obtain⟨v,hv⟩:∃v,l[i]?=some v:=⟨_,aaM (by have:=kl.out;omega)⟩
    have hrow:=kr.out i v r hv hr
    have h4:sz=4:=kh.out (by rintro rfl;simp at hlt)
    subst h4
    have hdl:eD (.list l)=dN l+1:=rfl
    have hdv:=JM hv
    have hdt:=vA l i
    have hdk:=kd.out
    obtain⟨H2,c1,x1⟩:=kih.out i v r hv hr (by omega) (H.push r)
    have ld:=ND (H:=H) hrow.len hr
    have st:=stv (H:=H) hrow
    have l2:ai Tryz.prog Gt (H.push r) 96 (.ptr (.box H.boxes.length) 0)=some (.agg r):=ldv hrow.len (ak _ _)
    have zz:=JJ
    have s96:=tX
    have kX2:=ah.mk (kX.out.trans ((Ext.push H r).trans x1))
    have kst:=ah.mk (vz hv)
    have hlI:(i:Int)<(rows.length:Int):=by omega
    clear kX hrow hv hr x1 hdl hdk
    have hmx:(if ((dN (l.take i):Nat):Int)<((eD v:Nat):Int) then ((eD v:Nat):Int) else ((dN (l.take i):Nat):Int))=((max (dN (l.take i)) (eD v):Nat):Int):=by
     split<;>omega
    repeat' (first|simp(maxSteps:=999999)(disch:=first|exact dZ|fail)only[gW,reduceIte,aaN,gBQ,Bp,al,pc, *]|refine dX ?_ ?_<;>(intro _;try omega))
    all_goals exact⟨rows.length - (i+1),by omega,i+1,by omega,rfl,by trivial,by trivial,by simp,by rw[kst.out],by trivial,kX2.out⟩
   ·have:i=rows.length:=by omega
    subst this
    have hdk:=kd.out
    have e1:l.take rows.length=l:=by rw[kl.out];exact abl
    rw[e1] at g2
    have hdl:eD (.list l)=dN l+1:=rfl
    rw[hdl] at hdk ⊢
    have e2:((dN l+1:Nat):Int)=((dN l:Nat):Int)+1:=by omega
    repeat' (first|simp(maxSteps:=999999)(disch:=first|exact dZ|fail)only[gW,reduceIte,aaN,gBQ,Bp, *]|refine dX ?_ ?_<;>(intro _;try omega))
    all_goals exact⟨_,rfl,kX.out⟩
theorem JN:Tryz.f209.results.toList=[.tmp 4]:=kZq
theorem NF{H:ae}{k:Tok}{n0 sz:Nat}{es new:List UInt8}{x:AV}{t1:TypeId}(h1:(∃e,Tryz.prog.underlying t1=some (.slice e))∨Tryz.prog.underlying t1=some .string)(hx:eH H 1 x=some (u8s new))(hne:new≠[])(hl:es.length+new.length<=8796093022208)(hs:sz=1∨(es=[]/\k=.nil))(hk:bG n0 H k):
 bP Tryz.prog H #[28,t1] (.list k sz (u8s es)) x=some (.list (.free H.tn) 1 (u8s (es++new)),H.app k):=by
 obtain⟨i,q1,q2,q3,q4⟩:=in5
 have hb:=Nat.mul_le_mul hl q3
 have:=lI (t0:=28) (n0:=n0) (i:=i) (sz:=sz) (es:=u8s es) (new:=u8s new) Tryz.underlying28 h1 q1 (by omega) (by rw[q2];exact q4) (by rw[q2];exact hx) (by simpa using hne)
  (by rw[aaR,aaR];omega) (by rw[aaR,aaR];omega) (hs.imp (fun q=>q.trans q2.symm) fun q=>⟨by rw[q.1];rfl,q.2⟩) hk
 rw[this,q2]
 simp[u8s]
theorem JO{H:ae}{k k':Tok}{n0 sz:Nat}{es:List UInt8}{c:UInt8}(hl:es.length<8796093022208)(hs:sz=1∨(es=[]/\k=.nil))(hk:bG n0 H k):
 bP Tryz.prog H #[28,28] (.list k sz (u8s es)) (.list k' 1 [[u8v c]])=some (.list (.free H.tn) 1 (u8s (es++[c])),H.app k):=
 NF (new:=[c]) (.inl ⟨_,Tryz.underlying28⟩) rfl (by simp) (by simp;omega) hs hk
theorem JP(c:UInt8):aN Tryz.prog 28 1 [(0,u8v c)]=some (.list .tight 1 [[u8v c]]):=kZq
theorem Q5(c:Nat):c%256|||128=c%128+128:=by
 have h:∀d:Fin 256,(d.val|||128)=d.val%128+128:=by decide+kernel
 have:=h ⟨c%256,ab9 _ (by decide)⟩
 simp only at this
 rw[this];omega
theorem O7{t:TypeId}{x y:Operand}(c:Nat):bB Tryz.prog .or t x y (.v (.int .u8 (IntKind.u8.wrap (c:Nat)))) (.v (.int .u8 128))=some (u8v (UInt8.ofNat (c%128+128))):=by
 have hw:IntKind.u8.wrap ((c:Nat):Int)=((c%256:Nat):Int):=by
  unfold IntKind.wrap
  simp[IntKind.signed,IntKind.bits]
 have ht:(UInt8.ofNat (c%128+128)).toNat=c%128+128:=by
  have:(UInt8.ofNat (c%128+128)).toNat=(c%128+128)%256:=UInt8.toNat_ofNat'
  omega
 unfold u8v
 rw[hw,C8,ht]
 congr 3
 have e1:BitVec.ofInt IntKind.u8.bits ((c%256:Nat):Int)=BitVec.ofNat 8 (c%256):=by
  apply BitVec.eq_of_toNat_eq
  show(BitVec.ofInt 8 ((c%256:Nat):Int)).toNat=(BitVec.ofNat 8 (c%256)).toNat
  rw[BitVec.toNat_ofInt,BitVec.toNat_ofNat];omega
 have e3:(BitVec.ofInt IntKind.u8.bits ((c%256:Nat):Int)|||BitVec.ofInt IntKind.u8.bits 128).toNat=c%128+128:=by
  rw[e1]
  show(BitVec.ofNat 8 (c%256)|||128#8).toNat=_
  rw[BitVec.toNat_or,BitVec.toNat_ofNat,abK (show c%256<2^8 by omega)]
  exact Q5 c
 rw[e3,yU (by omega) (by omega)]
theorem SZ{t:TypeId}{x y:Operand}{n:Nat}:bB Tryz.prog .shr t x y (.v (.int .u64 (n:Nat))) (.v (.int .u64 7))=some (.v (.int .u64 ((n/128:Nat):Int))):=by
 rw[nr (by decide)]
 congr 3
 show((n:Nat):Int).fdiv (2^7)=_
 rw[acE _ (by decide)]
 simp
theorem et:∀(k u:Nat),(jH k u).length<=k+1
 |0,u=>by simp[jH]
 |k+1,u=>by
  rw[jH]
  split
  ·simp
  ·have:=et k (u/128)
   simp;omega
theorem qE(u:Nat)(hu:u<18446744073709551616)(es:List UInt8)(k:Tok)(sz n0:Nat)(h:ae)(ho:aZ h=true)(hk:bG n0 h k)(hn:n0<=h.tn)(hs:sz=1∨(es=[]/\k=.nil))(hl:es.length<=1099511627776):
 ∃r h',W1.call 209 [.list k sz (u8s es),.v (.int .u64 (u:Nat))] h=some (r,h')/\∃t,r=.ret (.list t 1 (u8s (es++jH 9 u)))/\Grown n0 h h' t:=by
 have kG:=ah.mk (Grown.refl hk ho)
 clear hk ho
 refine aL rfl Tryz.func209 rfl ?_
 refine gx1 @JN ?_
 refine aD (fun m e H=>∃(j:Nat) (t:Tok) (cur:List UInt8) (s:Nat),j<=9/\m<2 * 128^j/\cur++jH j m=es++jH 9 u/\cur.length+j=es.length+9/\(s=1∨(cur=[]/\t=.nil))/\e.get 0=.list t s (u8s cur)/\e.get 1=.v (.int .u64 (m:Nat))/\e.defers=[]/\Grown n0 h H t) ?_ u _ _ ?_
 rotate_left 1
 ·exact⟨9,k,es,sz,aaP _,by simpa using hu,rfl,rfl,hs,by exact gR,by exact gR,by exact gR,kG.out⟩
 clear kG hu
 rintro m e H ⟨j,t,cur,s,hj,hm,hq,hcl,hs,g0,g1,hd,hG⟩
 have kG:=ah.mk hG
 have can:=ah.mk hG.can
 clear hG
 by_cases h128:m<128
 ·have hnum:=Gc (k:=j) h128
  rw[hnum] at hq
  have uv:u8v (UInt8.ofNat m)=.v (.int .u8 ((m:Nat):Int)):=by
   have:(UInt8.ofNat m).toNat=m%256:=UInt8.toNat_ofNat'
   unfold u8v
   rw[this,abK (by omega)]
  have hge:¬((128:Int)<=((m:Nat):Int)):=by omega
  have ap:=JO (k':=.tight) (c:=UInt8.ofNat m) (show cur.length<8796093022208 by omega) hs can.out
  rw[hq] at ap
  have bl:=JP (UInt8.ofNat m)
  rw[uv] at ap bl
  clear hm h128 hnum hq uv
  refine gx2 @JN @zj ?_
  exact⟨_,_,rfl,_,rfl,kG.out.app hn⟩
 ·obtain⟨j',rfl⟩:∃j',j=j'+1:=⟨j - 1,by
   rcases j with _|j
   ·omega
   ·omega⟩
  have hnum:=Gb (k:=j') (show 128<=m by omega)
  rw[hnum] at hq
  have hge:(128:Int)<=((m:Nat):Int):=by omega
  have bl:=JP (UInt8.ofNat (m%128+128))
  have ap:=JO (k':=.tight) (c:=UInt8.ofNat (m%128+128)) (show cur.length<8796093022208 by omega) hs can.out
  have kq:=ah.mk hq
  have km:=ah.mk hm
  clear hnum hq hm
  refine gx4 @JN @zj @O7 @SZ ?_
  refine⟨m/128,by omega,j',.free H.tn,cur++[UInt8.ofNat (m%128+128)],1,by omega,?_,?_,by simp;omega,.inl rfl,by trivial,by trivial,by trivial,kG.out.app hn⟩
  ·have:=km.out
   rw[Nat.pow_succ] at this
   omega
  ·rw[List.append_assoc];exact kq.out
theorem Q6:Tryz.f184.results.toList=[.tmp 0]:=kZq
theorem JQ:Tryz.f208.results.toList=[.tmp 4]:=kZq
theorem JR:Tryz.f211.results.toList=[.tmp 4]:=kZq
theorem xG:Tryz.f212.results.toList=[.tmp 5]:=kZq
def fM:AV:=.v .nilFunc
def lM(a:Nat):List AV:=[fM,.func (.func 208) [] [],.func (.func 211) [] [],.func (.func 212) [] [.ptr (.box a) 0]]
theorem Q7:bF Tryz.prog 207=some 1:=kZq
theorem Q8:cZ Tryz.prog 207=some false:=kZq
theorem Q9:cZ Tryz.prog 210=some false:=kZq
theorem Ra:bF Tryz.prog 210=some 1:=kZq
theorem Rb:fj Tryz.prog 237 []=some (.agg [fM,fM,fM,fM]):=kZq
theorem Rc:(ej Tryz.prog 210).bind AV.aC=some [.v (.pointer none)]:=kZq
theorem EB{b n:Nat}{k:IntKind}(hn:n<4):ay Tryz.prog 237 (.ptr (.box b) 0) (.v (.int k (n:Nat)))=some (.ptr (.box b) n):=by
 have h1:Tryz.prog.underlying 237=some (.array 4 209):=Tryz.underlying237
 have sz:bF Tryz.prog 209=some 1:=kZq
 unfold ay
 simp only[h1,sz]
 rw[if_pos ⟨by omega,by omega⟩]
 simp
theorem ixw{b:Nat}:ay Tryz.prog 237 (.ptr (.box b) 0) (.v (.int .i64 1))=some (.ptr (.box b) 1)/\ay Tryz.prog 237 (.ptr (.box b) 0) (.v (.int .i64 2))=some (.ptr (.box b) 2)/\ay Tryz.prog 237 (.ptr (.box b) 0) (.v (.int .i64 3))=some (.ptr (.box b) 3):=⟨EB (n:=1) (by decide),EB (n:=2) (by decide),EB (n:=3) (by decide)⟩
theorem vB{r:Ref}{o:Nat}:aJ Tryz.prog 209 (.ptr r o) 0=some (.ptr r o):=kZq
theorem stw{h:ae}{c q:List AV}{k:Nat}{f:Fn}{a b:List AV}(hc:c.length=4)(hk:k<4):aA Tryz.prog ((h.push c).push q) 207 (.ptr (.box h.boxes.length) k) (.func f a b)=some ((h.push (c.set k (.func f a b))).push q):=by
 rw[aW (xs:=[.func f a b]) rfl Q7 (aj (ak _ _)) rfl (by omega)]
 congr 1
 rw[A5 (by rw[az];omega),gg]
 congr 2
 unfold bI
 rw[List.set_eq_take_append_cons_drop,if_pos (by omega)]
 simp
theorem NG{H:ae}{a b:Nat}(hb:H.boxes[a]?=some [.ptr (.box b) 0]):ai Tryz.prog Gt H 210 (.ptr (.box a) 0)=some (.ptr (.box b) 0):=by rw[dc Q9 hb];rfl
theorem O8{h:ae}{c:List AV}:ai Tryz.prog Gt ((h.push c).push [.ptr (.box h.boxes.length) 0]) 210 (.ptr (.box (h.push [fM,fM,fM,fM]).boxes.length) 0)=some (.ptr (.box h.boxes.length) 0):=by
 refine NG ?_
 rw[az,<-az h c];exact ak _ _
theorem Rd{H:ae}{b:Nat}:aA Tryz.prog (H.push [.v (.pointer none)]) 210 (.ptr (.box H.boxes.length) 0) (.ptr (.box b) 0)=some (H.push [.ptr (.box b) 0]):=cQ rfl Ra rfl rfl
theorem GR(h:ae):W1.call 184 [] h=some (.ret (.ptr (.box h.boxes.length) 0),(h.push (lM (h.boxes.length+1))).push [.ptr (.box h.boxes.length) 0]):=by
 have z:=Rc
 have cs:(AV.agg [fM,fM,fM,fM]).aC=some [fM,fM,fM,fM]:=rfl
 have e:lM (h.boxes.length+1)=(([fM,fM,fM,fM].set 1 (.func (.func 208) [] [])).set 2 (.func (.func 211) [] [])).set 3 (.func (.func 212) [] [.ptr (.box (h.push [fM,fM,fM,fM]).boxes.length) 0]):=by rw[az];rfl
 rw[e]
 have l0:[fM,fM,fM,fM].length=4:=rfl
 have l1:([fM,fM,fM,fM].set 1 (.func (.func 208) [] [])).length=4:=rfl
 have l2:(([fM,fM,fM,fM].set 1 (.func (.func 208) [] [])).set 2 (.func (.func 211) [] [])).length=4:=rfl
 refine ar rfl Tryz.func184 rfl ?_
 repeat' (first|simp(maxSteps:=999999)(disch:=first|exact dZ|fail)only[gW,reduceIte,aaN,gBQ,Q6,Rb,Rd,O8,ixw,vB,stw, *]|refine dX ?_ ?_<;>(intro _;try omega))
def wfn:Vl->FuncId
 | .int _=>208
 | .text _=>211
 | .list _=>212
def JS(a:Nat):Vl->List AV
 | .list _=>[.ptr (.box a) 0]
 |_=>[]
theorem blk:aN Tryz.prog 28 1 [(0,.v (.int .u8 1))]=some (.list .tight 1 [[u8v 1]])/\aN Tryz.prog 28 1 [(0,.v (.int .u8 2))]=some (.list .tight 1 [[u8v 2]])/\aN Tryz.prog 28 1 [(0,.v (.int .u8 3))]=some (.list .tight 1 [[u8v 3]]):=⟨JP 1,JP 2,JP 3⟩
theorem GS(n:Nat)(hn:n<=4611686018427387903)(es:List UInt8)(k:Tok)(sz n0:Nat)(H:ae)(ho:aZ H=true)(hk:bG n0 H k)(h0:n0<=H.tn)(hs:sz=1∨(es=[]/\k=.nil))(hl:es.length<=1099511627000):
 ∃r' H',W1.call 208 [.list k sz (u8s es),.agg (cE 1 (n:Nat) [] .nil 0 [])] H=some (r',H')/\∃t,r'=.ret (.list t 1 (u8s (es++fB (.int (n:Nat)))))/\Grown n0 H H' t:=by
 have g1:Grown n0 H (H.push (cE 1 (n:Nat) [] .nil 0 [])) k:=(Grown.refl hk ho).push _
 have ap:=JO (H:=H.push (cE 1 (n:Nat) [] .nil 0 [])) (k':=.tight) (c:=1) (show es.length<8796093022208 by omega) hs g1.can
 have g2:=g1.app h0
 have hu:oK ((n:Nat):Int)<18446744073709551616:=by unfold oK;rw[if_pos (by omega)];omega
 obtain⟨r3,H3,c3,t3,rfl,g3⟩:=qE (oK ((n:Nat):Int)) hu (es++[1]) _ 1 n0 _ g2.ok g2.can (abh h0 g2.tn) (.inl rfl) (by simp;omega)
 have kG:=ah.mk (g2.trans g3)
 have ee:es++[1]++jH 9 (oK ((n:Nat):Int))=es++fB (.int (n:Nat)):=by rw[fB];simp
 rw[ee] at c3
 clear g1 g2 g3 ho hk hs ee hu
 refine aL rfl Tryz.func208 rfl ?_
 have cu:=GN n hn
 refine gx6 @JQ @blk @dB @GO @jL @aT ?_
 refine bU [(2,4)] Bo kZq (fun p hp=>?_) ?_
 ·simp only[abC] at hp
  subst hp
  refine dI (x:=.ptr (.box H.boxes.length) 1) (v:=.v (.int .i64 (n:Nat))) kZq rfl rfl rfl kZq (by simp[cB,gB]) ?_ ?_<;>(simp only[abd,abn];repeat' (first|simp(maxSteps:=999999)(disch:=first|exact dZ|fail)only[gW,reduceIte,aaN,gBQ,JQ,blk,dB,GO,jL,aT,and_self, *]|refine dX ?_ ?_<;>(intro _;try omega)))
 refine gx6 @JQ @blk @dB @GO @jL @aT ?_
 exact⟨_,_,rfl,_,rfl,kG.out⟩
theorem JT(H:ae)(s:List UInt8):eH H 1 (.v (.string (bs s)))=some (u8s s):=by
 unfold eH
 simp[bs]
theorem Re{H:ae}{k:Tok}{n0:Nat}{es s:List UInt8}(hl:es.length+s.length<=8796093022208)(hk:bG n0 H k)(ho:aZ H=true)(hn:n0<=H.tn):
 ∃t H',bP Tryz.prog H #[28,9] (.list k 1 (u8s es)) (.v (.string (bs s)))=some (.list t 1 (u8s (es++s)),H')/\Grown n0 H H' t:=by
 by_cases hs:s=[]
 ·subst hs
  obtain⟨i,q1,q2,q3,q4⟩:=in5
  refine⟨k,H,?_,Grown.refl hk ho⟩
  rw[Bb Tryz.underlying28 (.inr Tryz.underlying9) q1 (by omega) (by rw[q2];exact q4) (by rw[q2];exact JT H []) (.inl q2.symm),abv]
 ·exact⟨_,_,NF (.inr Tryz.underlying9) (JT H s) hs hl (.inl rfl) hk,Grown.one hk ho hn⟩
theorem O9(s:List UInt8):cH Tryz.prog 9 (.v (.string (bs s)))=some (.v (.int .i64 (s.length:Nat))):=by
 rw[uU Tryz.underlying9,np]
theorem DG(s:List UInt8)(hsl:s.length<=1099511620000)(es:List UInt8)(k:Tok)(sz n0:Nat)(H:ae)(ho:aZ H=true)(hk:bG n0 H k)(h0:n0<=H.tn)(hs:sz=1∨(es=[]/\k=.nil))(hl:es.length<=1099511627000):
 ∃r' H',W1.call 211 [.list k sz (u8s es),.agg (cE 2 0 s .nil 0 [])] H=some (r',H')/\∃t,r'=.ret (.list t 1 (u8s (es++fB (.text s))))/\Grown n0 H H' t:=by
 have g1:Grown n0 H (H.push (cE 2 0 s .nil 0 [])) k:=(Grown.refl hk ho).push _
 have ap:=JO (H:=H.push (cE 2 0 s .nil 0 [])) (k':=.tight) (c:=2) (show es.length<8796093022208 by omega) hs g1.can
 have g2:=g1.app h0
 obtain⟨r3,H3,c3,t3,rfl,g3⟩:=qE s.length (by omega) (es++[2]) _ 1 n0 _ g2.ok g2.can (abh h0 g2.tn) (.inl rfl) (by simp;omega)
 have g4:=g2.trans g3
 have nl:=et 9 s.length
 obtain⟨t4,H4,ap4,g5⟩:=Re (es:=es++[2]++jH 9 s.length) (s:=s) (by simp;omega) g3.can g3.ok (abh h0 (abh g2.tn g3.tn))
 have kG:=ah.mk (g4.trans g5)
 have ee:es++[2]++jH 9 s.length++s=es++fB (.text s):=by rw[fB];simp
 rw[ee] at ap4
 have b0:(H.push (cE 2 0 s .nil 0 [])).boxes[H.boxes.length]?=some (cE 2 0 s .nil 0 []):=ak _ _
 have b1:((H.push (cE 2 0 s .nil 0 [])).app k).boxes[H.boxes.length]?=some (cE 2 0 s .nil 0 []):=by rw[aT];exact b0
 have b3:H3.boxes[H.boxes.length]?=some (cE 2 0 s .nil 0 []):=g3.box _ _ b1
 have l1:=GP b1
 have l3:=GP b3
 have l0:=GP b0
 have sl:=O9 s
 have hw:=JG (n:=s.length) (by omega)
 clear g1 g2 g3 g4 g5 ho hk hs ee b0 b1 b3 nl
 refine aL rfl Tryz.func211 rfl ?_
 refine gx5 @JR @blk @dB @jL @jY ?_
 refine bU [(2,4),(2,9),(7,9)] Bo kZq (fun p hp=>?_) ?_
 ·simp only[abx,acD,or_false] at hp
  rcases hp with rfl|rfl|rfl
  all_goals
   refine dI (x:=.ptr (.box H.boxes.length) 2) (v:=.v (.string (bs s))) kZq rfl rfl rfl kZq (by simp[cB,gB]) ?_ ?_<;>(simp only[abd,abn];exact gz6 @JR @blk @dB @jL @jY @and_self)
 refine gx5 @JR @blk @dB @jL @jY ?_
 exact⟨_,_,rfl,_,rfl,kG.out⟩
def vC:Vl->Nat
 | .int _=>1
 | .text _=>2
 | .list _=>3
theorem ldk{H:ae}{x:Nat}{v:Vl}{r:List AV}(hv:eo v r)(hb:H.boxes[x]?=some r):ai Tryz.prog Gt H 3 (.ptr (.box x) 0)=some (.v (.int .i64 (vC v:Nat))):=by
 cases hv<;>exact MB hb
theorem ixk{b:Nat}{v:Vl}:ay Tryz.prog 237 (.ptr (.box b) 0) (.v (.int .i64 (vC v:Nat)))=some (.ptr (.box b) (vC v)):=by
 exact EB (by cases v<;>simp[vC])
theorem ldf{H:ae}{a b:Nat}{v:Vl}(hb:H.boxes[b]?=some (lM a)):ai Tryz.prog Gt H 207 (.ptr (.box b) (vC v))=some (.func (.func (wfn v)) [] (JS a v)):=by
 rw[dc Q8 hb]
 cases v<;>rfl
theorem GU{l:List Vl}{i:Nat}{v:Vl}(h:l[i]?=some v):jB (l.take (i+1))=jB (l.take i)++fB v:=by
 rw[a9 h,A0];simp[jB]
theorem MC(l:List Vl)(i:Nat):(jB (l.take i)).length<=(jB l).length:=by
 have:=A0 (l.take i) (l.drop i)
 rw[ab6] at this
 rw[this,aaW];omega
mutual
theorem JU(v:Vl):∀r,eo v r->kL r r=true:=by
 intro r h
 cases h with
 |int n hn=>simp[cE,kL,cB,gB,im,sv,lY,eT]
 |text s hs=>simp[cE,kL,cB,gB,im,sv,lY,eT]
 |list l k sz rows hl hs hm hr=>
  have:=zy l rows hl hr
  simp[cE,kL,cB,gB,im,sv,this]
  cases k<;>simp[lY]
theorem zy(l:List Vl):∀rows:List (List AV),rows.length=l.length->(∀(i:Nat) v r,l[i]?=some v->rows[i]?=some r->eo v r)->eT rows rows=true:=by
 intro rows hl h
 match l,rows,hl,h with
 | [],[],_,_=>rfl
 |v::l,r::rows,hl,h=>
  rw[eT,JU v r (h 0 v r rfl rfl),zy l rows (by simpa using hl) fun i v r hv hr=>h (i+1) v r (by simpa using hv) (by simpa using hr)];rfl
end
theorem JV{v:Vl}{r:List AV}(hv:eo v r):∀(a b:Nat) (es:List UInt8) (k:Tok) (sz n0:Nat) (H:ae),H.boxes[a]?=some [.ptr (.box b) 0]->H.boxes[b]?=some (lM a)->aZ H=true->bG n0 H k->n0<=H.tn->(sz=1∨(es=[]/\k=.nil))->es.length+(fB v).length<=1099511627000->
 ∃r' H',W1.call (wfn v) (.list k sz (u8s es)::.agg r::JS a v) H=some (r',H')/\∃t,r'=.ret (.list t 1 (u8s (es++fB v)))/\Grown n0 H H' t:=by
 induction hv with
 |int n hn=>
  intro a b es k sz n0 H _ _ ho hk h0 hs hl
  obtain⟨m,rfl⟩:∃m:Nat,n=m:=⟨n.toNat,by omega⟩
  exact GS m (by omega) es k sz n0 H ho hk h0 hs (by omega)
 |text s hsl=>
  intro a b es k sz n0 H _ _ ho hk h0 hs hl
  exact DG s hsl es k sz n0 H ho hk h0 hs (by omega)
 |list l kl szl rows hll hsl hm hr ih=>
  intro a b es k sz n0 H ha hb ho hk h0 hs hl
  have sr:=zy l rows hll hr
  have kr:=ah.mk hr
  have kih:=ah.mk ih
  have ksl:=ah.mk hsl
  have kll:=ah.mk hll
  have enc:fB (.list l)=3::(jH 9 l.length++jB l):=by rw[fB]
  rw[enc] at hl ⊢
  have g1:Grown n0 H (H.push (cE 3 0 [] kl szl rows)) k:=(Grown.refl hk ho).push _
  have ap:=JO (H:=H.push (cE 3 0 [] kl szl rows)) (k':=.tight) (c:=3) (show es.length<8796093022208 by omega) hs g1.can
  have g2:=g1.app h0
  simp only[List.length_cons,aaW] at hl
  obtain⟨r3,H3,c3,t3,rfl,g3⟩:=qE l.length (by omega) (es++[3]) _ 1 n0 _ g2.ok g2.can (abh h0 g2.tn) (.inl rfl) (by simp;omega)
  have g4:=g2.trans g3
  have b0:(H.push (cE 3 0 [] kl szl rows)).boxes[H.boxes.length]?=some (cE 3 0 [] kl szl rows):=ak _ _
  have b1:((H.push (cE 3 0 [] kl szl rows)).app k).boxes[H.boxes.length]?=some (cE 3 0 [] kl szl rows):=by rw[aT];exact b0
  have b3:H3.boxes[H.boxes.length]?=some (cE 3 0 [] kl szl rows):=g3.box _ _ b1
  have l0:=vy b0
  have l1:=vy b1
  have l3:=vy b3
  have u94:=Tryz.underlying94
  have hw:=JG (n:=l.length) (by omega)
  have hlI:((rows.length:Nat):Int)=((l.length:Nat):Int):=by rw[hll]
  have kG:=ah.mk g4
  have kha:=ah.mk ha
  have khb:=ah.mk hb
  have kl2:=ah.mk hl
  have sv0:cB (.list kl szl rows) (.list kl szl rows)=true:=by
   rw[cB,sr,ac0]
   cases kl<;>simp[lY]
  clear g1 g2 g3 g4 ho hk hs b0 b1 b3 hr ih hsl hll sr ha hb hl
  show ∃r' H',W1.call 212 [.list k sz (u8s es),.agg (cE 3 0 [] kl szl rows),.ptr (.box a) 0] H=some (r',H')/\_
  refine aL rfl Tryz.func212 rfl ?_
  refine gx5 @xG @blk @dB @jL @jY ?_
  refine bU [(2,4)] Bo kZq (fun p hp=>?_) ?_
  ·simp only[abC] at hp
   subst hp
   refine dI (x:=.ptr (.box H.boxes.length) 3) (v:=.list kl szl rows) kZq rfl rfl rfl kZq (sv0) ?_ ?_<;>(simp only[abd,abn];exact gz6 @xG @blk @dB @jL @jY @and_self)
  refine gx5 @xG @blk @dB @jL @jY ?_
  refine aD (fun m e H1=>∃(i:Nat) (t:Tok),i<=l.length/\m=l.length - i/\e.get 0=.list t 1 (u8s (es++[3]++jH 9 l.length++jB (l.take i)))/\e.get 2=.ptr (.box a) 0/\e.get 17=.list kl szl rows/\e.get 18=.v (.int .i64 (l.length:Nat))/\e.get 19=.v (.int .i64 i)/\e.defers=[]/\Grown n0 H H1 t) ?_ l.length _ _ ?_
  rotate_left 1
  ·refine⟨0,t3,aa4 _,rfl,?_,?_,?_,?_,?_,?_,kG.out⟩<;>(first|assumption|(simp only[gW,reduceIte,aaN,gBQ,abn,jB,abv]<;>first|rfl|(rw[hlI])))
  clear c3 ap l0 l1 l3 kG hw
  rintro m e H1 ⟨i,t,hi,rfl,g0,g2,g17,g18,g19,hd,hG⟩
  have kG:=ah.mk hG
  clear hG
  by_cases hlt:i<l.length
  ·obtain⟨v,hv⟩:∃v,l[i]?=some v:=⟨_,aaM hlt⟩
   obtain⟨r,hr⟩:∃r,rows[i]?=some r:=⟨_,aaM (by omega)⟩
   have hrow:=kr.out i v r hv hr
   have h4:szl=4:=ksl.out (by rintro rfl;simp at hr)
   subst h4
   have gp:=kG.out.push r
   have es1:=GU hv
   have el:=MC l (i+1)
   rw[es1,aaW] at el
   have hl:=kl2.out
   have nl:=et 9 l.length
   obtain⟨r2,H2,c2,t2,rfl,g3⟩:=kih.out i v r hv hr a b (es++[3]++jH 9 l.length++jB (l.take i)) t 1 n0 (H1.push r) (gp.box _ _ kha.out) (gp.box _ _ khb.out) gp.ok gp.can (abh h0 gp.tn) (.inl rfl) (by simp;omega)
   rw[show es++[3]++jH 9 l.length++jB (l.take i)++fB v=es++[3]++jH 9 l.length++jB (l.take (i+1)) by rw[es1];simp] at c2
   have kG2:=ah.mk (gp.trans g3)
   have ld:=ND (H:=H1) hrow.len hr
   have st:=stv (H:=H1) hrow
   have l2:ai Tryz.prog Gt (H1.push r) 96 (.ptr (.box H1.boxes.length) 0)=some (.agg r):=ldv hrow.len (ak _ _)
   have l5:=ldk hrow (ak H1 r)
   have l6:=NG (gp.box _ _ kha.out)
   have l7:=ldf (v:=v) (gp.box _ _ khb.out)
   have ik:=ixk (b:=b) (v:=v)
   have zz:=JJ
   have s96:=tX
   have hlI2:(i:Int)<(rows.length:Int):=by omega
   generalize wfn v=fv at *
   generalize JS a v=cv at *
   generalize vC v=kv at *
   clear gp g3 es1 el hl nl hv hr hrow kG
   repeat' (first|simp(maxSteps:=999999)(disch:=first|exact dZ|fail)only[gW,reduceIte,aaN,gBQ,xG,al,jL,vB, *]|refine dX ?_ ?_<;>(intro _;try omega))
   refine bf Bo kZq ?_
   refine gx6 @xG @al @jL @vB @abA.{0} @abt.{0} ?_
   exact⟨l.length - (i+1),by omega,i+1,t2,by omega,rfl,by trivial,by trivial,by trivial,by trivial,by simp,by trivial,kG2.out⟩
  ·have:i=l.length:=by omega
   subst this
   rw[abl] at g0
   have ee:es++[3]++jH 9 l.length++jB l=es++3::(jH 9 l.length++jB l):=by simp
   rw[ee] at g0
   repeat' (first|simp(maxSteps:=999999)(disch:=first|exact dZ|fail)only[gW,reduceIte,aaN,gBQ,xG, *]|refine dX ?_ ?_<;>(intro _;try omega))
   exact⟨_,_,rfl,_,rfl,kG.out⟩
theorem Rf:Tryz.f183.results.toList=[.tmp 2]:=kZq
theorem EC:Tryz.f146.results.toList=[.tmp 2,.tmp 3]:=kZq
theorem JW{v:Vl}{r:List AV}(hv:eo v r)(hd:eD v<=16)(h:ae):∃h',W1.call 183 [.agg r] h=some (.ret (im 0),h')/\Ext h h':=by
 obtain⟨h1,c1,x1⟩:=GQ hv (by omega) (h.push r)
 have cs:=hv.cells
 have ld:=ldv hv.len (ak h r)
 have kx:=ah.mk ((Ext.push h r).trans x1)
 have hle:¬((16:Int)<((eD v:Nat):Int)):=by omega
 clear hv x1 hd
 unfold im
 refine dL rfl Tryz.func183 rfl ?_
 refine gx1 @Rf ?_
 exact⟨_,rfl,kx.out⟩
theorem GV{v:Vl}{r:List AV}(hv:eo v r)(hd:eD v<=16)(hl:(fB v).length<=1099511627000)(h:ae)(ho:aZ h=true):
 ∃r' h',W1.call 146 [.agg r] h=some (r',h')/\∃t,r'=.ret (.tuple [.list t 1 (u8s (fB v)),.v (.int .i64 0)])/\Ext h h':=by
 obtain⟨h1,c1,x1⟩:=JW hv hd (h.push r)
 unfold im at c1
 have x2:=(Ext.push h r).trans x1
 have cs:=hv.cells
 have b0:=ak h r
 have b1:=x1.box _ _ b0
 have c2:=GR h1
 have b2:((h1.push (lM (h1.boxes.length+1))).push [.ptr (.box h1.boxes.length) 0]).boxes[h.boxes.length]?=some r:=aj (aj b1)
 have bb:((h1.push (lM (h1.boxes.length+1))).push [.ptr (.box h1.boxes.length) 0]).boxes[h1.boxes.length]?=some (lM (h1.boxes.length+1)):=aj (ak _ _)
 have ba:((h1.push (lM (h1.boxes.length+1))).push [.ptr (.box h1.boxes.length) 0]).boxes[h1.boxes.length+1]?=some [.ptr (.box h1.boxes.length) 0]:=cD (by rw[az])
 have x3:Ext h1 ((h1.push (lM (h1.boxes.length+1))).push [.ptr (.box h1.boxes.length) 0]):=(Ext.push _ _).trans (.push _ _)
 have ok3:=(x2.trans x3).ok ho
 obtain⟨r4,h4,c4,t,rfl,g4⟩:=JV hv (h1.boxes.length+1) h1.boxes.length [] .nil 0 h.tn _ ba bb ok3 (.inl rfl) (x2.trans x3).tn (.inr ⟨rfl,rfl⟩) (by simpa using hl)
 rw[abA] at c4
 have kX:=ah.mk (g4.ext (x2.trans x3) (aaP _))
 have ld0:=ldv hv.len b0
 have ld1:=ldv hv.len b1
 have ld2:=ldv hv.len b2
 have lk1:=ldk hv b1
 have lk2:=ldk hv b2
 have lf:=ldf (v:=v) bb
 have ik:=ixk (b:=h1.boxes.length) (v:=v)
 have hsm:=JU v r hv
 have c4:W1.call (wfn v) (.list .nil 0 []::.agg r::JS (h1.boxes.length+1) v) ((h1.push (lM (h1.boxes.length+1))).push [.ptr (.box h1.boxes.length) 0])=some (.ret (.list t 1 (u8s (fB v))),h4):=c4
 generalize wfn v=fv at *
 generalize JS (h1.boxes.length+1) v=cv at *
 generalize hkv:vC v=kv at *
 generalize hH3:(h1.push (lM (h1.boxes.length+1))).push [.ptr (.box h1.boxes.length) 0]=H3 at *
 have sv0:cB (.agg r) (.agg r)=true:=by rw[cB,hsm]
 clear hv x1 hd x2 b0 b1 b2 bb ba x3 ok3 g4 ho hl hsm hH3
 refine aL rfl Tryz.func146 rfl ?_
 refine gx5 @EC @jL @vB @abA.{0} @abt.{0} ?_
 refine bU [(0,2),(0,7)] Bo kZq (fun p hp=>?_) ?_
 ·simp only[abx,acD,or_false] at hp
  rcases hp with rfl|rfl
  ·refine dI (x:=.ptr (.box h.boxes.length) 0) (v:=.v (.int .i64 (kv:Nat))) kZq rfl rfl rfl kZq (by simp[cB,gB]) ?_ ?_<;>(simp only[abd,abn];exact gz4 @EC @jL @vB @and_self)
  ·refine dI (x:=.ptr (.box h.boxes.length) 0) (v:=.agg r) kZq rfl rfl rfl kZq (sv0) ?_ ?_<;>(simp only[abd,abn];exact gz4 @EC @jL @vB @and_self)
 refine gx5 @EC @jL @vB @abA.{0} @abt.{0} ?_
 exact⟨_,_,rfl,_,rfl,kX.out⟩
mutual
theorem eo.hold(v:Vl):∀r,eo v r->eo v (bM r)/\bA 0 0 0 (bM r)=true:=by
 intro r h
 cases h with
 |int n hn=>exact⟨.int n hn,rfl⟩
 |text s hs=>exact⟨.text s hs,rfl⟩
 |list l k sz rows hl hs hm hr=>
  obtain⟨h1,h2⟩:=eo.holds l rows hl hr
  have e:bM (cE 3 0 [] k sz rows)=cE 3 0 [] (di k) sz (eF rows):=rfl
  rw[e]
  refine⟨.list l _ sz _ (by rw[mH];exact hl) (fun q=>hs fun q2=>q (by rw[q2];rfl)) (by rw[mH];exact hm) h1,?_⟩
  unfold cE
  simp[bA,aV,im,sv,bV,h2]
theorem eo.holds(l:List Vl):∀rows:List (List AV),rows.length=l.length->(∀(i:Nat) v r,l[i]?=some v->rows[i]?=some r->eo v r)->(∀(i:Nat) v r,l[i]?=some v->(eF rows)[i]?=some r->eo v r)/\gH 0 0 0 (eF rows)=true:=by
 intro rows hl h
 match l,rows,hl,h with
 | [],[],_,_=>exact⟨fun i v r hv=>by simp at hv,rfl⟩
 |v::l,r::rows,hl,h=>
  obtain⟨h1,h2⟩:=eo.hold v r (h 0 v r rfl rfl)
  obtain⟨h3,h4⟩:=eo.holds l rows (by simpa using hl) fun i v r hv hr=>h (i+1) v r (by simpa using hv) (by simpa using hr)
  refine⟨fun i v' r' hv hr=>?_,by rw[eF,gH,h2,h4];rfl⟩
  cases i with
  |zero=>injection hv with hv;injection hr with hr;subst hv;subst hr;exact h1
  |succ i=>exact h3 i v' r' hv hr
end
theorem _root_.Go.AE.Grown.tS{n0 n1:Nat}{h h':ae}{t:Tok}(g:Grown n1 h h' t)(hn:n0<=n1):Grown n0 h h' t:=⟨g.box,g.loop,g.can.mono hn,g.ok,g.tn,fun n hl hd=>g.dead n (abw hl hn) hd⟩
theorem _root_.Go.AE.Grown.beside{n0:Nat}{h h':ae}{t k:Tok}(g:Grown h.tn h h' t)(hk:bG n0 h k):bG n0 h' k:=by
 rcases hk with rfl|rfl|⟨m,rfl,hm,ha⟩
 ·exact .inl rfl
 ·exact .inr (.inl rfl)
 ·refine .inr (.inr ⟨m,rfl,hm,?_⟩)
  have hlt:=gG ha
  unfold alive at ha ⊢
  simp only[aaQ,decide_eq_true_eq,acn,List.contains_eq_mem,decide_eq_false_iff_not] at ha ⊢
  exact⟨abw hlt g.tn,fun hd=>ha.2 (g.dead m hlt hd)⟩
def kW:List U32:=(aaV 64).map kAt
theorem bdi(n:Int):fj Tryz.prog 96 [(0,.v (.int .i64 1)),(1,.v (.int .i64 n))]=some (.agg (cE 1 n [] .nil 0 [])):=kZq
theorem bdt(s:List UInt8):fj Tryz.prog 96 [(0,.v (.int .i64 2)),(2,.v (.string (bs s)))]=some (.agg (cE 2 0 s .nil 0 [])):=kZq
theorem S0{H:ae}{k n:Int}{s:List UInt8}{t:Tok}{sz:Nat}{rows:List (List AV)}:aA Tryz.prog (H.push (cE 0 0 [] .nil 0 [])) 96 (.ptr (.box H.boxes.length) 0) (.agg (cE k n s t sz rows))=some (H.push (cE k n s t sz rows)):=cQ rfl tX rfl rfl
def L2:List FuncId:=[28,29,30,46,65,66,69,78,82,94,118,119,120,121,123,132,138,140,146,194,201]
noncomputable def DH:FuncId->Option (List AV->ae->Option (AV × ae)):=fx W1 L2
noncomputable abbrev W2:=whole Tryz.prog Gt DH
theorem tH:jo DH L2:=nE
section
variable (a b n x:Int)
theorem Rg:∀h,W2.call 28 [im a,im b] h=some (.ret (im (cN a b)),h):=aF (L:=L2) rfl rfl rfl (SX a b _) rfl rfl
theorem Pa:∀h,W2.call 29 [im a,im b] h=some (.ret (im (cq a b)),h):=aF (L:=L2) rfl rfl rfl (SY a b _) rfl rfl
theorem JX:∀h,W2.call 201 [im n] h=some (.ret (.tuple [im (if fmod n=0 then 0 else eZ n),im (if fmod n=0 then 90 else 0)]),h):=aF (L:=L2) rfl rfl rfl (JH n _) rfl rfl
theorem Pb:∀h,W2.call 46 [im x] h=some (.ret (.v (.bool (aX x))),h):=aF (L:=L2) rfl rfl rfl (O2 x _) rfl rfl
theorem Rh:∀h,W2.call 69 [im a,im b] h=some (.ret (.tuple [im (pO a b),im (mP a b)]),h):=aF (L:=L2) rfl rfl rfl (QY a b _) rfl rfl
theorem Ri:∀h,W2.call 30 [im a,im n] h=some (.ret (.tuple [im (iL a n),im (lG a)]),h):=aF (L:=L2) rfl rfl rfl (QZ a n _) rfl rfl
end
theorem ok0:aZ ⟨[],[],0,[]⟩=true:=rfl
theorem Pc(tag b:List UInt8)(k:Tok)(hb:b.length<=1099511620000)(ht:tag.length<=1099511620000):∀h,W2.call 78 [.v (.string (bs tag)),.list k 1 (u8s b)] h=some (.ret (im (mK (dV tag b):Nat)),h):=
 aF (L:=L2) (args':=[.v (.string (bs tag)),.list (di k) 1 (u8s b)]) rfl (by rw[bM,bM,au.eq_1,iQ];rfl) (by simp[bA,aV,bV,fT]) (O4 tag b _ hb ht _) rfl rfl
theorem MD{v:Vl}{r:List AV}(hv:eo v r)(hd:eD v<=16)(hl:(fB v).length<=1099511600000):∃t,∀h,W2.call 146 [.agg r] h=some (.ret (.tuple [.list t 1 (u8s (fB v)),.v (.int .i64 0)]),h):=by
 obtain⟨h1,h2⟩:=eo.hold v r hv
 obtain⟨r',h',hc,t,rfl,-⟩:=GV h1 hd (by omega) ⟨[],[],0,[]⟩ ok0
 exact⟨di t,aF (L:=L2) (args':=[.agg (bM r)]) rfl rfl (by simpa [bA,aV] using h2) hc rfl (by simp[aV,bA,bV,fT])⟩
def oP(l:List Vl)(rows:List (List AV)):Prop:=rows.length=l.length/\∀(i:Nat) v r,l[i]?=some v->rows[i]?=some r->eo v r
theorem Rj:Tryz.f202.results.toList=[.tmp 4]:=kZq
theorem JY:Tryz.f219.results.toList=[]:=kZq
theorem mo:cZ Tryz.prog 23=some false:=kZq
theorem Rk:cZ Tryz.prog 203=some false:=kZq
theorem vD{H:ae}{b:Nat}{x:AV}(hb:H.boxes[b]?=some [x]):ai Tryz.prog Gt H 23 (.ptr (.box b) 0)=some x:=by rw[dc mo hb];rfl
theorem qa{H:ae}{b:Nat}{x:AV}(hb:H.boxes[b]?=some [x]):ai Tryz.prog Gt H 203 (.ptr (.box b) 0)=some x:=by rw[dc Rk hb];rfl
theorem ldc{H:ae}{b k:Nat}{cs:List AV}{x:AV}(hb:H.boxes[b]?=some cs)(hk:cs[k]?=some x):ai Tryz.prog Gt H 3 (.ptr (.box b) k)=some x:=by
 rw[dc ag3 hb,adN,hk]
theorem oQ{H:ae}{b k:Nat}{cs:List AV}{x:AV}(hb:H.boxes[b]?=some cs)(hk:cs[k]?=some x):ai Tryz.prog Gt H 23 (.ptr (.box b) k)=some x:=by
 rw[dc mo hb,adN,hk]
theorem vE{b len cap n:Nat}{k:IntKind}(hn:n<len):ay Tryz.prog 23 (.arr b 0 len cap) (.v (.int k (n:Nat)))=some (.ptr (.box b) n):=by
 rw[mE Tryz.underlying23 sz3 (by omega) (by omega),aa1,ab5,ack]
theorem xH{b len cap n:Nat}{k:IntKind}(hn:n<len):ay Tryz.prog 203 (.arr b 0 len cap) (.v (.int k (n:Nat)))=some (.ptr (.box b) n):=by
 rw[mE Tryz.underlying203 jC (by omega) (by omega),aa1,ab5,ack]
theorem Bq(xb w c:Nat)(h:ae):W2.call 202 [.arr xb 0 w w,im (c:Nat)] h=some (.ret (.func (.func 219) [] [.ptr (.box (h.boxes.length+1)) 0,.ptr (.box h.boxes.length) 0]),(h.push [.arr xb 0 w w]).push [im (c:Nat)]):=by
 have b1:(AV.arr xb 0 w w).aC=some [.arr xb 0 w w]:=rfl
 have b2:(AV.v (.int .i64 (c:Nat))).aC=some [.v (.int .i64 (c:Nat))]:=rfl
 unfold im
 refine ar rfl Tryz.func202 rfl ?_
 exact gz3 @Rj @aw @az
theorem vG(l cb rb xb w c:Nat)(row:List Int)(Inv:Nat->ae->Prop)
 (h1:∀k H,Inv k H->H.boxes[cb]?=some [im (c:Nat)]/\H.boxes[rb]?=some [.arr xb 0 w w]/\(k<w->∃cs,H.boxes[xb]?=some cs/\cs[k]?=some (im (at0 row k))))
 (hR:∀k H,c<=k->k<w->Inv k H->∃H',W2.round l [im (k:Nat),im (at0 row k)] H=some (.ret (.v (.bool true)),H')/\Inv (k+1) H')
 (hc:c<=w) (hwl:w<=1000000) (H0:ae) (h0:Inv c H0):∃H',W2.call 219 [.yield l,.ptr (.box cb) 0,.ptr (.box rb) 0] H0=some (.ret (.tuple []),H')/\Inv w H':=by
 have k1:=ah.mk h1
 have kR:=ah.mk hR
 have k0:=ah.mk h0
 obtain⟨b1,b2,-⟩:=h1 c H0 h0
 have l1:=ld3 b1
 unfold im at l1
 have u23:=Tryz.underlying23
 clear h1 hR h0 b1 b2
 refine dL rfl Tryz.func219 rfl ?_
 refine gx1 @JY ?_
 refine aD (fun m e H=>∃k:Nat,c<=k/\k<=w/\m=w - k/\e.get 0=.yield l/\e.get 1=.ptr (.box cb) 0/\e.get 2=.ptr (.box rb) 0/\e.get 4=.v (.int .i64 k)/\e.defers=[]/\Inv k H) ?_ (w - c) _ _ ?_
 rotate_left 1
 ·refine⟨c,aaP _,hc,rfl,?_,?_,?_,?_,?_,k0.out⟩<;>(first|assumption|(exact gR))
 clear l1 k0
 rintro m e H ⟨k,hk1,hk2,rfl,g0,g1,g2,g4,hd,hI⟩
 obtain⟨b1,b2,b3⟩:=k1.out k H hI
 have l2:=vD b2
 have kI:=ah.mk hI
 clear b1 hI
 by_cases hlt:k<w
 ·obtain⟨cs,b4,b5⟩:=b3 hlt
  obtain⟨H',r1,r2⟩:=kR.out k H hk1 hlt kI.out
  have ix:=vE (b:=xb) (len:=w) (cap:=w) (k:=.i64) hlt
  have l3:=ldc b4 b5
  have kI2:=ah.mk r2
  have hltI:((k:Nat):Int)<((w:Nat):Int):=by omega
  unfold im at *
  clear b2 b3 b4 b5 r2 kI
  refine gx2 @JY @gY ?_
  exact⟨w - (k+1),by omega,k+1,by omega,by omega,rfl,by trivial,by trivial,by trivial,by simp,by trivial,kI2.out⟩
 ·have:k=w:=by omega
  subst this
  clear b2 b3
  repeat' (first|simp(maxSteps:=999999)(disch:=first|exact dZ|fail)only[gW,reduceIte,aaN,gBQ,JY, *]|refine dX ?_ ?_<;>(intro _;try omega))
  exact⟨_,rfl,kI.out⟩
end Go.Proofs.YtnfciiiohoafaaaGreatDoor
end
