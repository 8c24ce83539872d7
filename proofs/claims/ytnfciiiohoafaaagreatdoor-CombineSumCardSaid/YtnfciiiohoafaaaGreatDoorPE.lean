/-
  The engine, part 48: functions that take and give no memory: what they answer is what they answer alone in the world, and memory stays as it was.
-/
import Derived.Test.YtnfciiiohoafaaaGreatDoorPD
import Derived.Test.YtnfciiiohoafaaaGreatDoorPC
open List renaming map_cons→abK,length_take→abI,length_drop→abS,length_map→abu,mem_map→aco,getElem?_eq_some_iff→abm,getElem?_take→acj,getElem?_drop→acw,all_eq_true→abE,range→aby,take_length→abU,mem_filter→ac7,getElem?_eq_getElem→abo,set_set→aeD,ext_getElem?→acG,getElem?_set→aci,mem_cons_self→abM,mem_cons_of_mem→abH,filter_cons_of_neg→adX,filter_cons_of_pos→adY,map_nil→ac6,ext_getElem→aef,getElem_map→acA,getElem_range→adf,mem_range→abQ,getD_eq_getElem?_getD→abw,getElem?_map→abF,getElem?_append_right→acE,mem_singleton→acg,mem_or_eq_of_mem_set→ach,getElem_mem→ab1,eq_of_mem_replicate→adu,getElem?_replicate→ael,nodup_cons→aet,mem_cons→acd,foldl_cons→ado,length_set→aca,replicate→abt,length_replicate→ack,contains_iff_mem→af4,mem_iff_getElem→ac8,length_append→abx,getElem?_mapIdx→afg,map_map→ad5,drop_zero→abZ,cons_append→ab3,take_append_drop→acN,length_nil→ab7,append_assoc→acI,take_succ_cons→abO,take_zero→abY,append_nil→ab2,not_mem_nil→adj,length_cons→ab0,nil_append→ab9,getElem?_range→ada,take_of_length_le→abD,head?_drop→aeu
open Bool renaming and_eq_true→abr,and_true→adW,not_eq_true'→ac0
open Nat renaming zero_le→abG,le_refl→abq,le_trans→abT,lt_of_lt_of_le→ab8,lt_or_ge→abL,mod_lt→acK,reduceEqDiff→abn,shiftLeft_add→afG,shiftLeft_or_distrib→aeV,shiftLeft_add_eq_or_of_lt→ads,shiftLeft_eq→adK,mod_eq_of_lt→acn,pow_succ→aeg,zero_add→acB,sub_self→adx,mul_one→acM
open Option renaming map_some→abJ,some.injEq→abA,map_map→afs
open Prod renaming mk.injEq→abC,fst→afS
open Int renaming dvd_add→ad3,zero_mul→afk,emod_eq_emod_iff_emod_sub_eq_zero→aeQ,emod_emod_of_dvd→adh,dvd_refl→aei,emod_eq_of_lt→aey,zero_add→aeT,toNat_natCast→abB,mul_comm→ad6,mul_sub→aec,dvd_mul_of_dvd_right→adv,natCast_zero→acT,fdiv_eq_ediv_of_nonneg→ac3
set_option maxHeartbeats 64000000
set_option maxRecDepth 100000
set_option linter.unusedSimpArgs false
set_option linter.unusedVariables false
set_option linter.constructorNameAsVariable false
section
namespace Go.AE
open Go.RowKit (Below)
mutual
def jK(h:ae):AV->AV
 | .list k sz es=>.list (di k) sz es
 | .arr b off len _=>match h.boxes[b]? with
  |some cs=>if off+len<=cs.length then .list .held 1 (((cs.drop off).take len).map fun c=>[c]) else .bad
  |none=>.bad
 | .tuple cs=>.tuple (vp h cs)
 | .agg cs=>.agg (vp h cs)
 |x=>x
def vp(h:ae):List AV->List AV
 | []=>[]
 |x::r=>jK h x::vp h r
end
def xA(R:Rec)(g:FuncId)(args:List AV):Option AV:=
 if bA 0 0 0 (bM args)=true then
  match R.call g (bM args) ⟨[],[],0,[]⟩ with
  |some (.ret y,h2)=>if aV 0 0 0 (jK h2 y)=true then some (jK h2 y) else none
  |_=>none
 else none
def sK(R:Rec)(g:FuncId)(args:List AV)(h:ae):Option (AV × ae):=(xA R g args).map (·,h)
theorem l9:∀l:List AV,(l.map fun c=>[c]).flatten=l
 | []=>rfl
 |x::l=>by rw[abK,List.flatten_cons,l9 l];rfl
section
variable {P:Program} {G:Nat->Option (List AV)} {ok:FuncId->Nat->Code->Bool} {w0 w w':World} {K K1 K2:aB} {h h2:ae}
mutual
theorem aI.lJ(hsub:∀g j c,K1.ic g j=some c->K2.ic g j=some c):∀{x:AV} {c:Value},aI K1 x c->aV 0 0 0 x=true->aI K2 x c
 |_,_,.bad c,_=>.bad c
 |_,_,.v x hx,_=>.v x hx
 |_,_,.nil sz,_=>.nil sz
 |_,_,.eK sz a,_=>.eK sz a
 |_,_,.list k sz es g off m cap cells hn hr hv hc ht ha,h=>by
  rw[aV,abr] at h
  refine .list k sz es g off m cap cells hn hr (ao.lJ hsub hv (by rw[eL];exact h.2)) (fun j c hj=>hsub _ _ _ (hc j c hj)) ⟨ht.1,?_⟩ ha
  have h1:=h.1
  have h2:=ht.2
  cases k with
  |free i=>simp[oF] at h1
  |_=>exact h2
 |_,_,.arr _ _ _ _ _ _ _ _ _ _ _ _,h=>by simp[aV] at h
 |_,_,.agg cs vs hv,h=>.agg cs vs (ao.lJ hsub hv (by rw[aV] at h;exact h))
 |_,_,.tuple cs vs hv,h=>.tuple cs vs (ao.lJ hsub hv (by rw[aV] at h;exact h))
 |_,_,.box _ _ _ _,h=>by simp[aV] at h
 |_,_,.dW g off,_=>.dW g off
 |_,_,.elem sz es i off g o p cells hr hv hc hi hp ha,h=>.elem sz es i off g o p cells hr (ao.lJ hsub hv (by rw[eL];rw[aV] at h;exact h)) (fun j c hj=>hsub _ _ _ (hc j c hj)) hi hp ha
 |_,_,.func fn first cap fs cs h1 h2,h=>.func fn first cap fs cs (ao.lJ hsub h1 (by rw[aV,abr] at h;exact h.1)) (ao.lJ hsub h2 (by rw[aV,abr] at h;exact h.2))
 |_,_,.yield _ _ _,h=>by simp[aV] at h
 |_,_,.iface t x c hx,h=>.iface t x c (aI.lJ hsub hx (by rw[aV] at h;exact h))
theorem ao.lJ(hsub:∀g j c,K1.ic g j=some c->K2.ic g j=some c):∀{xs:List AV} {cs:List Value},ao K1 xs cs->bA 0 0 0 xs=true->ao K2 xs cs
 |_,_,.nil,_=>.nil
 |_,_,.cons x c xs cs hx hs,h=>.cons x c xs cs (aI.lJ hsub hx (by rw[bA,abr] at h;exact h.1)) (ao.lJ hsub hs (by rw[bA,abr] at h;exact h.2))
end
mutual
theorem aI.ice(s1:Sim K1 G ok w h2 w')(hsub:∀g j c,K1.ic g j=some c->K2.ic g j=some c)(hnew:∀g j c,K1.base<=g->w'.cell? ⟨g,j,none⟩=some c->K2.ic g j=some c):
 ∀{x:AV} {c:Value},aI K1 x c->aV 0 0 0 (jK h2 x)=true->aI K2 (jK h2 x) c
 |_,_,.bad c,_=>.bad c
 |_,_,.v x hx,_=>.v x hx
 |_,_,.nil sz,_=>.nil sz
 |_,_,.eK sz a,_=>.eK sz a
 |_,_,.list k sz es g off m cap cells hn hr hv hc ht ha,h=>by
  have hf:gH 0 0 0 es=true:=by
   simp only[jK,aV,abr] at h
   exact h.2
  have hv2:ao K2 es.flatten cells:=ao.lJ hsub hv (by rw[eL];exact hf)
  cases k with
  |nil=>exact ht.2.elim
  |tight=>exact .list .tight sz es g off m cap cells hn hr hv2 (fun j c hj=>hsub _ _ _ (hc j c hj)) ⟨ht.1,ht.2⟩ ha
  |free i=>exact .list .held sz es g off m cap cells hn hr hv2 (fun j c hj=>hsub _ _ _ (hc j c hj)) ⟨ht.1,trivial⟩ ha
  |held=>exact .list .held sz es g off m cap cells hn hr hv2 (fun j c hj=>hsub _ _ _ (hc j c hj)) ⟨ht.1,trivial⟩ ha
 |_,_,.arr b g off len cap off' cap' hb hl hcc ho hr,h=>by
  simp only[jK] at h ⊢
  cases hcs:h2.boxes[b]? with
  |none=>exact .bad _
  |some cs=>
   rw[hcs] at h
   simp only at h ⊢
   split at h
   ·rename_i hle
    rw[if_pos hle]
    have hf:gH 0 0 0 (((cs.drop off).take len).map fun c=>[c])=true:=by
     simp only[aV,abr] at h
     exact h.2
    obtain⟨q1,q2,q3,cells,e,q4,q5⟩:=s1.box b g cs hb hcs
    have hle2:=q5.le
    by_cases h0:cap=0
    ·have:len=0:=by omega
     subst this
     exact .list .held 1 [] g off' 0 cap' [] rfl (fun _ h=>by cases h) .nil (fun _ _ h=>by simp at h) ⟨abG _,trivial⟩ rfl
    ·have hoff:off'=off:=by rcases ho with p|p<;>omega
     subst hoff
     have hv:ao K1 ((cs.drop off').take len) (((cells.toList.take cs.length).drop off').take len):=(q5.1.drop off').take len
     have hlen:((cs.drop off').take len).length=len:=by rw[abI,abS];omega
     refine .list .held 1 _ g off' len cap' (((cells.toList.take cs.length).drop off').take len) (by rw[abu,hlen]) (fun r hr=>?_) ?_ (fun j c hj=>?_) ⟨by omega,trivial⟩ ?_
     ·obtain⟨c,-,rfl⟩:=aco.1 hr
      rfl
     ·rw[l9]
      rw[<-eL,l9] at hf
      exact ao.lJ hsub hv hf
     ·refine hnew _ _ _ q1 ?_
      have hjl:j<len:=by
       have:=(abm.1 hj).1
       rw[abI] at this;omega
      rw[acj,if_pos hjl,acw,acj,if_pos (by omega)] at hj
      rw[fO q4]
      simpa using hj
     ·rw[l9]
      rw[abE] at q3 ⊢
      exact fun x hx=>q3 x (List.mem_of_mem_drop (List.mem_of_mem_take hx))
   ·rename_i hle
    rw[if_neg hle]
    exact .bad _
 |_,_,.agg cs vs hv,h=>.agg _ vs (ao.ice s1 hsub hnew hv (by simpa only[jK,aV] using h))
 |_,_,.tuple cs vs hv,h=>.tuple _ vs (ao.ice s1 hsub hnew hv (by simpa only[jK,aV] using h))
 |_,_,.box b g off hb,h=>by simp[jK,aV] at h
 |_,_,.dW g off,_=>.dW g off
 |_,_,.elem sz es i off g o p cells hr hv hc hi hp ha,h=>.elem sz es i off g o p cells hr (ao.lJ hsub hv (by rw[eL];simpa only[jK,aV] using h)) (fun j c hj=>hsub _ _ _ (hc j c hj)) hi hp ha
 |_,_,.func fn first cap fs cs h1 h2,h=>by
  simp only[jK,aV,abr] at h
  exact .func fn first cap fs cs (ao.lJ hsub h1 h.1) (ao.lJ hsub h2 h.2)
 |_,_,.yield l g hl,h=>by simp[jK,aV] at h
 |_,_,.iface t x c hx,h=>by
  simp only[jK,aV] at h
  exact .iface t x c (aI.lJ hsub hx h)
theorem ao.ice(s1:Sim K1 G ok w h2 w')(hsub:∀g j c,K1.ic g j=some c->K2.ic g j=some c)(hnew:∀g j c,K1.base<=g->w'.cell? ⟨g,j,none⟩=some c->K2.ic g j=some c):
 ∀{xs:List AV} {cs:List Value},ao K1 xs cs->bA 0 0 0 (vp h2 xs)=true->ao K2 (vp h2 xs) cs
 |_,_,.nil,_=>.nil
 |_,_,.cons x c xs cs hx hs,h=>by
  simp only[vp,bA,abr] at h
  exact .cons _ c _ cs (aI.ice s1 hsub hnew hx h.1) (ao.ice s1 hsub hnew hs h.2)
end
def aB.qB(K:aB)(n:Nat)(w:World):aB:={K with ic:=fun g j=>if g<n then K.ic g j else w.cell? ⟨g,j,none⟩}
theorem aB.zr(s:Sim K G ok w0 h w):K.Le (K.qB w.heap.size w'):=by
 refine⟨rfl,fun g j c hc=>?_,fun _ _ h=>h,fun _ _ h=>h,abq _,fun _ _=>rfl,fun _ h=>h,fun _ _=>rfl,fun g j c hc=>?_⟩
 ·simp only[aB.qB,if_pos (s.fY hc),hc]
 ·simp only[aB.qB] at hc
  split at hc
  ·exact .inl hc
  ·exact .inr (by have:=s.size;omega)
theorem Sim.qB(s:Sim K G ok w0 h w)(b:Below w.heap.size w w'):Sim (K.qB w.heap.size w') G ok w0 h w':=by
 have g:=s.grown b
 have le:K.Le (K.qB w.heap.size w'):=aB.zr s
 refine⟨g.old,g.size,fun g1 j c hc=>?_,fun g1 cs hg=>?_,g.js,g.βnd,fun b1 g1 cs hb hc=>?_,g.mA,g.γnd,fun l g1 r hl hr=>?_,g.tn,fun t ht=>?_,g.oq,g.md,g.all⟩
 ·simp only[aB.qB] at hc
  split at hc
  ·exact g.ic g1 j c hc
  ·exact hc
 ·obtain⟨cells,q1,q2⟩:=g.dW g1 cs hg
  exact⟨cells,q1.mono le,fun j c hj=>le.ic _ _ _ (q2 j c hj)⟩
 ·obtain⟨q1,q2,q3,cells,e,q4,q5⟩:=g.box b1 g1 cs hb hc
  obtain⟨-,-,-,cells0,e0,p4,-⟩:=s.box b1 g1 cs hb hc
  refine⟨q1,fun j=>?_,q3,cells,e,q4,q5.mono le (abm.1 hb).1⟩
  simp only[aB.qB,if_pos (cV p4)]
  exact q2 j
 ·obtain⟨q1,fn,tmps,d,q2,q3,q4⟩:=g.loop l g1 r hl hr
  exact⟨q1,fn,tmps,d,q2,q3.mono le,q4⟩
 ·obtain⟨q1,q2,q3,q4⟩:=g.tok t ht
  obtain⟨-,-,-,cells0,e0,z0,p4,-⟩:=s.tok t ht
  refine⟨q1,q2,fun j hj=>?_,q4⟩
  simp only[aB.qB,if_pos (cV p4)]
  exact q3 j hj
def aB.alone(K:aB)(n:Nat):aB:={K with base:=n,β:=[],γ:=[],tn:=0,md:=[]}
theorem Sim.alone(s:Sim K G ok w0 h w)(hG:∀g cs,G g=some cs->bA 0 0 0 cs=true):Sim (K.alone w.heap.size) G ok w ⟨[],[],0,[]⟩ w:=by
 refine⟨Below.refl _ _,abq _,s.ic,fun g cs hg=>?_,rfl,fun b b' g hb=>by simp[aB.alone] at hb,fun b g cs hb=>by simp[aB.alone] at hb,rfl,fun b b' g hb=>by simp[aB.alone] at hb,fun l g r hl=>by simp[aB.alone] at hl,rfl,fun t ht=>?_,fun t t' ht=>?_,fun r hr=>by simp[aB.alone] at hr,rfl⟩
 ·obtain⟨cells,q1,q2⟩:=s.dW g cs hg
  exact⟨cells,ao.lJ (K1:=K) (K2:=K.alone w.heap.size) (fun _ _ _ h=>h) q1 (hG g cs hg),q2⟩
 ·simp[alive] at ht
 ·simp[alive] at ht
theorem Ey{prims:FuncId->Option (List AV->ae->Option (AV × ae))}(hp:Prog P)(hG:∀g cs,G g=some cs->bA 0 0 0 cs=true)(hprim:∀V g p,prims g=some p->jb P G V g p){g:FuncId}(hfn:∃fn,P.funcs[g]?=some fn/\fn.body.isSome=true)(V:World):
 jb P G V g (sK (whole P G prims) g):=by
 refine⟨hfn,fun args h x h' hx K w vargs hv hs cs=>?_⟩
 unfold sK xA at hx
 split at hx
 ·rename_i hf
  split at hx
  ·rename_i y h2 hc
   split at hx
   ·rename_i hf2
    simp only[abJ,abA,abC] at hx
    obtain⟨rfl,rfl⟩:=hx
    obtain⟨-,hsim⟩:=(su hp (hprim w)).call g _ _ _ _ hc
    have s0:=Sim.alone hs hG
    obtain⟨K1,w',fr,le,s1,hst,hfr,v,hv',hle⟩:=hsim (K.alone w.heap.size) w vargs (ao.lJ (K1:=K) (K2:=K.alone w.heap.size) (fun _ _ _ h=>h) hv.hold hf) s0 cs
    have hb:Below w.heap.size w w':=by have:=s1.old;rwa [le.base] at this
    refine⟨.returned v,w',fr,⟨v,_,rfl,aB.zr hs,aI.ice (K2:=K.qB w.heap.size w') s1 (fun g j c hc=>?_) (fun g j c hg hc=>?_) hv' hf2,Sim.qB hs hb⟩,hst,hfr,hle⟩
    ·rcases le.new g j c hc with q|q
     ·have:g<w.heap.size:=hs.fY q
      simp only[aB.qB,if_pos this]
      exact q
     ·have q:w.heap.size<=g:=q
      simp only[aB.qB,if_neg (show ¬g<w.heap.size by omega)]
      exact s1.ic g j c hc
    ·have q:w.heap.size<=g:=by rw[le.base] at hg;exact hg
     simp only[aB.qB,if_neg (show ¬g<w.heap.size by omega)]
     exact hc
   ·cases hx
  ·cases hx
 ·cases hx
def fx(R:Rec)(L:List FuncId)(g:FuncId):Option (List AV->ae->Option (AV × ae)):=if L.contains g=true then some (sK R g) else none
theorem iN{prims:FuncId->Option (List AV->ae->Option (AV × ae))}(hp:Prog P)(hG:∀g cs,G g=some cs->bA 0 0 0 cs=true)(hprim:∀V g p,prims g=some p->jb P G V g p){L:List FuncId}(hL:∀g∈L,∃fn,P.funcs[g]?=some fn/\fn.body.isSome=true):
 ∀V g p,fx (whole P G prims) L g=some p->jb P G V g p:=by
 intro V g p he
 unfold fx at he
 split at he
 ·rename_i hg
  injection he with he
  subst he
  exact Ey hp hG hprim (hL g (by simpa using hg)) V
 ·cases he
theorem aF{R:Rec}{L:List FuncId}{g:FuncId}{args args':List AV}{x y:AV}{h1:ae}(hg:L.contains g=true)(ha:bM args=args')(hf:bA 0 0 0 args'=true)(hc:R.call g args' ⟨[],[],0,[]⟩=some (.ret y,h1))(hy:jK h1 y=x)(hx:aV 0 0 0 x=true):
 ∀h,(whole P G (fx R L)).call g args h=some (.ret x,h):=by
 intro h
 subst ha;subst hy
 rw[lu]
 unfold gQ fx
 rw[if_pos hg]
 simp only[sK,xA,if_pos hf,hc,if_pos hx,abJ]
end
end Go.AE
end
section
namespace Go.AE
def zt(P:Program)(s d:TypeId):Bool:=
 match P.underlying s,P.underlying d with
 |some (.int _),some (.int _)=>true
 |_,_=>false
def vq(P:Program)(ops:Array Oper)(L:List FuncId)(k:Nat):Bool:=
 match ops[k]? with
 |some o=>o.guard.isNone&&match o.op with
  | .call {callee:=.value (.func f),.. }=>L.contains f
  | .call {callee:=.builtin .max,.. }=>true
  | .call {callee:=.builtin .min,.. }=>true
  | .convert s d _=>zt P s d
  |_=>false
 |none=>false
def zu(P:Program)(ops:Array Oper)(L:List FuncId):List Nat:=(aby ops.size).filter (vq P ops L)
section
variable {P:Program} {G:Nat->Option (List AV)} {prims:FuncId->Option (List AV->ae->Option (AV × ae))} {Q:Xt->Env->ae->Prop} {e:Env} {h:ae} {L:List FuncId}
def jo(prims:FuncId->Option (List AV->ae->Option (AV × ae)))(L:List FuncId):Prop:=∀g∈L,∃q:List AV->Option AV,prims g=some fun args h=>(q args).map (·,h)
theorem nE{R:Rec}:jo (fx R L) L:=fun g hg=>⟨xA R g,by
 unfold fx
 rw[if_pos (by simpa using hg)]
 rfl⟩
theorem Ju{s d:TypeId}{x:AV}(hn:zt P s d=true):∃q:Option AV,∀hm,fm P hm s d x=q.map (·,hm):=by
 unfold zt at hn
 split at hn
 ·rename_i k1 k2 h1 h2
  unfold fm
  simp only[h1,h2]
  cases x<;>first|exact⟨none,fun hm=>rfl⟩|exact⟨_,fun hm=>rfl⟩
 ·cases hn
theorem QS{hm:ae}{ts:Array TypeId}{ty:TypeId}{xs:List AV}:bK P hm .max ts ty xs=(match flatAll xs with|some l=>(bQ P (Builtin.max_ ts ty l.toArray)).bind eS|none=>none).map (·,hm):=by
 rcases xs with _|⟨x,_|⟨y,xs⟩⟩<;>(unfold bK;simp only[];cases flatAll _<;>rfl)
theorem QT{hm:ae}{ts:Array TypeId}{ty:TypeId}{xs:List AV}:bK P hm .min ts ty xs=(match flatAll xs with|some l=>(bQ P (Builtin.min_ ts ty l.toArray)).bind eS|none=>none).map (·,hm):=by
 rcases xs with _|⟨x,_|⟨y,xs⟩⟩<;>(unfold bK;simp only[];cases flatAll _<;>rfl)
theorem uk{o:Oper}(hg:o.guard=none)(hq:oj o.op=true)(hop:∀er:Env,∃q:Option AV,∀hm,dC P G (whole P G prims) er hm o=q.map fun x=>(.ret x,er,hm)){ops:Array Oper}{en:Env}{hn:ae}
 (hall:br P G (whole P G prims) ops (aby ops.size) e h=some (.normal,en,hn)) {k:Nat} (ho:ops[k]?=some o):sY P G (whole P G prims) ops e h k:=by
 have hklt:k<ops.size:=(Array.getElem?_eq_some_iff.1 ho).1
 obtain⟨-,tr,st⟩:=trace hall
 obtain⟨s1,-⟩:=st k hklt
 obtain⟨q,hq1⟩:=hop (cK P G (whole P G prims) ops e h k).1
 unfold dR at s1
 simp only[ho,bg,hg,hq1] at s1
 cases hx:q with
 |none=>rw[hx] at s1;simp at s1
 |some x=>exact⟨o,x,_,_,ho,hq,tr k (Nat.le_of_lt hklt),fun m hm=>⟨_,_,tr m hm,by rw[hq1,hx];rfl⟩⟩
theorem tE{ops:Array Oper}(hL:jo prims L){en:Env}{hn:ae}(hall:br P G (whole P G prims) ops (aby ops.size) e h=some (.normal,en,hn)){k:Nat}(hk:vq P ops L k=true):sY P G (whole P G prims) ops e h k:=by
 unfold vq at hk
 split at hk
 ·rename_i o ho
  simp only[abr,Option.isNone_iff_eq_none] at hk
  obtain⟨hg,hk⟩:=hk
  split at hk
  ·rename_i f args ts hop
   obtain⟨q,hq⟩:=hL f (by simpa using hk)
   refine uk hg (by rw[hop];rfl) (fun er=>⟨q (args.toList.map er.eval),fun hm=>?_⟩) hall ho
   have:dC P G (whole P G prims) er hm o=(eI P (whole P G prims) er hm {callee:=.value (.func f),args,argTypes:=ts}).map fun(r,h1)=>(r,er,h1):=by
    unfold dC
    rw[hop]
   rw[this,xc,lu]
   unfold gQ
   rw[hq]
   simp only[afs]
   rfl
  ·rename_i args ts hop
   refine uk hg (by rw[hop];rfl) (fun er=>⟨match flatAll (args.toList.map er.eval) with|some l=>(bQ P (Builtin.max_ ts o.type l.toArray)).bind eS|none=>none,fun hm=>?_⟩) hall ho
   ·unfold dC
    simp only[hop]
    show(bK P hm .max ts o.type (args.toList.map er.eval)).map _=_
    rw[QS,afs];rfl
  ·rename_i args ts hop
   refine uk hg (by rw[hop];rfl) (fun er=>⟨match flatAll (args.toList.map er.eval) with|some l=>(bQ P (Builtin.min_ ts o.type l.toArray)).bind eS|none=>none,fun hm=>?_⟩) hall ho
   ·unfold dC
    simp only[hop]
    show(bK P hm .min ts o.type (args.toList.map er.eval)).map _=_
    rw[QT,afs];rfl
  ·rename_i s d x hop
   refine uk hg (by rw[hop];rfl) (fun er=>?_) hall ho
   obtain⟨q,hq⟩:=Ju (P:=P) (x:=er.eval x) hk
   refine⟨q,fun hm=>?_⟩
   unfold dC
   simp only[hop,aO,hq,afs]
   rfl
  ·cases hk
 ·cases hk
theorem bU{id:Nat}{ops:Array Oper}(ps:List (Nat × Nat))(hL:jo prims L)(hd:mF ops (zu P ops L) ps=true)(hs:∀p∈ps,cX P G (whole P G prims) ops e h p.1 p.2=true)
 (hr:cz P G (whole P G prims) ops ops.toList e h (rh Q)):Run (whole P G prims) (.region id ops true) e h Q:=by
 have hr':=hr
 obtain⟨o,en,hn,h1,h2⟩:=hr'
 cases o with
 |normal=>
  have hall:br P G (whole P G prims) ops (aby ops.size) e h=some (.normal,en,hn):=by
   rw[dM (abq _),<-Array.length_toList,abU];exact h1
  exact oB (sD hd (fun k hk=>tE hL hall (ac7.1 hk).2) hs) hr
 |_=>exact h2.elim
theorem bf{id:Nat}{ops:Array Oper}(hL:jo prims L)(hd:mF ops (zu P ops L) []=true)
 (hr:cz P G (whole P G prims) ops ops.toList e h (rh Q)):Run (whole P G prims) (.region id ops true) e h Q:=bU [] hL hd (fun p hp=>nomatch hp) hr
end
end Go.AE
end
section
namespace Go.AE
structure fi(S:List Nat)(n0:Nat)(h h':ae):Prop where
 box:∀(c:Nat) (cs:List AV),c∉S->h.boxes[c]?=some cs->h'.boxes[c]?=some cs
 len:h.boxes.length<=h'.boxes.length
 loop:∀(l:Nat) (r:bE),h.loops[l]?=some r->h'.loops[l]?=some r
 tn:h.tn<=h'.tn
 dead:∀n,n<n0->n∈h'.dead->n∈h.dead
 ok:aZ h=true->aZ h'=true
section
variable {S S':List Nat} {n0:Nat} {h0 h h' h2:ae}
theorem fi.refl:fi S n0 h h:=⟨fun _ _ _ q=>q,abq _,fun _ _ q=>q,abq _,fun _ _ q=>q,fun q=>q⟩
theorem fi.trans(m:fi S n0 h h')(k:fi S n0 h' h2):fi S n0 h h2:=
 ⟨fun c cs hc hb=>k.box c cs hc (m.box c cs hc hb),abT m.len k.len,fun l r q=>k.loop l r (m.loop l r q),abT m.tn k.tn,fun n hn q=>m.dead n hn (k.dead n hn q),fun q=>k.ok (m.ok q)⟩
theorem fi.mono(m:fi S n0 h h')(hs:∀b∈S,b∈S'):fi S' n0 h h':=⟨fun c cs hc=>m.box c cs fun q=>hc (hs c q),m.len,m.loop,m.tn,m.dead,m.ok⟩
theorem fi.put{b:Nat}(hb:b∈S)(cs:List AV):fi S n0 h (h.put b cs):=
 ⟨fun c ds hc q=>by rw[av (fun(e:c=b)=>hc (by rw[e];exact hb))];exact q,by rw[dU];exact abq _,fun _ _ q=>q,abq _,fun _ _ q=>q,fun q=>q⟩
theorem fi.bZ(m:fi S n0 h h'){b:Nat}(hb:h.boxes.length<=b)(cs:List AV):fi S n0 h (h'.put b cs):=
 ⟨fun c ds hc q=>by
  have:=(abm.1 q).1
  rw[av (by omega)];exact m.box c ds hc q,by rw[dU];exact m.len,m.loop,m.tn,m.dead,m.ok⟩
theorem fi.push(m:fi S n0 h h')(cs:List AV):fi S n0 h (h'.push cs):=
 ⟨fun c ds hc q=>aj (m.box c ds hc q),by rw[az];exact Nat.le_succ_of_le m.len,m.loop,m.tn,m.dead,m.ok⟩
theorem fi.lD(m:fi S n0 h h')(r:bE):fi S n0 h (h'.loop r):=⟨m.box,m.len,fun l q hq=>AM (m.loop l q hq),m.tn,m.dead,m.ok⟩
theorem fi.bh(m:fi S n0 h h'){l:Nat}(hl:h.loops.length<=l)(r:bE):fi S n0 h (h'.bh l r):=
 ⟨m.box,m.len,fun k q hq=>by
  have:=(abm.1 hq).1
  rw[pX (by omega)];exact m.loop k q hq,m.tn,m.dead,m.ok⟩
theorem fi.sF(x:Ext h h')(hn:n0<=h.tn):fi S n0 h h':=⟨fun c cs _ hb=>x.box c cs hb,x.len,x.loop,x.tn,fun n hl hd=>x.dead n (ab8 hl hn) hd,x.ok⟩
theorem fi.tS{n1:Nat}(m:fi S n1 h h')(hn:n0<=n1):fi S n0 h h':=⟨m.box,m.len,m.loop,m.tn,fun n hl hd=>m.dead n (ab8 hl hn) hd,m.ok⟩
theorem Ext.O0(x:Ext h0 h)(m:fi S h0.tn h h')(hb:∀b∈S,h0.boxes.length<=b):Ext h0 h':=
 ⟨fun c cs q=>m.box c cs (fun hc=>by
  have:=hb c hc
  have:=(abm.1 q).1
  omega) (x.box c cs q),fun l r q=>m.loop l r (x.loop l r q),abT x.tn m.tn,fun n hn hd=>x.dead n hn (m.dead n hn hd),fun q=>m.ok (x.ok q)⟩
theorem Grown.O0{t:Tok}(g:Grown n0 h h' t):fi S n0 h h':=⟨fun c cs _ q=>g.box c cs q,by
 rcases abL h'.boxes.length h.boxes.length with hlt|hge
 ·have h1:=g.box h'.boxes.length _ (abo hlt)
  have:=(abm.1 h1).1
  omega
 ·exact hge,g.loop,g.tn,g.dead,fun _=>g.ok⟩
end
section
variable {P:Program} {G:Nat->Option (List AV)} {prims:FuncId->Option (List AV->ae->Option (AV × ae))} {H:ae} {l:Nat} {rec:bE} {args:List AV}
theorem Jv{Post:ae->Prop}(hr:H.loops[l]?=some rec)(hs:rec.params.size=args.length)(hst:rec.state=.ready)(hp:rec.pending=none)
 (ha:Run (whole P G prims) rec.assign (dD l rec args) H (fun o e1 h1=>o=.normal/\h1=H/\Run (whole P G prims) rec.body e1 (H.busy l rec) (fun o _ h2=>o=.normal/\h2.loops=(H.busy l rec).loops/\Post {h2 with loops:=H.loops}))):
 ∃H',(whole P G prims).round l args H=some (.ret (.v (.bool true)),H')/\H'.loops=H.loops/\Post H':=by
 obtain⟨o,e1,h1,q1,rfl,rfl,o2,e2,h2,q2,rfl,q3,q4⟩:=ha
 have hll:=(abm.1 hr).1
 have hb:(h1.busy l rec).loops[l]?=some {rec with state:=.busy}:=by
  show(h1.loops.set l _)[l]?=_
  simp[hll]
 refine⟨{h2 with loops:=h1.loops},jT hr hs ⟨_,e1,h1,q1,rfl,rec,hr,hst,.normal,e2,h2,q2,{rec with state:=.busy},by rw[q3];exact hb,rfl,?_⟩,rfl,q4⟩
 have hrec:{rec with state:=LoopState.ready,pending:=none}=rec:=by
  cases rec;cases hst;cases hp;rfl
 have hset:h2.loops.set l rec=h1.loops:=by
  rw[q3]
  show(h1.loops.set l _).set l rec=_
  rw[aeD]
  apply acG
  intro k
  rw[aci]
  split
  ·rename_i e;subst e;exact hr.symm
  ·rfl
 show _=({h2 with loops:=h2.loops.set l {rec with state:=LoopState.ready,pending:=none}}:ae)
 rw[hrec,hset]
theorem pC{Post:ae->Prop}(hr:H.loops[l]?=some rec)(hs:rec.params.size=args.length)(hst:rec.state=.ready)(hp:rec.pending=none)
 (ha:Run (whole P G prims) rec.assign (dD l rec args) H (fun o e1 h1=>o=.normal/\h1=H/\Run (whole P G prims) rec.body e1 (H.busy l rec) (fun o _ h2=>o=.normal/\h2.loops=(H.busy l rec).loops/\Post {h2 with loops:=H.loops}))):
 ∃H',(whole P G prims).round l args H=some (.ret (.v (.bool true)),H')/\Post H':=by
 obtain⟨H',q1,_,q3⟩:=Jv hr hs hst hp ha
 exact⟨H',q1,q3⟩
end
end Go.AE
end
section
namespace Go.NT
theorem wG{α:Type}{f:α->Int}:∀{l:List α},(∀i∈l,f i=0)->bW (l.map f)=0:=by
 intro l
 induction l with
 |nil=>intro _;rfl
 |cons x l ih=>intro h;simp only[abK,bW];rw[h x abM,ih fun i hi=>h i (abH _ hi)];rfl
theorem qC{α:Type}{f g:α->Int}:∀{l:List α},(∀i∈l,f i=g i)->bW (l.map f)=bW (l.map g):=by
 intro l
 induction l with
 |nil=>intro _;rfl
 |cons x l ih=>intro h;simp only[abK,bW];rw[h x abM,ih fun i hi=>h i (abH _ hi)]
theorem Bc{α:Type}{f:α->Int}{p:α->Bool}:∀{l:List α},(∀i∈l,p i=false->f i=0)->bW ((l.filter p).map f)=bW (l.map f):=by
 intro l
 induction l with
 |nil=>intro _;rfl
 |cons x l ih=>
  intro h
  have ih:=ih fun i hi=>h i (abH _ hi)
  cases hp:p x
  ·rw[adX (by simp[hp]),ih]
   simp only[abK,bW]
   rw[h x abM hp];omega
  ·rw[adY hp]
   simp only[abK,bW,ih]
theorem Bd{α:Type}{f g:α->Int}:∀{l:List α},bW (l.map fun i=>f i+g i)=bW (l.map f)+bW (l.map g):=by
 intro l
 induction l with
 |nil=>rfl
 |cons x l ih=>simp only[abK,bW,ih];omega
theorem rK{α:Type}{f:α->Int}{c:Int}:∀{l:List α},bW (l.map fun i=>c * f i)=c * bW (l.map f):=by
 intro l
 induction l with
 |nil=>simp[bW]
 |cons x l ih=>simp only[abK,bW,ih,Int.mul_add]
theorem xB{α β:Type}{f:α->β->Int}:∀{l:List α} {m:List β},bW (l.map fun i=>bW (m.map fun j=>f i j))=bW (m.map fun j=>bW (l.map fun i=>f i j)):=by
 intro l m
 induction l with
 |nil=>simp only[ac6,bW];exact(wG fun _ _=>rfl).symm
 |cons x l ih=>simp only[abK,bW,ih];rw[<-Bd]
theorem oO{α:Type}{f g:α->Int}{q:Int}:∀{l:List α},(∀i∈l,q∣f i - g i)->q∣bW (l.map f) - bW (l.map g):=by
 intro l
 induction l with
 |nil=>intro _;simp[bW]
 |cons x l ih=>
  intro h
  simp only[abK,bW]
  have e:f x+bW (l.map f) - (g x+bW (l.map g))=(f x - g x)+(bW (l.map f) - bW (l.map g)):=by omega
  rw[e]
  exact ad3 (h x abM) (ih fun i hi=>h i (abH _ hi))
theorem Gq{α β:Type}{l:List α}{f:α->β}{g:Nat->β}(h:∀i x,l[i]?=some x->f x=g i):l.map f=(aby l.length).map g:=by
 apply aef
 ·simp
 ·intro i h1 h2
  rw[acA,acA,adf]
  exact h i _ (abo (by simpa using h1))
theorem vt(rows:List (List Int))(target:List Int):(cO rows target).length=target.length:=by unfold cO;simp
theorem vu{rows:List (List Int)}{target a:List Int}(h:a∈cO rows target):∃k,k<target.length/\a=rows.map (fun r=>at0 r k)++[at0 target k]:=by
 unfold cO at h
 obtain⟨k,hk,rfl⟩:=aco.1 h
 exact⟨k,abQ.1 hk,rfl⟩
theorem Mx{rows:List (List Int)}{k i:Nat}{t:List Int}(hi:i<rows.length):at0 (rows.map (fun r=>at0 r k)++t) i=at0 (rows.getD i []) k:=by
 unfold at0
 rw[abw,List.getElem?_append_left (by simpa using hi),abF,abo hi,cU hi]
 rfl
theorem Be{rows:List (List Int)}{k:Nat}{x:Int}:at0 (rows.map (fun r=>at0 r k)++[x]) rows.length=x:=by
 unfold at0
 rw[abw,acE (by simp)]
 simp
section
variable {rows:List (List Int)} {target l:List Int}
theorem xC(hr:∀r∈rows,∀x∈r,okF x)(ht:∀x∈target,okF x):(∀a∈cO rows target,a.length=rows.length+1)/\∀a∈cO rows target,∀x∈a,okF x:=by
 refine⟨fun a ha=>?_,fun a ha x hx=>?_⟩
 ·obtain⟨k,-,rfl⟩:=vu ha
  simp
 ·obtain⟨k,hk,rfl⟩:=vu ha
  rcases List.mem_append.1 hx with q|q
  ·obtain⟨r,h1,rfl⟩:=aco.1 q
   exact gU (hr r h1) k
  ·rw[acg] at q
   subst q
   exact gU ht k
theorem combine_sat(hr:∀r∈rows,∀x∈r,okF x)(ht:∀x∈target,okF x)(h:gi rows target=some l):
 l.length=rows.length/\(∀x∈l,okF x)/\∀k,k<target.length->Qi∣bW ((aby rows.length).map fun i=>at0 l i * at0 (rows.getD i []) k) - at0 target k:=by
 obtain⟨t1,t2⟩:=xC hr ht
 unfold gi at h
 dsimp only at h
 split at h
 ·rename_i hall
  simp only[abA] at h
  subst h
  have hlast:∀i a,(cJ (cO rows target) rows.length).2.length<=i->(cJ (cO rows target) rows.length).1[i]?=some a->at0 a rows.length=0:=fun i a hi ha=>by
   rw[abE] at hall
   have:a∈(cJ (cO rows target) rows.length).1.drop (cJ (cO rows target) rows.length).2.length:=by
    refine List.mem_of_getElem? (i:=i - (cJ (cO rows target) rows.length).2.length) ?_
    rw[acw]
    rw[show(cJ (cO rows target) rows.length).2.length+(i - (cJ (cO rows target) rows.length).2.length)=i by omega]
    exact ha
   simpa using hall a this
  have hs:=F9 t1 t2 hlast
  have R:=(pk t1 t2 (show rows.length<=rows.length+1 by omega)).1
  refine⟨po _ _,?_,fun k hk=>?_⟩
  ·have hok:∀(ps:List (Nat × Nat)) (y:List Int),(∀x∈y,okF x)->∀x∈ps.foldl (fun y p=>y.set p.1 (at0 ((cJ (cO rows target) rows.length).1.getD p.2 []) rows.length)) y,okF x:=by
    intro ps
    induction ps with
    |nil=>intro y hy;exact hy
    |cons p ps ih=>
     intro y hy
     refine ih _ fun x hx=>?_
     rcases ach hx with q|q
     ·exact hy x q
     ·rw[q]
      refine gU (fun z hz=>?_) _
      rcases abL p.2 (cJ (cO rows target) rows.length).1.length with q2|q2
      ·rw[cU q2] at hz
       exact R.ok _ (ab1 q2) z hz
      ·rw[abw,List.getElem?_eq_none q2] at hz
       simp at hz
   unfold gF
   exact hok _ _ fun x hx=>by rw[adu hx];exact iJ
  ·have hm:rows.map (fun r=>at0 r k)++[at0 target k]∈cO rows target:=by
    unfold cO
    exact aco.2 ⟨k,abQ.2 hk,rfl⟩
   have:=hs _ hm
   unfold Sat res dot at this
   rw[po,Be] at this
   have e:((aby rows.length).map fun i=>at0 (gF (cJ (cO rows target) rows.length) rows.length) i * at0 (rows.map (fun r=>at0 r k)++[at0 target k]) i)=(aby rows.length).map fun i=>at0 (gF (cJ (cO rows target) rows.length) rows.length) i * at0 (rows.getD i []) k:=
    List.map_congr_left fun i hi=>by rw[Mx (abQ.1 hi)]
   rw[e] at this
   exact this
 ·cases h
end
theorem Dz{n:Nat}{at_:List Nat}{l:List Int}:(fS n at_ l).length=n:=by
 unfold fS
 rw[oJ (fun p=>at0 l p.2)];simp
theorem zv{n i:Nat}{at_:List Nat}{l:List Int}(h:i∉at_):at0 (fS n at_ l) i=0:=by
 unfold fS
 rw[ny (fun p=>at0 l p.2) _ _ fun p hp e=>h (by
  subst e
  obtain⟨p1,p2⟩:=p
  have:=List.mem_zipIdx hp
  simp only at this ⊢
  rw[this.2.2]
  exact ab1 _)]
 unfold at0
 rw[abw,ael]
 split<;>rfl
theorem Bf{l:List Int}:∀(ps:List (Nat × Nat)) (y:List Int),(ps.map afS).Nodup->(∀p∈ps,p.1<y.length)->∀p∈ps,at0 (ps.foldl (fun y p=>y.set p.1 (at0 l p.2)) y) p.1=at0 l p.2:=by
 intro ps
 induction ps with
 |nil=>intro y _ _ p hp;cases hp
 |cons q ps ih=>
  intro y hn hy p hp
  rw[abK,aet] at hn
  rcases acd.1 hp with rfl|hp
  ·rw[ado,ny (fun p=>at0 l p.2) _ _ fun p' hp' e=>hn.1 (aco.2 ⟨p',hp',e⟩),ui (hy p abM),if_pos rfl]
  ·exact ih _ hn.2 (fun p hp=>by rw[aca];exact hy p (abH _ hp)) p hp
theorem zip_fst(at_:List Nat):at_.zipIdx.map afS=at_:=by
 apply aef<;>simp
theorem Gs{n j i:Nat}{at_:List Nat}{l:List Int}(hn:at_.Nodup)(hb:∀i∈at_,i<n)(hj:at_[j]?=some i):at0 (fS n at_ l) i=at0 l j:=by
 unfold fS
 have hm:(i,j)∈at_.zipIdx:=by
  rw[List.mem_zipIdx_iff_getElem?]
  exact hj
 exact Bf at_.zipIdx (abt n 0) (by rw[zip_fst];exact hn) (fun p hp=>by
  rw[ack]
  refine hb _ ?_
  have:p.1∈at_.zipIdx.map afS:=aco.2 ⟨p,hp,rfl⟩
  rwa [zip_fst] at this) (i,j) hm
theorem Gu{n:Nat}{at_:List Nat}{l:List Int}(hl:∀x∈l,okF x):∀x∈fS n at_ l,okF x:=by
 have hok:∀(ps:List (Nat × Nat)) (y:List Int),(∀x∈y,okF x)->∀x∈ps.foldl (fun y p=>y.set p.1 (at0 l p.2)) y,okF x:=by
  intro ps
  induction ps with
  |nil=>intro y hy;exact hy
  |cons p ps ih=>
   intro y hy
   refine ih _ fun x hx=>?_
   rcases ach hx with q|q
   ·exact hy x q
   ·rw[q];exact gU hl _
 exact hok _ _ fun x hx=>by rw[adu hx];exact iJ
theorem zw{owners who:List Int}{i:Nat}:i∈gV owners who↔i<owners.length/\at0 owners i∈who:=by
 unfold gV
 rw[ac7,abQ,af4]
theorem Gv(owners who:List Int):(gV owners who).Nodup:=List.nodup_range.filter _
theorem fk{rows:List (List Int)}{owners:List Int}(h:bC rows owners=0):rows.length=owners.length/\rows.length<=64/\(∀r∈rows,r.length=aK rows/\0<r.length/\r.length<=64/\∀x∈r,okF x)/\∀x∈owners,0<=x/\x<=63:=by
 unfold bC at h
 split at h
 ·cases h
 ·rename_i h1
  simp only[Bool.or_eq_true,decide_eq_true_eq,List.any_eq_true,not_or,not_exists,not_and,Nat.not_lt] at h1
  split at h
  ·cases h
  ·rename_i h2
   have h2:rows.length=owners.length:=by simpa using h2
   split at h
   ·rename_i h3
    rw[abE] at h3
    have key:∀i (hi:i<rows.length),rows[i].length=(rows.getD 0 []).length/\0<rows[i].length/\(∀x∈rows[i],okF x)/\0<=at0 owners i/\at0 owners i<=63:=fun i hi=>by
     have:=h3 i (abQ.2 hi)
     simp only[cU hi,abr,decide_eq_true_eq,abE] at this
     obtain⟨⟨⟨a,b⟩,c,d⟩,f⟩:=this
     refine⟨b,?_,fun x hx=>?_,c,d⟩
     ·rcases Nat.eq_zero_or_pos rows[i].length with q|q
      ·rw[List.length_eq_zero_iff] at q
       rw[q] at a;cases a
      ·exact q
     ·have:=f x hx
      unfold inQ at this
      simpa [okF] using this
    refine⟨h2,h1.1,fun r hr=>?_,fun x hx=>?_⟩
    ·obtain⟨i,hi,rfl⟩:=ac8.1 hr
     obtain⟨a,b,c,-⟩:=key i hi
     refine⟨?_,b,h1.2 _ hr,c⟩
     unfold aK
     rw[if_neg (by omega)];exact a
    ·obtain⟨i,hi,rfl⟩:=ac8.1 hx
     have:=(key i (by omega)).2.2.2
     rwa [bN hi] at this
   ·cases h
theorem fI{rows:List (List Int)}{owners:List Int}(h:bC rows owners=0):0<aK rows/\aK rows<=64:=by
 obtain⟨-,-,h3,-⟩:=fk h
 unfold aK
 split
 ·omega
 ·rename_i q
  have:=h3 (rows.getD 0 []) (by rw[cU (by omega)];exact ab1 _)
  exact⟨this.2.1,this.2.2.1⟩
theorem DA{n:Nat}(h:0<n):(ct n).length=n:=by unfold ct;simp;omega
theorem Gw{n k:Nat}:at0 (ct n) k=if k=0 then 1 else 0:=by
 unfold ct at0
 cases k with
 |zero=>rfl
 |succ k=>
  rw[List.getD_cons_succ,abw,ael]
  split<;>rfl
theorem Gx{n:Nat}:∀x∈ct n,okF x:=by
 intro x hx
 unfold ct at hx
 rcases acd.1 hx with rfl|q
 ·unfold okF;decide
 ·rw[adu q];exact iJ
theorem e7{rows:List (List Int)}{owners who y:List Int}(h:bJ rows owners who=(y,true,0)):
 bC rows owners=0/\cS (-1) who=true/\y.length=rows.length/\(∀x∈y,okF x)/\(∀i,at0 owners i∉who->at0 y i=0)/\
  ∀k,k<aK rows->Qi∣bW ((aby rows.length).map fun i=>at0 y i * at0 (rows.getD i []) k) - (if k=0 then 1 else 0):=by
 unfold bJ at h
 split at h
 ·simp at h
 ·rename_i hp
  have hp:bC rows owners=0:=by simpa using hp
  obtain⟨p1,p2,p3,p4⟩:=fk hp
  split at h
  ·simp at h
  ·rename_i hw
   split at h
   ·simp at h
   ·rename_i l hl
    simp only[abC,and_true] at h
    subst h
    have hb:∀i∈gV owners who,i<rows.length:=fun i hi=>by rw[p1];exact(zw.1 hi).1
    have hr:∀r∈(gV owners who).map (fun i=>rows.getD i []),∀x∈r,okF x:=fun r hr=>by
     obtain⟨i,hi,rfl⟩:=aco.1 hr
     rw[cU (hb i hi)]
     exact(p3 _ (ab1 _)).2.2.2
    obtain⟨c1,c2,c3⟩:=combine_sat hr Gx hl
    rw[abu] at c1 c3
    have hout:∀i,i∉gV owners who->at0 (fS rows.length (gV owners who) l) i=0:=fun i hi=>zv hi
    refine⟨hp,by simpa using hw,Dz,Gu c2,fun i hi=>hout i fun q=>hi (zw.1 q).2,fun k hk=>?_⟩
    have:=c3 k (by rw[DA (fI hp).1];exact hk)
    rw[Gw] at this
    have e:bW ((aby rows.length).map fun i=>at0 (fS rows.length (gV owners who) l) i * at0 (rows.getD i []) k)=bW ((aby (gV owners who).length).map fun i=>at0 l i * at0 (((gV owners who).map fun i=>rows.getD i []).getD i []) k):=by
     have e1:gV owners who=(aby rows.length).filter fun i=>who.contains (at0 owners i):=by unfold gV;rw[p1]
     have e2:=Bc (f:=fun i=>at0 (fS rows.length (gV owners who) l) i * at0 (rows.getD i []) k) (p:=fun i=>who.contains (at0 owners i)) (l:=aby rows.length) fun i hi hq=>by
      rw[hout i fun q=>?_,afk]
      rw[af4.2 (zw.1 q).2] at hq;cases hq
     rw[<-e1] at e2
     rw[<-e2]
     congr 1
     refine Gq fun j i hj=>?_
     have hjl:=(abm.1 hj).1
     rw[Gs (Gv owners who) hb hj,cU (t:=(gV owners who).map fun i=>rows.getD i []) (by simpa using hjl),acA]
     rw[(abm.1 hj).2]
    rw[e]
    exact this
end Go.NT
end
section
namespace Go.NT
def Gn:Nat:=4
theorem gZ:elem Gn=true:=by decide+kernel
theorem Bg{a b:Int}(h:Qi∣a - b):a%Qi=b%Qi:=aeQ.2 (Int.emod_eq_zero_of_dvd h)
theorem rL{a b:Int}(h:a%Qi=b%Qi):Qi∣a - b:=Int.dvd_of_emod_eq_zero (aeQ.1 h)
theorem vv{a b:Int}(h:Qi∣a - b):aY Gn a=aY Gn b:=mM (Bg h)
theorem wH{a:Int}(h:aY Gn a=1):Qi∣a:=by
 have hf:=mJ a
 have ha:Qi∣a - fmod a:=rL (by unfold fmod;rw[adh _ (aei _)])
 by_cases h0:fmod a=0
 ·rw[h0,Int.sub_zero] at ha;exact ha
 ·exfalso
  have h1:aY Gn (fmod a * eZ (fmod a))=1:=by
   rw[oL gZ,Gd,h,jW,Nat.one_pow];rfl
  have h2:cq (fmod a) (eZ (fmod a))=1:=sG hf h0
  rw[fR] at h2
  have h3:aY Gn (fmod a * eZ (fmod a))=aY Gn 1:=mM (by rw[h2];rfl)
  rw[h1,Jc gZ] at h3
  cases h3
theorem My{a b:Int}(h:aY Gn a=aY Gn b):Qi∣a - b:=by
 refine wH ?_
 rw[Int.sub_eq_add_neg,mO gZ,h]
 exact Jd gZ b
theorem DB{a b:Int}(ha:okF a)(hb:okF b)(h:aY Gn a=aY Gn b):a=b:=by
 have:=Bg (My h)
 rwa [aey ha.1 ha.2,aey hb.1 hb.2] at this
theorem Jw{α:Type}{f:α->Nat}{a:α->Int}:∀{l:List α} (_:∀p∈l,f p=aY Gn (a p)) (k:Int),l.foldl (fun x p=>x * f p%P) (aY Gn k)=aY Gn (k+bW (l.map a)):=by
 intro l
 induction l with
 |nil=>intro _ k;simp[bW]
 |cons p l ih=>
  intro h k
  rw[ado,h p abM,<-mO gZ,ih (fun q hq=>h q (abH _ hq))]
  simp only[abK,bW]
  congr 1;omega
theorem vw{α:Type}{f:α->Nat}{a:α->Int}{l:List α}(h:∀p∈l,f p=aY Gn (a p)):l.foldl (fun x p=>x * f p%P) 1=aY Gn (bW (l.map a)):=by
 have:=Jw h 0
 rw[xq,aeT] at this
 exact this
def oa(a b:List Int):Int:=(aby a.length).foldl (fun x j=>cN x (cq (at0 a j) (at0 b j))) 0
theorem vx{α:Type}{f:α->Int}:∀{l:List α} (x:Int),Qi∣l.foldl (fun x j=>cN x (f j)) x - (x+bW (l.map f)):=by
 intro l
 induction l with
 |nil=>intro x;simp[bW]
 |cons j l ih=>
  intro x
  have h1:=ih (cN x (f j))
  simp only[ado,abK,bW]
  have h2:Qi∣cN x (f j) - (x+f j):=rL (by rw[jU,adh _ (aei _)])
  have:=ad3 h1 h2
  rw[show l.foldl (fun x j=>cN x (f j)) (cN x (f j)) - (cN x (f j)+bW (l.map f))+(cN x (f j) - (x+f j))=l.foldl (fun x j=>cN x (f j)) (cN x (f j)) - (x+(f j+bW (l.map f))) by omega] at this
  exact this
theorem Bh{α:Type}{f:α->Int}{l:List α}{x:Int}(hx:okF x):okF (l.foldl (fun x j=>cN x (f j)) x):=by
 rcases List.eq_nil_or_concat l with rfl|⟨l',a,rfl⟩
 ·exact hx
 ·rw[List.concat_eq_append,List.foldl_append];exact oI _ _
theorem Mz(a b:List Int):okF (oa a b):=Bh iJ
theorem rM(a b:Int):Qi∣cq a b - a * b:=rL (by rw[fR,adh _ (aei _)])
theorem Bi(a b:Int):Qi∣cN a b - (a+b):=rL (by rw[jU,adh _ (aei _)])
theorem jg{a b c:Int}(h:Qi∣a - b)(k:Qi∣b - c):Qi∣a - c:=by
 have:=ad3 h k
 rwa [show a - b+(b - c)=a - c by omega] at this
theorem Ez(a b:List Int):Qi∣oa a b - bW ((aby a.length).map fun j=>at0 a j * at0 b j):=by
 have h1:=vx (f:=fun j=>cq (at0 a j) (at0 b j)) (l:=aby a.length) 0
 rw[aeT] at h1
 exact jg h1 (oO fun j _=>rM _ _)
def lU(aa row:List Int):Nat:=(aby aa.length).foldl (fun x j=>x * aY (at0 aa j).toNat (at0 row j)%P) 1
def bO(rows:List (List Int))(s:List Int):List Int:=rows.map fun r=>oa r s
def ax(s:List Int):List Int:=s.map fun n=>((aY Gn n:Nat):Int)
theorem tF{s:List Int}{j:Nat}(hj:j<s.length):at0 (ax s) j=((aY Gn (at0 s j):Nat):Int):=by
 unfold ax
 have:j<(s.map fun n=>((aY Gn n:Nat):Int)).length:=by simpa using hj
 rw[bN this,bN hj,acA]
theorem Jx{s row:List Int}(hl:row.length=s.length):lU (ax s) row=aY Gn (oa row s):=by
 unfold lU
 have hc:(ax s).length=s.length:=by unfold ax;simp
 rw[hc,vw (a:=fun j=>at0 row j * at0 s j) fun j hj=>by
  rw[tF (abQ.1 hj),abB,<-oL gZ,ad6]]
 refine(vv ?_).symm
 have:=Ez row s
 rwa [hl] at this
theorem zx{s:List Int}:(ax s).all aX=true:=by
 rw[abE]
 intro x hx
 obtain⟨n,-,rfl⟩:=aco.1 hx
 have:=iq gZ n
 unfold aX
 rw[abB,this,adW]
 have h:=(elem_iff.1 this).1
 exact decide_eq_true (by omega)
theorem tW{rows:List (List Int)}{owners who y s:List Int}(h:bJ rows owners who=(y,true,0))(hs:s.length=aK rows):
 Qi∣bW ((aby rows.length).map fun i=>at0 y i * at0 (bO rows s) i) - at0 s 0:=by
 obtain⟨hp,-,h1,h2,h3,h4⟩:=e7 h
 obtain⟨p1,p2,p3,p4⟩:=fk hp
 have hc:=fI hp
 have e1:Qi∣bW ((aby rows.length).map fun i=>at0 y i * at0 (bO rows s) i) - bW ((aby rows.length).map fun i=>bW ((aby (aK rows)).map fun k=>at0 s k * (at0 y i * at0 (rows.getD i []) k))):=by
  refine oO fun i hi=>?_
  have hi:=abQ.1 hi
  have hd:=Ez rows[i] s
  rw[(p3 _ (ab1 hi)).1] at hd
  have e:at0 (bO rows s) i=oa rows[i] s:=by
   unfold bO
   rw[bN (by simpa using hi),acA]
  rw[e,cU hi]
  have:bW ((aby (aK rows)).map fun k=>at0 s k * (at0 y i * at0 rows[i] k))=at0 y i * bW ((aby (aK rows)).map fun k=>at0 rows[i] k * at0 s k):=by
   rw[<-rK]
   exact qC fun k _=>by rw[Int.mul_left_comm,ad6 (at0 s k)]
  rw[this,<-aec]
  exact adv hd
 refine jg e1 ?_
 rw[xB]
 have e2:Qi∣bW ((aby (aK rows)).map fun k=>bW ((aby rows.length).map fun i=>at0 s k * (at0 y i * at0 (rows.getD i []) k))) - bW ((aby (aK rows)).map fun k=>if k=0 then at0 s 0 else 0):=by
  refine oO fun k hk=>?_
  have:=h4 k (abQ.1 hk)
  rw[rK]
  have e:(if k=0 then at0 s 0 else 0)=at0 s k * (if k=0 then 1 else 0):=by
   split
   ·rename_i q;subst q;rw[Int.mul_one]
   ·rw[Int.mul_zero]
  rw[e,<-aec]
  exact adv this
 refine jg e2 ?_
 rw[vh (p:=0) _ hc.1 fun i _ hne=>if_neg hne,if_pos rfl,Int.sub_self]
 exact Int.dvd_zero _
def cT(owners:List Int)(ag:Int):List Nat:=(aby owners.length).filter fun i=>decide (at0 owners i=ag)
def aM(rows:List (List Int))(owners:List Int)(l:List Pr):List Int:=(bJ rows owners (l.map Pr.ag)).1
def fh(y:List Int)(s:List (Int × Int)):Int:=s.foldl (fun a p=>cN a (cq (at0 y p.1.toNat) p.2)) 0
def nF(rows:List (List Int))(aa:List Int)(p:Int × Int):Bool:=inQ p.2&&decide (aY Gn p.2=lU aa (rows.getD p.1.toNat []))
def eQ(rows:List (List Int))(owners aa:List Int)(ag:Int)(s:List (Int × Int)):Bool:=decide (s.map afS=(cT owners ag).map fun(i:Nat)=>(i:Int))&&s.all (nF rows aa)
def gl(l:List Pr)(ag:Int):Option Pr:=l.find? fun p=>decide (p.ag=ag)
def aG(c0:Int)(text:List UInt8)(l:List Pr):Nat:=tw (dA c0 text l) c0 text
def rN(rows:List (List Int))(owners:List Int)(aa:List Int)(text:List UInt8)(l:List Pr)(ag:Int)(s:List (Int × Int))(d f:Int):Int × Int:=
 match gl l ag with
 |none=>(0,1)
 |some x=>
  if !(inQ d&&inQ f) then (0,1)
  else if !eQ rows owners aa ag s then (0,340)
  else if ¬((aY Gn d:Nat):Int)=x.d∨¬((aY Gn f:Nat):Int)=x.e then (0,420)
  else (cN (cN d (cq f (dP (at0 aa 0) text l ag))) (cq (aG (at0 aa 0) text l) (fh (aM rows owners l) s)),0)
def p9(rows:List (List Int))(owners:List Int)(aa:List Int)(text:List UInt8)(l:List Pr)(x:Pr):Nat:=
 gX (at0 aa 0) text l x * ((cT owners x.ag).foldl (fun a i=>a * aY (lU aa (rows.getD i [])) (at0 (aM rows owners l) i * aG (at0 aa 0) text l)%P) 1)%P
def tG(rows:List (List Int))(owners:List Int)(aa:List Int)(text:List UInt8)(l:List Pr)(ag z:Int):Bool × Int:=
 match gl l ag with
 |none=>(false,1)
 |some x=>if !inQ z then (false,1) else (decide (aY Gn z=p9 rows owners aa text l x),0)
def iO(key:Int)(text:List UInt8)(e s:Int):Bool:=aX key&&inQ e&&inQ s&&decide (e=((tw ((aY Gn s * aY key.toNat (-e)%P:Nat):Int) key text:Nat):Int))
theorem Jy(b:List UInt8):mK b<Q:=acK _ (by decide)
theorem iP{x:Int}:inQ x=true↔okF x:=by unfold inQ okF;simp
theorem Bj(tag:List UInt8)(v:Vl):inQ ((mL tag v:Nat):Int)=true:=by
 rw[iP]
 have:=Jy (dV tag (fB v))
 unfold mL okF
 rw[qw]
 omega
theorem Gy{x n s:Int}{text:List UInt8}{e:Nat}(he:e=tw ((aY Gn n:Nat):Int) ((aY Gn x:Nat):Int) text)(hs:okF s)(h:Qi∣s - (n+e * x)):iO ((aY Gn x:Nat):Int) text e s=true:=by
 unfold iO
 have hx:=iq gZ x
 have e1:aX ((aY Gn x:Nat):Int)=true:=by
  unfold aX
  rw[abB,hx,adW]
  have h:=(elem_iff.1 hx).1
  exact decide_eq_true (by omega)
 have e2:inQ ((e:Nat):Int)=true:=by rw[he];exact Bj _ _
 have e3:aY Gn s * aY (aY Gn x) (-(e:Int))%P=aY Gn n:=by
  rw[<-oL gZ,<-mO gZ]
  refine vv ?_
  have:s+x * -(e:Int) - n=s - (n+e * x):=by rw[Int.mul_neg,ad6 x];omega
  rw[this];exact h
 rw[e1,e2,iP.2 hs,abB,e3,<-he]
 simp
end Go.NT
end
section
namespace Go.NT
def mS(f:Nat->Int)(a:List Int)(c k:Nat):List Int:=(aby a.length).map fun j=>if c<=j/\j<k then f j else at0 a j
section
variable {f:Nat->Int} {a own:List Int} {c k j r w:Nat} {t:List (List Int)}
theorem gm:(mS f a c k).length=a.length:=by unfold mS;simp
theorem rO(hj:j<a.length):at0 (mS f a c k) j=if c<=j/\j<k then f j else at0 a j:=by
 rw[bN (by rw[gm];exact hj)]
 unfold mS
 rw[acA,adf]
theorem Gz:mS f a c c=a:=by
 refine jV gm fun j hj=>?_
 rw[gm] at hj
 rw[rO hj,if_neg (by omega)]
theorem GA(hc:c<=k)(hk:k<a.length):(mS f a c k).set k (f k)=mS f a c (k+1):=by
 refine jV (by rw[aca,gm,gm]) fun j hj=>?_
 rw[aca,gm] at hj
 rw[ui (by rw[gm];exact hk),rO hj,rO hj]
 by_cases hjk:j=k
 ·subst hjk;rw[if_pos rfl,if_pos (by omega)]
 ·rw[if_neg hjk]
  by_cases q:c<=j/\j<k
  ·rw[if_pos q,if_pos (by omega)]
  ·rw[if_neg q,if_neg (by omega)]
theorem DC{n:Int}(hc:c<=a.length):mS (fun j=>cq (at0 a j) n) a c a.length=da c a n:=by
 unfold da
 refine jV (by rw[gm,abx,abu,abI,abS];omega) fun j hj=>?_
 rw[gm] at hj
 rw[rO hj,kJ hc]
 by_cases q:j<c
 ·rw[if_neg (by omega),if_pos q]
 ·rw[if_pos (by omega),if_neg q]
  have hm:j - c<((a.drop c).map (cq · n)).length:=by rw[abu,abS];omega
  rw[bN hm,acA,List.getElem_drop,bN hj]
  congr 2
  omega
def pP(c:Nat)(own:List Int)(r j:Nat)(t:List (List Int)):List (List Int):=t.mapIdx fun i a=>if i<j/\i≠r then lE c a own else a
theorem Bk:(pP c own r j t).length=t.length:=by unfold pP;simp
theorem gJ(i:Nat):(pP c own r j t)[i]?=t[i]?.map fun a=>if i<j/\i≠r then lE c a own else a:=by
 unfold pP;rw[afg]
theorem GB:pP c own r 0 t=t:=by
 apply acG
 intro i
 rw[gJ]
 cases t[i]?<;>simp
theorem GC:pP c own r (r+1) t=pP c own r r t:=by
 apply acG
 intro i
 rw[gJ,gJ]
 congr 1
 funext a
 by_cases h:i<r/\i≠r
 ·rw[if_pos h,if_pos (by omega)]
 ·rw[if_neg h,if_neg (by omega)]
theorem GD:(pP c own r j t)[j]?=t[j]?:=by
 rw[gJ];cases t[j]?<;>simp
theorem Jz:(pP c own r j t)[r]?=t[r]?:=by
 rw[gJ];cases t[r]?<;>simp
theorem GF{a:List Int}(hj:t[j]?=some a)(hr:j≠r):(pP c own r j t).set j (lE c a own)=pP c own r (j+1) t:=by
 apply acG
 intro i
 rw[aci,Bk]
 have hl:=(abm.1 hj).1
 split
 ·rename_i e;subst e
  try rw[if_pos hl]
  rw[gJ,hj,abJ,if_pos ⟨Nat.lt_succ_self _,hr⟩]
 ·rename_i e
  rw[gJ,gJ]
  congr 1
  funext a
  by_cases h:i<j/\i≠r
  ·rw[if_pos h,if_pos (by omega)]
  ·rw[if_neg h,if_neg (by omega)]
theorem xD{j:Nat}(hr:r<=j)(hj:j<=t.length)(hz:∀k,r<=k->k<j->at0 (t.getD k []) c=0)(he:j<t.length->at0 (t.getD j []) c≠0):lF t r c=if j=t.length then none else some j:=by
 cases hf:lF t r c with
 |none=>
  by_cases e:j=t.length
  ·rw[if_pos e]
  ·exact absurd (vg hf (by omega) hr) (he (by omega))
 |some k=>
  obtain⟨k1,k2,k3⟩:=jf hf
  have hkj:j<=k:=by
   rcases abL k j with h|h
   ·exact absurd (hz k k2 h) k3
   ·exact h
  rw[if_neg (by omega)]
  unfold lF at hf
  rw[List.find?_eq_some_iff_getElem] at hf
  obtain⟨-,i,hi,hik,hall⟩:=hf
  rw[adf] at hik
  subst hik
  rcases abL j i with h|h
  ·have:=hall j h
   rw[adf] at this
   simp only[ac0,Bool.and_eq_false_imp,decide_eq_true_eq,Bool.not_eq_false',decide_eq_true_eq] at this
   exact absurd (this hr) (he (by omega))
  ·rw[Nat.le_antisymm h hkj]
theorem JA{pv:List Nat}{k:Nat}{b o:List Int}(hf:lF t pv.length c=some k)(hb:t[k]?=some b)(ho:t[pv.length]?=some o):
 pZ (t,pv) c=(pP c (da c b (eZ (at0 b c))) pv.length t.length (((t.set pv.length b).set k o).set pv.length (da c b (eZ (at0 b c)))),pv++[c]):=by
 have hk:=(abm.1 hb).1
 have hr:=(abm.1 ho).1
 have gb:t.getD k []=b:=by rw[abw,hb];rfl
 have go:t.getD pv.length []=o:=by rw[abw,ho];rfl
 unfold pZ
 simp only[hf,gb,go]
 congr 1
 generalize da c b (eZ (at0 b c))=s
 have e1:((t.set pv.length b).set k o).set pv.length s=(t.set k o).set pv.length s:=by
  by_cases e:k=pv.length
  ·subst e;simp
  ·rw[List.set_comm _ _ (fun q=>e q.symm),aeD]
 rw[e1]
 apply acG
 intro i
 rw[afg,gJ]
 by_cases e:i=pv.length
 ·subst e
  rw[List.getElem?_set_self (by rw[aca];exact hr)]
  simp
 ·cases hi:((t.set k o).set pv.length s)[i]? with
  |none=>rfl
  |some x=>
   have:=(abm.1 hi).1
   rw[aca,aca] at this
   simp[e,this]
end
end Go.NT
end
section
namespace Go.NT
def O1(l:List Pr)(ld le:Int->Int):Prop:=∀p∈l,p.d=((aY Gn (ld p.ag):Nat):Int)/\p.e=((aY Gn (le p.ag):Nat):Int)
theorem Bl(tag:List UInt8)(v:Vl):okF ((mL tag v:Nat):Int):=iP.1 (Bj tag v)
theorem sM(x:Nat)(tag:List UInt8)(v:Vl):y7 x (mL tag v)=aY x ((mL tag v:Nat):Int):=by
 unfold aY
 rw[ph (Bl tag v),abB]
theorem xE{text:List UInt8}{l:List Pr}{p:Pr}{d e:Int}(hd:p.d=((aY Gn d:Nat):Int))(he:p.e=((aY Gn e:Nat):Int))(c0:Int):
 gX c0 text l p=aY Gn (d+e * ((dP c0 text l p.ag:Nat):Int)):=by
 unfold gX
 rw[hd,he,abB,abB]
 unfold dP
 rw[sM,<-oL gZ,<-mO gZ]
theorem GG{text:List UInt8}{l:List Pr}{ld le:Int->Int}(h:O1 l ld le)(c0:Int):
 dA c0 text l=aY Gn (bW (l.map fun p=>ld p.ag+le p.ag * ((dP c0 text l p.ag:Nat):Int))):=by
 unfold dA
 exact vw fun p hp=>xE (h p hp).1 (h p hp).2 c0
def gK(owners sh:List Int)(k:Int):List (Int × Int):=(cT owners k).map fun i=>((i:Nat),at0 sh i)
def nG(y sh:List Int)(L:List Nat):Int:=bW (L.map fun i=>at0 y i * at0 sh i)
theorem JB(y owners sh:List Int)(k:Int):Qi∣fh y (gK owners sh k) - nG y sh (cT owners k):=by
 unfold fh gK nG
 rw[List.foldl_map]
 have h1:=vx (f:=fun i:Nat=>cq (at0 y i) (at0 sh i)) (l:=cT owners k) 0
 rw[aeT] at h1
 have e:(fun(a:Int) (i:Nat)=>cN a (cq (at0 y (((i:Nat):Int)).toNat) (at0 sh i)))=fun a i=>cN a (cq (at0 y i) (at0 sh i)):=by
  funext a i
  rw[abB]
 simp only[e]
 exact jg h1 (oO fun i _=>rM _ _)
theorem GH{α:Type}{f:α->Int}{p:α->Bool}:∀{l:List α},bW ((l.filter p).map f)=bW (l.map fun i=>if p i=true then f i else 0):=by
 intro l
 induction l with
 |nil=>rfl
 |cons x l ih=>
  cases hp:p x
  ·rw[adX (by simp[hp]),ih]
   simp only[abK,bW,hp]
   simp
  ·rw[adY hp]
   simp only[abK,bW,hp,ih]
   simp
theorem GI{n v:Int}:∀{who:List Int},who.Nodup->bW (who.map fun k=>if decide (n=k)=true then v else 0)=if n∈who then v else 0:=by
 intro who
 induction who with
 |nil=>intro _;rfl
 |cons k l ih=>
  intro h
  obtain⟨h1,h2⟩:=aet.1 h
  simp only[abK,bW,ih h2]
  by_cases hk:n=k
  ·subst hk
   simp[h1]
  ·simp[hk]
theorem GJ{owners y sh:List Int}{who:List Int}(hn:who.Nodup)(h0:∀i,at0 owners i∉who->at0 y i=0):
 bW (who.map fun k=>nG y sh (cT owners k))=bW ((aby owners.length).map fun i=>at0 y i * at0 sh i):=by
 have e1:(fun k=>nG y sh (cT owners k))=fun k=>bW ((aby owners.length).map fun i=>if decide (at0 owners i=k)=true then at0 y i * at0 sh i else 0):=by
  funext k
  exact GH
 rw[e1,xB]
 refine qC fun i _=>?_
 rw[GI hn]
 split
 ·rfl
 ·rename_i h
  rw[h0 i h,afk]
theorem nH:∀{last:Int} {who:List Int},cS last who=true->(∀n∈who,last<n/\n<=63)/\who.Nodup:=by
 intro last who
 induction who generalizing last with
 |nil=>intro _;exact⟨fun n hn=>by simp at hn,.nil⟩
 |cons n l ih=>
  intro h
  rw[cS] at h
  simp only[abr,decide_eq_true_eq] at h
  obtain⟨h1,h2⟩:=ih h.2
  refine⟨fun m hm=>?_,aet.2 ⟨fun hm=>?_,h2⟩⟩
  ·rcases acd.1 hm with rfl|hm
   ·exact h.1
   ·have:=h1 m hm
    exact⟨by omega,this.2⟩
  ·have:=h1 n hm
   omega
def fD(rows:List (List Int))(owners aa:List Int)(text:List UInt8)(l:List Pr)(k d f:Int)(s:List (Int × Int)):Int:=
 cN (cN d (cq f (dP (at0 aa 0) text l k))) (cq (aG (at0 aa 0) text l) (fh (aM rows owners l) s))
theorem JC{rows:List (List Int)}{owners aa:List Int}{text:List UInt8}{l:List Pr}{k d f:Int}{s:List (Int × Int)}:okF (fD rows owners aa text l k d f s):=oI _ _
theorem Bm(rows:List (List Int))(owners aa:List Int)(text:List UInt8)(l:List Pr)(k d f:Int)(sh:List Int):
 Qi∣fD rows owners aa text l k d f (gK owners sh k) - (d+f * ((dP (at0 aa 0) text l k:Nat):Int)+((aG (at0 aa 0) text l:Nat):Int) * nG (aM rows owners l) sh (cT owners k)):=by
 unfold fD
 generalize ((dP (at0 aa 0) text l k:Nat):Int)=b
 generalize ((aG (at0 aa 0) text l:Nat):Int)=c
 have h1:=JB (aM rows owners l) owners sh k
 generalize fh (aM rows owners l) (gK owners sh k)=w at *
 generalize nG (aM rows owners l) sh (cT owners k)=v at *
 have h2:=Bi (cN d (cq f b)) (cq c w)
 have h3:=Bi d (cq f b)
 have h4:=rM f b
 have h5:=rM c w
 have h6:Qi∣c * (w - v):=adv h1
 rw[aec] at h6
 have:=ad3 (ad3 (ad3 h2 h3) (ad3 h4 h5)) h6
 refine(congrArg (Qi∣·) ?_).mp this
 generalize f * b=x1
 generalize c * w=x2
 generalize c * v=x3
 omega
theorem GK{rows:List (List Int)}{owners y s:List Int}{text:List UInt8}{l:List Pr}{ld le:Int->Int}(ha:bJ rows owners (l.map Pr.ag)=(y,true,0))(hs:s.length=aK rows):
 Qi∣bW ((l.map Pr.ag).map fun k=>fD rows owners (ax s) text l k (ld k) (le k) (gK owners (bO rows s) k)) -
  (bW ((l.map Pr.ag).map fun k=>ld k+le k * ((dP (at0 (ax s) 0) text l k:Nat):Int))+((aG (at0 (ax s) 0) text l:Nat):Int) * at0 s 0):=by
 obtain⟨hp,hw,h1,h2,h3,h4⟩:=e7 ha
 obtain⟨p1,-,-,-⟩:=fk hp
 have hn:=(nH hw).2
 have e1:=oO (q:=Qi) (l:=l.map Pr.ag) (f:=fun k=>fD rows owners (ax s) text l k (ld k) (le k) (gK owners (bO rows s) k))
  (g:=fun k=>ld k+le k * ((dP (at0 (ax s) 0) text l k:Nat):Int)+((aG (at0 (ax s) 0) text l:Nat):Int) * nG (aM rows owners l) (bO rows s) (cT owners k))
  fun k _=>Bm rows owners (ax s) text l k (ld k) (le k) (bO rows s)
 refine jg e1 ?_
 rw[Bd,rK]
 have hy:aM rows owners l=y:=by unfold aM;rw[ha]
 rw[hy,GJ hn h3,<-p1]
 have h5:=tW ha hs
 have h6:Qi∣((aG (at0 (ax s) 0) text l:Nat):Int) * (bW ((aby rows.length).map fun i=>at0 y i * at0 (bO rows s) i) - at0 s 0):=adv h5
 rw[aec] at h6
 refine(congrArg (Qi∣·) ?_).mp h6
 omega
theorem JD{s:List Int}(h:0<s.length):at0 (ax s) 0=((aY Gn (at0 s 0):Nat):Int):=tF h
theorem DD(z:List Int):Qi∣z.foldl cN 0 - bW z:=by
 have:=vx (f:=fun x:Int=>x) (l:=z) 0
 rw[aeT,List.map_id'] at this
 exact this
theorem DE(z:List Int):okF (z.foldl cN 0):=Bh (f:=fun x:Int=>x) iJ
theorem QU{rows:List (List Int)}{owners y s:List Int}{text:List UInt8}{l:List Pr}{ld le:Int->Int}(ha:bJ rows owners (l.map Pr.ag)=(y,true,0))(hs:s.length=aK rows)(hl:O1 l ld le):
 iO (at0 (ax s) 0) text ((aG (at0 (ax s) 0) text l:Nat):Int) (((l.map Pr.ag).map fun k=>fD rows owners (ax s) text l k (ld k) (le k) (gK owners (bO rows s) k)).foldl cN 0)=true:=by
 obtain⟨hp,-⟩:=e7 ha
 have hpos:0<s.length:=by have:=(fI hp).1;omega
 have h1:=GK (text:=text) (ld:=ld) (le:=le) ha hs
 have h2:=DD ((l.map Pr.ag).map fun k=>fD rows owners (ax s) text l k (ld k) (le k) (gK owners (bO rows s) k))
 have h3:=jg h2 h1
 have hpt:=GG (text:=text) hl (at0 (ax s) 0)
 have e:(l.map Pr.ag).map (fun k=>ld k+le k * ((dP (at0 (ax s) 0) text l k:Nat):Int))=l.map fun p=>ld p.ag+le p.ag * ((dP (at0 (ax s) 0) text l p.ag:Nat):Int):=by
  rw[ad5];rfl
 rw[e] at h3
 have hc:aG (at0 (ax s) 0) text l=tw ((dA (at0 (ax s) 0) text l:Nat):Int) (at0 (ax s) 0) text:=rfl
 rw[hpt] at hc
 generalize aG (at0 (ax s) 0) text l=c at *
 generalize bW (l.map fun p=>ld p.ag+le p.ag * ((dP (at0 (ax s) 0) text l p.ag:Nat):Int))=n at *
 rw[JD hpos] at *
 exact Gy hc (DE _) h3
theorem sN{rows:List (List Int)}{s:List Int}{i:Nat}(h:i<rows.length):at0 (bO rows s) i=oa (rows.getD i []) s:=by
 unfold bO
 rw[bN (by simpa using h),acA,cU h]
theorem JE{rows:List (List Int)}{owners s:List Int}{text:List UInt8}{l:List Pr}{x:Pr}{d f:Int}(hp:bC rows owners=0)(hs:s.length=aK rows)(hd:x.d=((aY Gn d:Nat):Int))(he:x.e=((aY Gn f:Nat):Int)):
 p9 rows owners (ax s) text l x=aY Gn (fD rows owners (ax s) text l x.ag d f (gK owners (bO rows s) x.ag)):=by
 obtain⟨p1,p2,p3,p4⟩:=fk hp
 unfold p9
 rw[xE hd he,vw (a:=fun i=>at0 (aM rows owners l) i * at0 (bO rows s) i * ((aG (at0 (ax s) 0) text l:Nat):Int)) fun i hi=>?_]
 rotate_left 1
 ·have hi:i<rows.length:=by
   rw[p1]
   unfold cT at hi
   exact abQ.1 (ac7.1 hi).1
  rw[Jx (by rw[hs,cU hi];exact(p3 _ (ab1 _)).1),<-oL gZ,sN hi]
  congr 1
  rw[ad6 (at0 (aM rows owners l) i) (oa _ _),Int.mul_assoc]
 rw[<-mO gZ]
 refine(vv ?_).symm
 have h1:=Bm rows owners (ax s) text l x.ag d f (bO rows s)
 have e:bW ((cT owners x.ag).map fun i=>at0 (aM rows owners l) i * at0 (bO rows s) i * ((aG (at0 (ax s) 0) text l:Nat):Int))=((aG (at0 (ax s) 0) text l:Nat):Int) * nG (aM rows owners l) (bO rows s) (cT owners x.ag):=by
  unfold nG
  rw[<-rK]
  exact qC fun i _=>ad6 _ _
 rw[e]
 exact h1
theorem JF{rows:List (List Int)}{owners s:List Int}{text:List UInt8}{l:List Pr}{x:Pr}{d f z:Int}(hp:bC rows owners=0)(hs:s.length=aK rows)(hd:x.d=((aY Gn d:Nat):Int))(he:x.e=((aY Gn f:Nat):Int))(hz:okF z):
 decide (aY Gn z=p9 rows owners (ax s) text l x)=decide (z=fD rows owners (ax s) text l x.ag d f (gK owners (bO rows s) x.ag)):=by
 rw[JE hp hs hd he,decide_eq_decide]
 exact⟨fun h=>DB hz JC h,fun h=>by rw[h]⟩
theorem GL{rows:List (List Int)}{owners s:List Int}(hp:bC rows owners=0)(hs:s.length=aK rows)(k:Int):eQ rows owners (ax s) k (gK owners (bO rows s) k)=true:=by
 obtain⟨p1,p2,p3,p4⟩:=fk hp
 unfold eQ gK
 rw[abr]
 refine⟨by simp[ad5,Function.comp_def],?_⟩
 rw[abE]
 intro q hq
 obtain⟨i,hi,rfl⟩:=aco.1 hq
 have hi:i<rows.length:=by
  rw[p1]
  unfold cT at hi
  exact abQ.1 (ac7.1 hi).1
 unfold nF
 simp only[abB]
 have hpe:lU (ax s) (rows.getD i [])=aY Gn (oa (rows.getD i []) s):=Jx (by rw[hs,cU hi];exact(p3 _ (ab1 _)).1)
 rw[sN hi,iP.2 (Mz _ _),Bool.true_and]
 exact decide_eq_true hpe.symm
theorem EA{l:List Pr}{last:Int}(h:dy last l=true){p:Pr}(hp:p∈l):gl l p.ag=some p:=by
 induction l generalizing last with
 |nil=>simp at hp
 |cons q l ih=>
  rw[dy] at h
  simp only[abr,decide_eq_true_eq] at h
  unfold gl
  rw[List.find?_cons]
  rcases acd.1 hp with rfl|hp
  ·simp
  ·have hgt:∀{l:List Pr} {last:Int},dy last l=true->∀p∈l,last<p.ag:=by
    intro l
    induction l with
    |nil=>intro _ _ p hp;simp at hp
    |cons q l ih=>
     intro last h p hp
     rw[dy] at h
     simp only[abr,decide_eq_true_eq] at h
     rcases acd.1 hp with rfl|hp
     ·exact h.1.1.1.1.1.1
     ·have:=ih h.2 p hp
      have:=h.1.1.1.1.1.1
      omega
   have:=hgt h.2 p hp
   have hne:decide (q.ag=p.ag)=false:=decide_eq_false (by omega)
   rw[hne]
   exact ih h.2 hp
theorem MA{rows:List (List Int)}{owners s:List Int}{text:List UInt8}{l:List Pr}{last:Int}(hp:bC rows owners=0)(hs:s.length=aK rows)(hl:dy last l=true){x:Pr}(hx:x∈l){d f:Int}(hd:x.d=((aY Gn d:Nat):Int))(he:x.e=((aY Gn f:Nat):Int))(od:okF d)(of_:okF f):
 rN rows owners (ax s) text l x.ag (gK owners (bO rows s) x.ag) d f=(fD rows owners (ax s) text l x.ag d f (gK owners (bO rows s) x.ag),0):=by
 unfold rN
 rw[EA hl hx]
 simp only[iP.2 od,iP.2 of_,GL hp hs,hd,he]
 simp[fD]
end Go.NT
end
section
namespace Go.Proofs.YtnfciiiohoafaaaGreatDoor
open Go.AE Go.NT
theorem WK:jo prims []:=fun g h=>nomatch h
theorem VO(a n:Int)(h:ae):W.call 132 [im a,im n] h=some (.ret (.tuple [im (iL a n),im (lG a)]),h):=by
 have ca:=Ul a
 unfold iL lG
 by_cases ha:aX a=true
 ·rw[if_pos ha,if_pos ha]
  rw[ha] at ca
  obtain⟨x,rfl,hx,x1,x2⟩:=px ha
  have ce:=UU n
  have hlt:=Ep n
  have hm:=mN n
  have cp:=UG (aY x n) x (fmod n).toNat (by have:Q=1073741789:=rfl;omega) (pN.start x2 (by have:Q=1073741789:=rfl;omega))
  rw[hm] at cp
  simp only[abB]
  clear ha hx x1 x2 hlt hm
  unfold im at *
  refine ar rfl Tryz.func132 rfl ?_
  exact YX @WJ
 ·have ha':aX a=false:=by simpa using ha
  rw[if_neg ha,if_neg ha]
  rw[ha'] at ca
  unfold im at *
  refine ar rfl Tryz.func132 rfl ?_
  exact YX @WJ
theorem VP(a b:Int)(h:ae):W.call 140 [im a,im b] h=some (.ret (.tuple [im (pO a b),im (mP a b)]),h):=by
 have ca:=Ul a
 have cb:=Ul b
 unfold pO mP
 by_cases ha:aX a=true
 ·by_cases hb:aX b=true
  ·rw[if_pos ⟨ha,hb⟩,if_pos ⟨ha,hb⟩]
   rw[ha] at ca
   rw[hb] at cb
   obtain⟨x,rfl,-,-,x2⟩:=px ha
   obtain⟨y,rfl,-,-,y2⟩:=px hb
   obtain⟨m1,m2,-⟩:=mul_tmod x2 y2
   simp only[abB]
   have e1:((x:Nat):Int) * (y:Nat)=((x * y:Nat):Int):=(Int.natCast_mul _ _).symm
   have e3:((x * y:Nat):Int).tmod 2147483579=((x * y%P:Nat):Int):=rE (x * y) 2147483579
   rw[e1] at m1 m2
   clear ha hb
   unfold im at *
   refine ar rfl Tryz.func140 rfl ?_
   exact YX @VN
  ·have hb':aX b=false:=by simpa using hb
   rw[if_neg (fun q=>hb q.2),if_neg (fun q=>hb q.2)]
   rw[ha] at ca
   rw[hb'] at cb
   unfold im at *
   refine ar rfl Tryz.func140 rfl ?_
   exact YX @VN
 ·have ha':aX a=false:=by simpa using ha
  rw[if_neg (fun q=>ha q.1),if_neg (fun q=>ha q.1)]
  rw[ha'] at ca
  unfold im at *
  refine ar rfl Tryz.func140 rfl ?_
  exact YX @VN
theorem XJ:Tryz.f223.results.toList=[.tmp 2]:=kZq
theorem XK:Tryz.f224.results.toList=[.tmp 4]:=kZq
theorem WL:Tryz.f225.results.toList=[.cell 0 242]:=kZq
theorem UW:Tryz.f190.results.toList=[.cell 2 177]:=kZq
theorem WV(v:BitVec 32)(n:Nat)(h0:0<n)(hn:n<32)(h:ae):W.call 224 [w32 v,im (n:Nat)] h=some (.ret (w32 (NT.ror v n)),h):=by
 have e1:IntKind.i64.wrap (32 - ((n:Nat):Int))=((32 - n:Nat):Int):=by rw[bT (by omega) (by omega)];omega
 have s1:∀t x y,bB Tryz.prog .shr t x y (w32 v) (.v (.int .i64 (n:Nat)))=some (w32 (v>>>n)):=fun t x y=>nQ hn
 have s2:∀t x y,bB Tryz.prog .shl t x y (w32 v) (.v (.int .i64 ((32 - n:Nat):Int)))=some (w32 (v<<<(32 - n))):=fun t x y=>oE (by omega)
 have e3:NT.ror v n=(v>>>n)|||(v<<<(32 - n)):=rfl
 rw[e3]
 unfold im
 refine ar rfl Tryz.func224 rfl ?_
 repeat' (first|simp(maxSteps:=999999)(disch:=first|exact dZ|fail)only[gW,reduceIte,abn,gBQ,XK,pM, *]|(refine dX ?_ ?_<;>(intro _;try omega))|refine bf WK kZq ?_)
theorem VQ{a0 a1 a2 a3:Nat}(h0:a0<256)(h1:a1<256)(h2:a2<256)(h3:a3<256):(((a0<<<24)|||(a1<<<16))|||(a2<<<8))|||a3=(a0 * 256+a1) * 256 * 256+a2 * 256+a3:=by
 have e0:a0<<<24=(a0<<<8)<<<16:=by rw[<-afG]
 have e1:a1<<<16=(a1<<<8)<<<8:=by rw[<-afG]
 have e2:(a0<<<8)<<<16=((a0<<<8)<<<8)<<<8:=by rw[<-afG (a0<<<8) 8 8]
 rw[e0,e1,e2,<-aeV,<-aeV,<-aeV,<-ads (show a1<2^8 from h1),<-ads (show a2<2^8 from h2),<-ads (show a3<2^8 from h3),adK,adK,adK]
 omega
theorem Wi{b:List UInt8}:(BitVec.ofNat 32 (bAt b 0).toNat<<<24|||BitVec.ofNat 32 (bAt b 1).toNat<<<16)|||BitVec.ofNat 32 (bAt b 2).toNat<<<8|||BitVec.ofNat 32 (bAt b 3).toNat=rz b 0:=by
 have h0:=A7 (bAt b 0);have h1:=A7 (bAt b 1);have h2:=A7 (bAt b 2);have h3:=A7 (bAt b 3)
 unfold rz
 rw[<-VQ h0 h1 h2 h3]
 generalize (bAt b 0).toNat=a0 at *
 generalize (bAt b 1).toNat=a1 at *
 generalize (bAt b 2).toNat=a2 at *
 generalize (bAt b 3).toNat=a3 at *
 rw[BitVec.ofNat_or,BitVec.ofNat_or,BitVec.ofNat_or]
 have sh:∀a k:Nat,BitVec.ofNat 32 (a<<<k)=BitVec.ofNat 32 a<<<k:=fun a k=>by
  apply BitVec.eq_of_toNat_eq
  rw[BitVec.toNat_shiftLeft,BitVec.toNat_ofNat,BitVec.toNat_ofNat,adK,adK,Nat.mod_mul_mod]
 rw[sh,sh,sh]
theorem cvw(c:UInt8)(h:ae):fm Tryz.prog h 5 42 (u8v c)=some (w32 (BitVec.ofNat 32 c.toNat),h):=by
 unfold u8v
 rw[OL]
 unfold w32
 have:=A7 c
 rw[wrap32,BitVec.toNat_ofNat]
 congr 3
theorem Wj{h:ae}{b:List UInt8}{i:Nat}(hi:i<b.length):ai Tryz.prog Gt h 5 (.elem 1 (u8s b) i 0)=some (u8v (bAt b i)):=by
 rw[ez ag5 (row:=dp (bAt b i)) (by
  rw[abF,abo hi]
  unfold bAt
  rw[abw,abo hi];rfl)]
 rfl
theorem YH{t:TypeId}{x y:Operand}{u:BitVec 32}:bB Tryz.prog .shl t x y (w32 u) (.v (.int .u64 24))=some (w32 (u<<<24))/\bB Tryz.prog .shl t x y (w32 u) (.v (.int .u64 16))=some (w32 (u<<<16))/\bB Tryz.prog .shl t x y (w32 u) (.v (.int .u64 8))=some (w32 (u<<<8)):=⟨oE (n:=24) (by decide),oE (n:=16) (by decide),oE (n:=8) (by decide)⟩
theorem VR(b:List UInt8)(hb:4<=b.length)(k:Tok)(h:ae):W.call 223 [.list k 1 (u8s b)] h=some (.ret (w32 (rz b 0)),h):=by
 have ix:∀n:Nat,n<b.length->ay Tryz.prog 28 (.list k 1 (u8s b)) (.v (.int .i64 (n:Nat)))=some (.elem 1 (u8s b) n 0):=fun n hn=>by
  rw[al Tryz.underlying28 sz5 (by omega) (by rw[abu];omega),abB]
 have i0:=ix 0 (by omega);have i1:=ix 1 (by omega);have i2:=ix 2 (by omega);have i3:=ix 3 (by omega)
 have l0:=Wj (h:=h) (show 0<b.length by omega);have l1:=Wj (h:=h) (show 1<b.length by omega);have l2:=Wj (h:=h) (show 2<b.length by omega);have l3:=Wj (h:=h) (show 3<b.length by omega)
 rw[<-Wi]
 simp only[acT,Int.natCast_one] at i0 i1
 have i2:ay Tryz.prog 28 (.list k 1 (u8s b)) (.v (.int .i64 2))=some (.elem 1 (u8s b) 2 0):=i2
 have i3:ay Tryz.prog 28 (.list k 1 (u8s b)) (.v (.int .i64 3))=some (.elem 1 (u8s b) 3 0):=i3
 clear ix
 refine ar rfl Tryz.func223 rfl ?_
 repeat' (first|simp(maxSteps:=999999)(disch:=first|exact dZ|fail)only[gW,reduceIte,abn,gBQ,XJ,cvw,YH,pM, *]|(refine dX ?_ ?_<;>(intro _;try omega))|refine bf WK kZq ?_)
theorem QV:Tryz.f210.results.toList=[.tmp 2]:=kZq
theorem QW{t:TypeId}{x y:Operand}{n:Nat}(hn:n<=4611686018427387903):bB Tryz.prog .shl t x y (.v (.int .u64 (n:Nat))) (.v (.int .u64 1))=some (.v (.int .u64 ((2 * n:Nat):Int))):=by
 rw[y0 (by decide)]
 congr 3
 show IntKind.u64.wrap (((n:Nat):Int) * 2)=_
 unfold IntKind.wrap
 simp[IntKind.signed,IntKind.bits]
 omega
theorem QX{t:TypeId}{x y:Operand}{n:Nat}(hn:n<=4611686018427387903):bB Tryz.prog .shr t x y (.v (.int .i64 (n:Nat))) (.v (.int .u64 63))=some (.v (.int .i64 0)):=by
 rw[nr (by decide)]
 congr 3
 show((n:Nat):Int).fdiv (2^63)=_
 rw[ac3 _ (by decide)]
 omega
theorem SW{t:TypeId}{x y:Operand}{n:Nat}(hn:n<=4611686018427387903):bB Tryz.prog .xor t x y (.v (.int .u64 ((2 * n:Nat):Int))) (.v (.int .u64 0))=some (.v (.int .u64 ((2 * n:Nat):Int))):=by
 rw[Ej]
 congr 3
 have e1:(BitVec.ofInt IntKind.u64.bits ((2 * n:Nat):Int)^^^BitVec.ofInt IntKind.u64.bits 0).toNat=2 * n:=by
  show(BitVec.ofInt 64 ((2 * n:Nat):Int)^^^0#64).toNat=2 * n
  rw[BitVec.xor_zero,BitVec.toNat_ofInt];omega
 rw[e1]
 unfold IntKind.wrap
 simp[IntKind.signed,IntKind.bits]
 omega
theorem JG{n:Nat}(hn:n<18446744073709551616):IntKind.u64.wrap ((n:Nat):Int)=((n:Nat):Int):=by
 unfold IntKind.wrap
 simp[IntKind.signed,IntKind.bits]
 omega
theorem Bn(n:Nat)(hn:n<=4611686018427387903)(h:ae):W.call 210 [.v (.int .i64 (n:Nat))] h=some (.ret (.v (.int .u64 (oK n:Nat))),h):=by
 have e:oK (n:Int)=2 * n:=by unfold oK;rw[if_pos (by omega),abB]
 rw[e]
 have e1:=JG (n:=n) (by omega)
 have e2:IntKind.u64.wrap 0=0:=rfl
 have s1:=fun t x y=>QW (t:=t) (x:=x) (y:=y) hn
 have s2:=fun t x y=>QX (t:=t) (x:=x) (y:=y) hn
 have s3:=fun t x y=>SW (t:=t) (x:=x) (y:=y) hn
 refine ar rfl Tryz.func210 rfl ?_
 exact gz2 @QV @jY
def L1:List FuncId:=[28,29,30,46,65,66,69,78,82,94,132,138,140,194,201,210,223,224]
noncomputable def DF:FuncId->Option (List AV->ae->Option (AV × ae)):=fx W L1
noncomputable abbrev W1:=whole Tryz.prog Gt DF
theorem Bo:jo DF L1:=nE
theorem bV{t:Nat}(k:Tok):oF t (di k)=true:=by cases k<;>rfl
theorem iQ:∀b:List UInt8,eF (u8s b)=u8s b
 | []=>rfl
 |c::b=>by
  show bM (dp c)::eF (u8s b)=_
  rw[iQ b];rfl
theorem fT{n l t:Nat}:∀b:List UInt8,gH n l t (u8s b)=true
 | []=>rfl
 |c::b=>by
  show(bA n l t (dp c)&&gH n l t (u8s b))=true
  rw[fT b];rfl
theorem xF:∀l:List Int,eF (ints l)=ints l
 | []=>rfl
 |c::b=>by
  show bM (nC c)::eF (ints b)=_
  rw[xF b];rfl
theorem fJ{n l t:Nat}:∀b:List Int,gH n l t (ints b)=true
 | []=>rfl
 |c::b=>by
  show(bA n l t (nC c)&&gH n l t (ints b))=true
  rw[fJ b];rfl
section
variable (a b n x:Int)
theorem SX:∀h,W1.call 28 [im a,im b] h=some (.ret (im (cN a b)),h):=aF (L:=L1) rfl rfl rfl (OG a b _) rfl rfl
theorem SY:∀h,W1.call 29 [im a,im b] h=some (.ret (im (cq a b)),h):=aF (L:=L1) rfl rfl rfl (Dl a b _) rfl rfl
theorem JH:∀h,W1.call 201 [im n] h=some (.ret (.tuple [im (if fmod n=0 then 0 else eZ n),im (if fmod n=0 then 90 else 0)]),h):=aF (L:=L1) rfl rfl rfl (Dn n _) rfl rfl
theorem O2:∀h,W1.call 46 [im x] h=some (.ret (.v (.bool (aX x))),h):=aF (L:=L1) rfl rfl rfl (rF x _) rfl rfl
theorem QY:∀h,W1.call 69 [im a,im b] h=some (.ret (.tuple [im (pO a b),im (mP a b)]),h):=aF (L:=L1) rfl rfl rfl (Mn a b _) rfl rfl
theorem QZ:∀h,W1.call 30 [im a,im n] h=some (.ret (.tuple [im (iL a n),im (lG a)]),h):=by
 obtain⟨h',hc,-⟩:=Mq a n ⟨[],[],0,[]⟩
 exact aF (L:=L1) rfl rfl rfl hc rfl rfl
theorem Wk:∀h,W1.call 94 [im x] h=some (.ret (.v (.bool (aX x))),h):=aF (L:=L1) rfl rfl rfl (Ul x _) rfl rfl
theorem WW:∀h,W1.call 140 [im a,im b] h=some (.ret (.tuple [im (pO a b),im (mP a b)]),h):=aF (L:=L1) rfl rfl rfl (VP a b _) rfl rfl
theorem WX:∀h,W1.call 132 [im a,im n] h=some (.ret (.tuple [im (iL a n),im (lG a)]),h):=aF (L:=L1) rfl rfl rfl (VO a n _) rfl rfl
end
theorem GN(n:Nat)(hn:n<=4611686018427387903):∀h,W1.call 210 [.v (.int .i64 (n:Nat))] h=some (.ret (.v (.int .u64 (oK n:Nat))),h):=aF (L:=L1) rfl rfl rfl (Bn n hn _) rfl rfl
theorem UE(v:BitVec 32)(n:Nat)(h0:0<n)(hn:n<32):∀h,W1.call 224 [w32 v,im (n:Nat)] h=some (.ret (w32 (NT.ror v n)),h):=aF (L:=L1) rfl rfl rfl (WV v n h0 hn _) rfl rfl
theorem WY(b:List UInt8)(hb:4<=b.length)(k:Tok):∀h,W1.call 223 [.list k 1 (u8s b)] h=some (.ret (w32 (rz b 0)),h):=
 aF (L:=L1) (args':=[.list (di k) 1 (u8s b)]) rfl (by rw[bM,au,iQ];rfl) (by simp[bA,aV,bV,fT]) (VR b hb _ _) rfl rfl
theorem O4(tag b:List UInt8)(k:Tok)(hb:b.length<=1099511620000)(ht:tag.length<=1099511620000):∀h,W1.call 78 [.v (.string (bs tag)),.list k 1 (u8s b)] h=some (.ret (im (mK (dV tag b):Nat)),h):=by
 obtain⟨h',hc,-⟩:=Jt tag b (.list (di k) 1 (u8s b)) ⟨[],[],0,[]⟩ (b9.list (ga _) fun _=>rfl) hb ht
 exact aF (L:=L1) (args':=[.v (.string (bs tag)),.list (di k) 1 (u8s b)]) rfl (by rw[bM,bM,au.eq_1,iQ];rfl) (by simp[bA,aV,bV,fT]) hc rfl rfl
def sv(s:List UInt8):AV:=.v (.string (bs s))
def cE(k n:Int)(s:List UInt8)(t:Tok)(sz:Nat)(rows:List (List AV)):List AV:=[im k,im n,sv s,.list t sz rows]
inductive eo:Vl->List AV->Prop
 |int (n:Int) (hn:0<=n/\n<=4611686018427387903):eo (.int n) (cE 1 n [] .nil 0 [])
 |text (s:List UInt8) (hs:s.length<=1099511620000):eo (.text s) (cE 2 0 s .nil 0 [])
 |list (l:List Vl) (k:Tok) (sz:Nat) (rows:List (List AV)) (hl:rows.length=l.length) (hs:rows≠[]->sz=4) (hm:rows.length<=1000000) (h:∀(i:Nat) v r,l[i]?=some v->rows[i]?=some r->eo v r):eo (.list l) (cE 3 0 [] k sz rows)
theorem eo.len{v:Vl}{r:List AV}(h:eo v r):r.length=4:=by
 cases h<;>rfl
theorem dB{k n:Int}{s:List UInt8}{t:Tok}{sz:Nat}{rows:List (List AV)}:(AV.agg (cE k n s t sz rows)).aC=some (cE k n s t sz rows):=rfl
theorem eo.cells{v:Vl}{r:List AV}(h:eo v r):(AV.agg r).aC=some r:=by
 cases h<;>rfl
theorem Bp:Tryz.f207.results.toList=[.tmp 2,.tmp 3]:=kZq
theorem O5:cZ Tryz.prog 96=some true:=kZq
theorem tX:bF Tryz.prog 96=some 4:=kZq
theorem Q2:cZ Tryz.prog 94=some false:=kZq
theorem ag9:cZ Tryz.prog 9=some false:=kZq
theorem ag4:cZ Tryz.prog 4=some false:=kZq
theorem Q3:bF Tryz.prog 246=some 4:=kZq
section
variable {H:ae} {b:Nat} {k n:Int} {s:List UInt8} {t:Tok} {sz:Nat} {rows:List (List AV)}
theorem MB(hb:H.boxes[b]?=some (cE k n s t sz rows)):ai Tryz.prog Gt H 3 (.ptr (.box b) 0)=some (.v (.int .i64 k)):=by rw[dc ag3 hb];rfl
theorem GO(hb:H.boxes[b]?=some (cE k n s t sz rows)):ai Tryz.prog Gt H 3 (.ptr (.box b) 1)=some (.v (.int .i64 n)):=by rw[dc ag3 hb];rfl
theorem GP(hb:H.boxes[b]?=some (cE k n s t sz rows)):ai Tryz.prog Gt H 9 (.ptr (.box b) 2)=some (.v (.string (bs s))):=by rw[dc ag9 hb];rfl
theorem vy(hb:H.boxes[b]?=some (cE k n s t sz rows)):ai Tryz.prog Gt H 94 (.ptr (.box b) 3)=some (.list t sz rows):=by rw[dc Q2 hb];rfl
theorem ldv{r:List AV}(hr:r.length=4)(hb:H.boxes[b]?=some r):ai Tryz.prog Gt H 96 (.ptr (.box b) 0)=some (.agg r):=by
 rw[cP O5 tX hb (by omega),abZ,<-hr,abU]
end
theorem jL:(∀b,aJ Tryz.prog 96 (.ptr (.box b) 0) 0=some (.ptr (.box b) 0))/\(∀b,aJ Tryz.prog 96 (.ptr (.box b) 0) 1=some (.ptr (.box b) 1))/\(∀b,aJ Tryz.prog 96 (.ptr (.box b) 0) 2=some (.ptr (.box b) 2))/\∀b,aJ Tryz.prog 96 (.ptr (.box b) 0) 3=some (.ptr (.box b) 3):=⟨fun _=>kZq,fun _=>kZq,fun _=>kZq,fun _=>kZq⟩
def b4(a b c:Bool):List AV:=[.v (.bool false),.v (.bool a),.v (.bool b),.v (.bool c)]
theorem JI(a b c:Bool):fj Tryz.prog 246 [(1,.v (.bool a)),(2,.v (.bool b)),(3,.v (.bool c))]=some (.agg (b4 a b c)):=kZq
theorem Q4:(ej Tryz.prog 246).bind AV.aC=some (b4 false false false):=kZq
theorem JJ:(ej Tryz.prog 96).bind AV.aC=some (cE 0 0 [] .nil 0 []):=kZq
theorem JK(H:ae)(a b c:Bool):aA Tryz.prog (H.push (b4 false false false)) 246 (.ptr (.box H.boxes.length) 0) (.agg (b4 a b c))=some (H.push (b4 a b c)):=cQ rfl Q3 rfl rfl
theorem JL{b n:Nat}{k:IntKind}(hn:n<4):ay Tryz.prog 246 (.ptr (.box b) 0) (.v (.int k (n:Nat)))=some (.ptr (.box b) n):=by
 have h1:Tryz.prog.underlying 246=some (.array 4 4):=Tryz.underlying246
 have sz4:bF Tryz.prog 4=some 1:=kZq
 unfold ay
 simp only[h1,sz4]
 rw[if_pos ⟨by omega,by omega⟩]
 simp
theorem ixb{b:Nat}:ay Tryz.prog 246 (.ptr (.box b) 0) (.v (.int .i64 1))=some (.ptr (.box b) 1)/\ay Tryz.prog 246 (.ptr (.box b) 0) (.v (.int .i64 2))=some (.ptr (.box b) 2)/\ay Tryz.prog 246 (.ptr (.box b) 0) (.v (.int .i64 3))=some (.ptr (.box b) 3):=⟨JL (n:=1) (by decide),JL (n:=2) (by decide),JL (n:=3) (by decide)⟩
theorem ldb{H:ae}{b:Nat}{x y z:Bool}(hb:H.boxes[b]?=some (b4 x y z)):ai Tryz.prog Gt H 4 (.ptr (.box b) 1)=some (.v (.bool x))/\ai Tryz.prog Gt H 4 (.ptr (.box b) 2)=some (.v (.bool y))/\ai Tryz.prog Gt H 4 (.ptr (.box b) 3)=some (.v (.bool z)):=by
 refine⟨?_,?_,?_⟩<;>(rw[dc ag4 hb];rfl)
theorem O6{H:ae}{x:List AV}{p q r:Bool}:ai Tryz.prog Gt ((H.push x).push (b4 p q r)) 4 (.ptr (.box (H.push x).boxes.length) 1)=some (.v (.bool p))/\ai Tryz.prog Gt ((H.push x).push (b4 p q r)) 4 (.ptr (.box (H.push x).boxes.length) 2)=some (.v (.bool q))/\ai Tryz.prog Gt ((H.push x).push (b4 p q r)) 4 (.ptr (.box (H.push x).boxes.length) 3)=some (.v (.bool r)):=ldb (ak _ _)
theorem stv{H:ae}{v:Vl}{r:List AV}(hv:eo v r):aA Tryz.prog (H.push (cE 0 0 [] .nil 0 [])) 96 (.ptr (.box H.boxes.length) 0) (.agg r)=some (H.push r):=cQ hv.cells tX hv.len rfl
theorem ND{H:ae}{rows:List (List AV)}{i:Nat}{r:List AV}(hl:r.length=4)(hr:rows[i]?=some r):ai Tryz.prog Gt H 96 (.elem 4 rows i 0)=some (.agg r):=by
 rw[jm O5 tX hr (by omega),abZ,<-hl,abU]
theorem qD:∀l m:List Vl,dN (l++m)=max (dN l) (dN m)
 | [],m=>by simp[dN]
 |v::l,m=>by rw[ab3,dN,dN,qD l m,Nat.max_assoc]
theorem vz{l:List Vl}{i:Nat}{v:Vl}(h:l[i]?=some v):dN (l.take (i+1))=max (dN (l.take i)) (eD v):=by
 rw[a9 h,qD];simp[dN]
theorem vA(l:List Vl)(i:Nat):dN (l.take i)<=dN l:=by
 have:=qD (l.take i) (l.drop i)
 rw[acN] at this
 omega
theorem JM{l:List Vl}{i:Nat}{v:Vl}(h:l[i]?=some v):eD v<=dN l:=by
 have h1:=vz h
 have h2:=vA l (i+1)
 omega
theorem GQ{v:Vl}{r:List AV}(hv:eo v r):eD v<=100->∀h,∃h',W1.call 207 [.agg r] h=some (.ret (.tuple [.v (.int .i64 (eD v:Nat)),.v (.bool true)]),h')/\Ext h h':=by
 have u9:=Tryz.underlying9;have u94:=Tryz.underlying94
 have z:=Q4
 induction hv with
 |int n hn=>
  intro _ h
  refine dL rfl Tryz.func207 rfl ?_
  show Run _ _ _ _ (FT _ _ _ _ (.ret (.tuple [.v (.int .i64 0),.v (.bool true)])) _)
  repeat' (first|simp(maxSteps:=999999)(disch:=first|exact dZ|fail)only[gW,reduceIte,abn,gBQ,Bp,JI,JK,dB,MB,GO,GP,vy,ixb,jL,O6,ab7,acT,decide_true, *]|refine dX ?_ ?_<;>(intro _;try omega))
  all_goals exact⟨_,rfl,(Ext.push _ _).trans (Ext.push _ _)⟩
 |text s hs=>
  intro _ h
  refine dL rfl Tryz.func207 rfl ?_
  show Run _ _ _ _ (FT _ _ _ _ (.ret (.tuple [.v (.int .i64 0),.v (.bool true)])) _)
  repeat' (first|simp(maxSteps:=999999)(disch:=first|exact dZ|fail)only[gW,reduceIte,abn,gBQ,Bp,JI,JK,dB,MB,GO,GP,vy,ixb,jL,O6,ab7,acT,decide_true, *]|refine dX ?_ ?_<;>(intro _;try omega))
  all_goals exact⟨_,rfl,(Ext.push _ _).trans (Ext.push _ _)⟩
 |list l k sz rows hl hs hm hr ih=>
  intro hd h
  have kd:=ah.mk hd
  have kr:=ah.mk hr
  have kih:=ah.mk ih
  have kh:=ah.mk hs
  have kl:=ah.mk hl
  refine dL rfl Tryz.func207 rfl ?_
  clear hr ih hs hd hl
  by_cases h0:(rows.length:Int)=0
  all_goals
   repeat' (first|simp(maxSteps:=999999)(disch:=first|exact dZ|fail)only[gW,reduceIte,abn,gBQ,Bp,JI,JK,dB,MB,GO,GP,vy,ixb,jL,O6,acT,decide_true, *]|refine dX ?_ ?_<;>(intro _;try omega))
   refine aD (fun m e H=>∃i:Nat,i<=rows.length/\m=rows.length - i/\e.get 55=.list k sz rows/\e.get 56=.v (.int .i64 (rows.length:Nat))/\e.get 57=.v (.int .i64 i)/\e.get 2=.v (.int .i64 (dN (l.take i):Nat))/\e.defers=[]/\Ext h H) ?_ rows.length _ _ ?_
   rotate_left 1
   ·refine⟨0,abG _,rfl,?_,?_,?_,?_,?_,(Ext.push _ _).trans (Ext.push _ _)⟩<;>(first|assumption|(simp only[gW,reduceIte,abn,gBQ]<;>first|rfl|(rw[h0])))
   rintro m e H ⟨i,hi,rfl,g55,g56,g57,g2,hd,hX⟩
   have kX:=ah.mk hX
   clear hX
   by_cases hlt:i<rows.length
   ·obtain⟨r,hr⟩:∃r,rows[i]?=some r:=⟨_,abo hlt⟩
    obtain⟨v,hv⟩:∃v,l[i]?=some v:=⟨_,abo (by have:=kl.out;omega)⟩
    have hrow:=kr.out i v r hv hr
    have h4:sz=4:=kh.out (by rintro rfl;simp at hlt)
    subst h4
    have hdl:eD (.list l)=dN l+1:=rfl
    have hdv:=JM hv
    have hdt:=vA l i
    have hdk:=kd.out
    obtain⟨H2,c1,x1⟩:=kih.out i v r hv hr (by omega) (H.push r)
    have ld:=ND (H:=H) hrow.len hr
    have st:=stv (H:=H) hrow
    have l2:ai Tryz.prog Gt (H.push r) 96 (.ptr (.box H.boxes.length) 0)=some (.agg r):=ldv hrow.len (ak _ _)
    have zz:=JJ
    have s96:=tX
    have kX2:=ah.mk (kX.out.trans ((Ext.push H r).trans x1))
    have kst:=ah.mk (vz hv)
    have hlI:(i:Int)<(rows.length:Int):=by omega
    clear kX hrow hv hr x1 hdl hdk
    have hmx:(if ((dN (l.take i):Nat):Int)<((eD v:Nat):Int) then ((eD v:Nat):Int) else ((dN (l.take i):Nat):Int))=((max (dN (l.take i)) (eD v):Nat):Int):=by
     split<;>omega
    repeat' (first|simp(maxSteps:=999999)(disch:=first|exact dZ|fail)only[gW,reduceIte,abn,gBQ,Bp,al,pc, *]|refine dX ?_ ?_<;>(intro _;try omega))
    all_goals exact⟨rows.length - (i+1),by omega,i+1,by omega,rfl,by trivial,by trivial,by simp,by rw[kst.out],by trivial,kX2.out⟩
   ·have:i=rows.length:=by omega
    subst this
    have hdk:=kd.out
    have e1:l.take rows.length=l:=by rw[kl.out];exact abU
    rw[e1] at g2
    have hdl:eD (.list l)=dN l+1:=rfl
    rw[hdl] at hdk ⊢
    have e2:((dN l+1:Nat):Int)=((dN l:Nat):Int)+1:=by omega
    repeat' (first|simp(maxSteps:=999999)(disch:=first|exact dZ|fail)only[gW,reduceIte,abn,gBQ,Bp, *]|refine dX ?_ ?_<;>(intro _;try omega))
    all_goals exact⟨_,rfl,kX.out⟩
theorem JN:Tryz.f209.results.toList=[.tmp 4]:=kZq
theorem NF{H:ae}{k:Tok}{n0 sz:Nat}{es new:List UInt8}{x:AV}{t1:TypeId}(h1:(∃e,Tryz.prog.underlying t1=some (.slice e))∨Tryz.prog.underlying t1=some .string)(hx:eH H 1 x=some (u8s new))(hne:new≠[])(hl:es.length+new.length<=8796093022208)(hs:sz=1∨(es=[]/\k=.nil))(hk:bG n0 H k):
 bP Tryz.prog H #[28,t1] (.list k sz (u8s es)) x=some (.list (.free H.tn) 1 (u8s (es++new)),H.app k):=by
 obtain⟨i,q1,q2,q3,q4⟩:=in5
 have hb:=Nat.mul_le_mul hl q3
 have:=lI (t0:=28) (n0:=n0) (i:=i) (sz:=sz) (es:=u8s es) (new:=u8s new) Tryz.underlying28 h1 q1 (by omega) (by rw[q2];exact q4) (by rw[q2];exact hx) (by simpa using hne)
  (by rw[abu,abu];omega) (by rw[abu,abu];omega) (hs.imp (fun q=>q.trans q2.symm) fun q=>⟨by rw[q.1];rfl,q.2⟩) hk
 rw[this,q2]
 simp[u8s]
theorem JO{H:ae}{k k':Tok}{n0 sz:Nat}{es:List UInt8}{c:UInt8}(hl:es.length<8796093022208)(hs:sz=1∨(es=[]/\k=.nil))(hk:bG n0 H k):
 bP Tryz.prog H #[28,28] (.list k sz (u8s es)) (.list k' 1 [[u8v c]])=some (.list (.free H.tn) 1 (u8s (es++[c])),H.app k):=
 NF (new:=[c]) (.inl ⟨_,Tryz.underlying28⟩) rfl (by simp) (by simp;omega) hs hk
theorem JP(c:UInt8):aN Tryz.prog 28 1 [(0,u8v c)]=some (.list .tight 1 [[u8v c]]):=kZq
theorem Q5(c:Nat):c%256|||128=c%128+128:=by
 have h:∀d:Fin 256,(d.val|||128)=d.val%128+128:=by decide+kernel
 have:=h ⟨c%256,acK _ (by decide)⟩
 simp only at this
 rw[this];omega
theorem O7{t:TypeId}{x y:Operand}(c:Nat):bB Tryz.prog .or t x y (.v (.int .u8 (IntKind.u8.wrap (c:Nat)))) (.v (.int .u8 128))=some (u8v (UInt8.ofNat (c%128+128))):=by
 have hw:IntKind.u8.wrap ((c:Nat):Int)=((c%256:Nat):Int):=by
  unfold IntKind.wrap
  simp[IntKind.signed,IntKind.bits]
 have ht:(UInt8.ofNat (c%128+128)).toNat=c%128+128:=by
  have:(UInt8.ofNat (c%128+128)).toNat=(c%128+128)%256:=UInt8.toNat_ofNat'
  omega
 unfold u8v
 rw[hw,C8,ht]
 congr 3
 have e1:BitVec.ofInt IntKind.u8.bits ((c%256:Nat):Int)=BitVec.ofNat 8 (c%256):=by
  apply BitVec.eq_of_toNat_eq
  show(BitVec.ofInt 8 ((c%256:Nat):Int)).toNat=(BitVec.ofNat 8 (c%256)).toNat
  rw[BitVec.toNat_ofInt,BitVec.toNat_ofNat];omega
 have e3:(BitVec.ofInt IntKind.u8.bits ((c%256:Nat):Int)|||BitVec.ofInt IntKind.u8.bits 128).toNat=c%128+128:=by
  rw[e1]
  show(BitVec.ofNat 8 (c%256)|||128#8).toNat=_
  rw[BitVec.toNat_or,BitVec.toNat_ofNat,acn (show c%256<2^8 by omega)]
  exact Q5 c
 rw[e3,yU (by omega) (by omega)]
theorem SZ{t:TypeId}{x y:Operand}{n:Nat}:bB Tryz.prog .shr t x y (.v (.int .u64 (n:Nat))) (.v (.int .u64 7))=some (.v (.int .u64 ((n/128:Nat):Int))):=by
 rw[nr (by decide)]
 congr 3
 show((n:Nat):Int).fdiv (2^7)=_
 rw[ac3 _ (by decide)]
 simp
theorem et:∀(k u:Nat),(jH k u).length<=k+1
 |0,u=>by simp[jH]
 |k+1,u=>by
  rw[jH]
  split
  ·simp
  ·have:=et k (u/128)
   simp;omega
theorem qE(u:Nat)(hu:u<18446744073709551616)(es:List UInt8)(k:Tok)(sz n0:Nat)(h:ae)(ho:aZ h=true)(hk:bG n0 h k)(hn:n0<=h.tn)(hs:sz=1∨(es=[]/\k=.nil))(hl:es.length<=1099511627776):
 ∃r h',W1.call 209 [.list k sz (u8s es),.v (.int .u64 (u:Nat))] h=some (r,h')/\∃t,r=.ret (.list t 1 (u8s (es++jH 9 u)))/\Grown n0 h h' t:=by
 have kG:=ah.mk (Grown.refl hk ho)
 clear hk ho
 refine aL rfl Tryz.func209 rfl ?_
 refine gx1 @JN ?_
 refine aD (fun m e H=>∃(j:Nat) (t:Tok) (cur:List UInt8) (s:Nat),j<=9/\m<2 * 128^j/\cur++jH j m=es++jH 9 u/\cur.length+j=es.length+9/\(s=1∨(cur=[]/\t=.nil))/\e.get 0=.list t s (u8s cur)/\e.get 1=.v (.int .u64 (m:Nat))/\e.defers=[]/\Grown n0 h H t) ?_ u _ _ ?_
 rotate_left 1
 ·exact⟨9,k,es,sz,abq _,by simpa using hu,rfl,rfl,hs,by exact gR,by exact gR,by exact gR,kG.out⟩
 clear kG hu
 rintro m e H ⟨j,t,cur,s,hj,hm,hq,hcl,hs,g0,g1,hd,hG⟩
 have kG:=ah.mk hG
 have can:=ah.mk hG.can
 clear hG
 by_cases h128:m<128
 ·have hnum:=Gc (k:=j) h128
  rw[hnum] at hq
  have uv:u8v (UInt8.ofNat m)=.v (.int .u8 ((m:Nat):Int)):=by
   have:(UInt8.ofNat m).toNat=m%256:=UInt8.toNat_ofNat'
   unfold u8v
   rw[this,acn (by omega)]
  have hge:¬((128:Int)<=((m:Nat):Int)):=by omega
  have ap:=JO (k':=.tight) (c:=UInt8.ofNat m) (show cur.length<8796093022208 by omega) hs can.out
  rw[hq] at ap
  have bl:=JP (UInt8.ofNat m)
  rw[uv] at ap bl
  clear hm h128 hnum hq uv
  refine gx2 @JN @zj ?_
  exact⟨_,_,rfl,_,rfl,kG.out.app hn⟩
 ·obtain⟨j',rfl⟩:∃j',j=j'+1:=⟨j - 1,by
   rcases j with _|j
   ·omega
   ·omega⟩
  have hnum:=Gb (k:=j') (show 128<=m by omega)
  rw[hnum] at hq
  have hge:(128:Int)<=((m:Nat):Int):=by omega
  have bl:=JP (UInt8.ofNat (m%128+128))
  have ap:=JO (k':=.tight) (c:=UInt8.ofNat (m%128+128)) (show cur.length<8796093022208 by omega) hs can.out
  have kq:=ah.mk hq
  have km:=ah.mk hm
  clear hnum hq hm
  refine gx4 @JN @zj @O7 @SZ ?_
  refine⟨m/128,by omega,j',.free H.tn,cur++[UInt8.ofNat (m%128+128)],1,by omega,?_,?_,by simp;omega,.inl rfl,by trivial,by trivial,by trivial,kG.out.app hn⟩
  ·have:=km.out
   rw[aeg] at this
   omega
  ·rw[acI];exact kq.out
theorem Q6:Tryz.f184.results.toList=[.tmp 0]:=kZq
theorem JQ:Tryz.f208.results.toList=[.tmp 4]:=kZq
theorem JR:Tryz.f211.results.toList=[.tmp 4]:=kZq
theorem xG:Tryz.f212.results.toList=[.tmp 5]:=kZq
def fM:AV:=.v .nilFunc
def lM(a:Nat):List AV:=[fM,.func (.func 208) [] [],.func (.func 211) [] [],.func (.func 212) [] [.ptr (.box a) 0]]
theorem Q7:bF Tryz.prog 207=some 1:=kZq
theorem Q8:cZ Tryz.prog 207=some false:=kZq
theorem Q9:cZ Tryz.prog 210=some false:=kZq
theorem Ra:bF Tryz.prog 210=some 1:=kZq
theorem Rb:fj Tryz.prog 237 []=some (.agg [fM,fM,fM,fM]):=kZq
theorem Rc:(ej Tryz.prog 210).bind AV.aC=some [.v (.pointer none)]:=kZq
theorem EB{b n:Nat}{k:IntKind}(hn:n<4):ay Tryz.prog 237 (.ptr (.box b) 0) (.v (.int k (n:Nat)))=some (.ptr (.box b) n):=by
 have h1:Tryz.prog.underlying 237=some (.array 4 209):=Tryz.underlying237
 have sz:bF Tryz.prog 209=some 1:=kZq
 unfold ay
 simp only[h1,sz]
 rw[if_pos ⟨by omega,by omega⟩]
 simp
theorem ixw{b:Nat}:ay Tryz.prog 237 (.ptr (.box b) 0) (.v (.int .i64 1))=some (.ptr (.box b) 1)/\ay Tryz.prog 237 (.ptr (.box b) 0) (.v (.int .i64 2))=some (.ptr (.box b) 2)/\ay Tryz.prog 237 (.ptr (.box b) 0) (.v (.int .i64 3))=some (.ptr (.box b) 3):=⟨EB (n:=1) (by decide),EB (n:=2) (by decide),EB (n:=3) (by decide)⟩
theorem vB{r:Ref}{o:Nat}:aJ Tryz.prog 209 (.ptr r o) 0=some (.ptr r o):=kZq
theorem stw{h:ae}{c q:List AV}{k:Nat}{f:Fn}{a b:List AV}(hc:c.length=4)(hk:k<4):aA Tryz.prog ((h.push c).push q) 207 (.ptr (.box h.boxes.length) k) (.func f a b)=some ((h.push (c.set k (.func f a b))).push q):=by
 rw[aW (xs:=[.func f a b]) rfl Q7 (aj (ak _ _)) rfl (by omega)]
 congr 1
 rw[A5 (by rw[az];omega),gg]
 congr 2
 unfold bI
 rw[List.set_eq_take_append_cons_drop,if_pos (by omega)]
 simp
theorem NG{H:ae}{a b:Nat}(hb:H.boxes[a]?=some [.ptr (.box b) 0]):ai Tryz.prog Gt H 210 (.ptr (.box a) 0)=some (.ptr (.box b) 0):=by rw[dc Q9 hb];rfl
theorem O8{h:ae}{c:List AV}:ai Tryz.prog Gt ((h.push c).push [.ptr (.box h.boxes.length) 0]) 210 (.ptr (.box (h.push [fM,fM,fM,fM]).boxes.length) 0)=some (.ptr (.box h.boxes.length) 0):=by
 refine NG ?_
 rw[az,<-az h c];exact ak _ _
theorem Rd{H:ae}{b:Nat}:aA Tryz.prog (H.push [.v (.pointer none)]) 210 (.ptr (.box H.boxes.length) 0) (.ptr (.box b) 0)=some (H.push [.ptr (.box b) 0]):=cQ rfl Ra rfl rfl
theorem GR(h:ae):W1.call 184 [] h=some (.ret (.ptr (.box h.boxes.length) 0),(h.push (lM (h.boxes.length+1))).push [.ptr (.box h.boxes.length) 0]):=by
 have z:=Rc
 have cs:(AV.agg [fM,fM,fM,fM]).aC=some [fM,fM,fM,fM]:=rfl
 have e:lM (h.boxes.length+1)=(([fM,fM,fM,fM].set 1 (.func (.func 208) [] [])).set 2 (.func (.func 211) [] [])).set 3 (.func (.func 212) [] [.ptr (.box (h.push [fM,fM,fM,fM]).boxes.length) 0]):=by rw[az];rfl
 rw[e]
 have l0:[fM,fM,fM,fM].length=4:=rfl
 have l1:([fM,fM,fM,fM].set 1 (.func (.func 208) [] [])).length=4:=rfl
 have l2:(([fM,fM,fM,fM].set 1 (.func (.func 208) [] [])).set 2 (.func (.func 211) [] [])).length=4:=rfl
 refine ar rfl Tryz.func184 rfl ?_
 repeat' (first|simp(maxSteps:=999999)(disch:=first|exact dZ|fail)only[gW,reduceIte,abn,gBQ,Q6,Rb,Rd,O8,ixw,vB,stw, *]|refine dX ?_ ?_<;>(intro _;try omega))
def wfn:Vl->FuncId
 | .int _=>208
 | .text _=>211
 | .list _=>212
def JS(a:Nat):Vl->List AV
 | .list _=>[.ptr (.box a) 0]
 |_=>[]
theorem blk:aN Tryz.prog 28 1 [(0,.v (.int .u8 1))]=some (.list .tight 1 [[u8v 1]])/\aN Tryz.prog 28 1 [(0,.v (.int .u8 2))]=some (.list .tight 1 [[u8v 2]])/\aN Tryz.prog 28 1 [(0,.v (.int .u8 3))]=some (.list .tight 1 [[u8v 3]]):=⟨JP 1,JP 2,JP 3⟩
theorem GS(n:Nat)(hn:n<=4611686018427387903)(es:List UInt8)(k:Tok)(sz n0:Nat)(H:ae)(ho:aZ H=true)(hk:bG n0 H k)(h0:n0<=H.tn)(hs:sz=1∨(es=[]/\k=.nil))(hl:es.length<=1099511627000):
 ∃r' H',W1.call 208 [.list k sz (u8s es),.agg (cE 1 (n:Nat) [] .nil 0 [])] H=some (r',H')/\∃t,r'=.ret (.list t 1 (u8s (es++fB (.int (n:Nat)))))/\Grown n0 H H' t:=by
 have g1:Grown n0 H (H.push (cE 1 (n:Nat) [] .nil 0 [])) k:=(Grown.refl hk ho).push _
 have ap:=JO (H:=H.push (cE 1 (n:Nat) [] .nil 0 [])) (k':=.tight) (c:=1) (show es.length<8796093022208 by omega) hs g1.can
 have g2:=g1.app h0
 have hu:oK ((n:Nat):Int)<18446744073709551616:=by unfold oK;rw[if_pos (by omega)];omega
 obtain⟨r3,H3,c3,t3,rfl,g3⟩:=qE (oK ((n:Nat):Int)) hu (es++[1]) _ 1 n0 _ g2.ok g2.can (abT h0 g2.tn) (.inl rfl) (by simp;omega)
 have kG:=ah.mk (g2.trans g3)
 have ee:es++[1]++jH 9 (oK ((n:Nat):Int))=es++fB (.int (n:Nat)):=by rw[fB];simp
 rw[ee] at c3
 clear g1 g2 g3 ho hk hs ee hu
 refine aL rfl Tryz.func208 rfl ?_
 have cu:=GN n hn
 refine gx6 @JQ @blk @dB @GO @jL @aT ?_
 refine bU [(2,4)] Bo kZq (fun p hp=>?_) ?_
 ·simp only[acg] at hp
  subst hp
  refine dI (x:=.ptr (.box H.boxes.length) 1) (v:=.v (.int .i64 (n:Nat))) kZq rfl rfl rfl kZq (by simp[cB,gB]) ?_ ?_<;>(simp only[abO,abY];repeat' (first|simp(maxSteps:=999999)(disch:=first|exact dZ|fail)only[gW,reduceIte,abn,gBQ,JQ,blk,dB,GO,jL,aT,and_self, *]|refine dX ?_ ?_<;>(intro _;try omega)))
 refine gx6 @JQ @blk @dB @GO @jL @aT ?_
 exact⟨_,_,rfl,_,rfl,kG.out⟩
theorem JT(H:ae)(s:List UInt8):eH H 1 (.v (.string (bs s)))=some (u8s s):=by
 unfold eH
 simp[bs]
theorem Re{H:ae}{k:Tok}{n0:Nat}{es s:List UInt8}(hl:es.length+s.length<=8796093022208)(hk:bG n0 H k)(ho:aZ H=true)(hn:n0<=H.tn):
 ∃t H',bP Tryz.prog H #[28,9] (.list k 1 (u8s es)) (.v (.string (bs s)))=some (.list t 1 (u8s (es++s)),H')/\Grown n0 H H' t:=by
 by_cases hs:s=[]
 ·subst hs
  obtain⟨i,q1,q2,q3,q4⟩:=in5
  refine⟨k,H,?_,Grown.refl hk ho⟩
  rw[Bb Tryz.underlying28 (.inr Tryz.underlying9) q1 (by omega) (by rw[q2];exact q4) (by rw[q2];exact JT H []) (.inl q2.symm),ab2]
 ·exact⟨_,_,NF (.inr Tryz.underlying9) (JT H s) hs hl (.inl rfl) hk,Grown.one hk ho hn⟩
theorem O9(s:List UInt8):cH Tryz.prog 9 (.v (.string (bs s)))=some (.v (.int .i64 (s.length:Nat))):=by
 rw[uU Tryz.underlying9,np]
theorem DG(s:List UInt8)(hsl:s.length<=1099511620000)(es:List UInt8)(k:Tok)(sz n0:Nat)(H:ae)(ho:aZ H=true)(hk:bG n0 H k)(h0:n0<=H.tn)(hs:sz=1∨(es=[]/\k=.nil))(hl:es.length<=1099511627000):
 ∃r' H',W1.call 211 [.list k sz (u8s es),.agg (cE 2 0 s .nil 0 [])] H=some (r',H')/\∃t,r'=.ret (.list t 1 (u8s (es++fB (.text s))))/\Grown n0 H H' t:=by
 have g1:Grown n0 H (H.push (cE 2 0 s .nil 0 [])) k:=(Grown.refl hk ho).push _
 have ap:=JO (H:=H.push (cE 2 0 s .nil 0 [])) (k':=.tight) (c:=2) (show es.length<8796093022208 by omega) hs g1.can
 have g2:=g1.app h0
 obtain⟨r3,H3,c3,t3,rfl,g3⟩:=qE s.length (by omega) (es++[2]) _ 1 n0 _ g2.ok g2.can (abT h0 g2.tn) (.inl rfl) (by simp;omega)
 have g4:=g2.trans g3
 have nl:=et 9 s.length
 obtain⟨t4,H4,ap4,g5⟩:=Re (es:=es++[2]++jH 9 s.length) (s:=s) (by simp;omega) g3.can g3.ok (abT h0 (abT g2.tn g3.tn))
 have kG:=ah.mk (g4.trans g5)
 have ee:es++[2]++jH 9 s.length++s=es++fB (.text s):=by rw[fB];simp
 rw[ee] at ap4
 have b0:(H.push (cE 2 0 s .nil 0 [])).boxes[H.boxes.length]?=some (cE 2 0 s .nil 0 []):=ak _ _
 have b1:((H.push (cE 2 0 s .nil 0 [])).app k).boxes[H.boxes.length]?=some (cE 2 0 s .nil 0 []):=by rw[aT];exact b0
 have b3:H3.boxes[H.boxes.length]?=some (cE 2 0 s .nil 0 []):=g3.box _ _ b1
 have l1:=GP b1
 have l3:=GP b3
 have l0:=GP b0
 have sl:=O9 s
 have hw:=JG (n:=s.length) (by omega)
 clear g1 g2 g3 g4 g5 ho hk hs ee b0 b1 b3 nl
 refine aL rfl Tryz.func211 rfl ?_
 refine gx5 @JR @blk @dB @jL @jY ?_
 refine bU [(2,4),(2,9),(7,9)] Bo kZq (fun p hp=>?_) ?_
 ·simp only[acd,adj,or_false] at hp
  rcases hp with rfl|rfl|rfl
  all_goals
   refine dI (x:=.ptr (.box H.boxes.length) 2) (v:=.v (.string (bs s))) kZq rfl rfl rfl kZq (by simp[cB,gB]) ?_ ?_<;>(simp only[abO,abY];exact gz6 @JR @blk @dB @jL @jY @and_self)
 refine gx5 @JR @blk @dB @jL @jY ?_
 exact⟨_,_,rfl,_,rfl,kG.out⟩
def vC:Vl->Nat
 | .int _=>1
 | .text _=>2
 | .list _=>3
theorem ldk{H:ae}{x:Nat}{v:Vl}{r:List AV}(hv:eo v r)(hb:H.boxes[x]?=some r):ai Tryz.prog Gt H 3 (.ptr (.box x) 0)=some (.v (.int .i64 (vC v:Nat))):=by
 cases hv<;>exact MB hb
theorem ixk{b:Nat}{v:Vl}:ay Tryz.prog 237 (.ptr (.box b) 0) (.v (.int .i64 (vC v:Nat)))=some (.ptr (.box b) (vC v)):=by
 exact EB (by cases v<;>simp[vC])
theorem ldf{H:ae}{a b:Nat}{v:Vl}(hb:H.boxes[b]?=some (lM a)):ai Tryz.prog Gt H 207 (.ptr (.box b) (vC v))=some (.func (.func (wfn v)) [] (JS a v)):=by
 rw[dc Q8 hb]
 cases v<;>rfl
theorem GU{l:List Vl}{i:Nat}{v:Vl}(h:l[i]?=some v):jB (l.take (i+1))=jB (l.take i)++fB v:=by
 rw[a9 h,A0];simp[jB]
theorem MC(l:List Vl)(i:Nat):(jB (l.take i)).length<=(jB l).length:=by
 have:=A0 (l.take i) (l.drop i)
 rw[acN] at this
 rw[this,abx];omega
mutual
theorem JU(v:Vl):∀r,eo v r->kL r r=true:=by
 intro r h
 cases h with
 |int n hn=>simp[cE,kL,cB,gB,im,sv,lY,eT]
 |text s hs=>simp[cE,kL,cB,gB,im,sv,lY,eT]
 |list l k sz rows hl hs hm hr=>
  have:=zy l rows hl hr
  simp[cE,kL,cB,gB,im,sv,this]
  cases k<;>simp[lY]
theorem zy(l:List Vl):∀rows:List (List AV),rows.length=l.length->(∀(i:Nat) v r,l[i]?=some v->rows[i]?=some r->eo v r)->eT rows rows=true:=by
 intro rows hl h
 match l,rows,hl,h with
 | [],[],_,_=>rfl
 |v::l,r::rows,hl,h=>
  rw[eT,JU v r (h 0 v r rfl rfl),zy l rows (by simpa using hl) fun i v r hv hr=>h (i+1) v r (by simpa using hv) (by simpa using hr)];rfl
end
theorem JV{v:Vl}{r:List AV}(hv:eo v r):∀(a b:Nat) (es:List UInt8) (k:Tok) (sz n0:Nat) (H:ae),H.boxes[a]?=some [.ptr (.box b) 0]->H.boxes[b]?=some (lM a)->aZ H=true->bG n0 H k->n0<=H.tn->(sz=1∨(es=[]/\k=.nil))->es.length+(fB v).length<=1099511627000->
 ∃r' H',W1.call (wfn v) (.list k sz (u8s es)::.agg r::JS a v) H=some (r',H')/\∃t,r'=.ret (.list t 1 (u8s (es++fB v)))/\Grown n0 H H' t:=by
 induction hv with
 |int n hn=>
  intro a b es k sz n0 H _ _ ho hk h0 hs hl
  obtain⟨m,rfl⟩:∃m:Nat,n=m:=⟨n.toNat,by omega⟩
  exact GS m (by omega) es k sz n0 H ho hk h0 hs (by omega)
 |text s hsl=>
  intro a b es k sz n0 H _ _ ho hk h0 hs hl
  exact DG s hsl es k sz n0 H ho hk h0 hs (by omega)
 |list l kl szl rows hll hsl hm hr ih=>
  intro a b es k sz n0 H ha hb ho hk h0 hs hl
  have sr:=zy l rows hll hr
  have kr:=ah.mk hr
  have kih:=ah.mk ih
  have ksl:=ah.mk hsl
  have kll:=ah.mk hll
  have enc:fB (.list l)=3::(jH 9 l.length++jB l):=by rw[fB]
  rw[enc] at hl ⊢
  have g1:Grown n0 H (H.push (cE 3 0 [] kl szl rows)) k:=(Grown.refl hk ho).push _
  have ap:=JO (H:=H.push (cE 3 0 [] kl szl rows)) (k':=.tight) (c:=3) (show es.length<8796093022208 by omega) hs g1.can
  have g2:=g1.app h0
  simp only[ab0,abx] at hl
  obtain⟨r3,H3,c3,t3,rfl,g3⟩:=qE l.length (by omega) (es++[3]) _ 1 n0 _ g2.ok g2.can (abT h0 g2.tn) (.inl rfl) (by simp;omega)
  have g4:=g2.trans g3
  have b0:(H.push (cE 3 0 [] kl szl rows)).boxes[H.boxes.length]?=some (cE 3 0 [] kl szl rows):=ak _ _
  have b1:((H.push (cE 3 0 [] kl szl rows)).app k).boxes[H.boxes.length]?=some (cE 3 0 [] kl szl rows):=by rw[aT];exact b0
  have b3:H3.boxes[H.boxes.length]?=some (cE 3 0 [] kl szl rows):=g3.box _ _ b1
  have l0:=vy b0
  have l1:=vy b1
  have l3:=vy b3
  have u94:=Tryz.underlying94
  have hw:=JG (n:=l.length) (by omega)
  have hlI:((rows.length:Nat):Int)=((l.length:Nat):Int):=by rw[hll]
  have kG:=ah.mk g4
  have kha:=ah.mk ha
  have khb:=ah.mk hb
  have kl2:=ah.mk hl
  have sv0:cB (.list kl szl rows) (.list kl szl rows)=true:=by
   rw[cB,sr,adW]
   cases kl<;>simp[lY]
  clear g1 g2 g3 g4 ho hk hs b0 b1 b3 hr ih hsl hll sr ha hb hl
  show ∃r' H',W1.call 212 [.list k sz (u8s es),.agg (cE 3 0 [] kl szl rows),.ptr (.box a) 0] H=some (r',H')/\_
  refine aL rfl Tryz.func212 rfl ?_
  refine gx5 @xG @blk @dB @jL @jY ?_
  refine bU [(2,4)] Bo kZq (fun p hp=>?_) ?_
  ·simp only[acg] at hp
   subst hp
   refine dI (x:=.ptr (.box H.boxes.length) 3) (v:=.list kl szl rows) kZq rfl rfl rfl kZq (sv0) ?_ ?_<;>(simp only[abO,abY];exact gz6 @xG @blk @dB @jL @jY @and_self)
  refine gx5 @xG @blk @dB @jL @jY ?_
  refine aD (fun m e H1=>∃(i:Nat) (t:Tok),i<=l.length/\m=l.length - i/\e.get 0=.list t 1 (u8s (es++[3]++jH 9 l.length++jB (l.take i)))/\e.get 2=.ptr (.box a) 0/\e.get 17=.list kl szl rows/\e.get 18=.v (.int .i64 (l.length:Nat))/\e.get 19=.v (.int .i64 i)/\e.defers=[]/\Grown n0 H H1 t) ?_ l.length _ _ ?_
  rotate_left 1
  ·refine⟨0,t3,abG _,rfl,?_,?_,?_,?_,?_,?_,kG.out⟩<;>(first|assumption|(simp only[gW,reduceIte,abn,gBQ,abY,jB,ab2]<;>first|rfl|(rw[hlI])))
  clear c3 ap l0 l1 l3 kG hw
  rintro m e H1 ⟨i,t,hi,rfl,g0,g2,g17,g18,g19,hd,hG⟩
  have kG:=ah.mk hG
  clear hG
  by_cases hlt:i<l.length
  ·obtain⟨v,hv⟩:∃v,l[i]?=some v:=⟨_,abo hlt⟩
   obtain⟨r,hr⟩:∃r,rows[i]?=some r:=⟨_,abo (by omega)⟩
   have hrow:=kr.out i v r hv hr
   have h4:szl=4:=ksl.out (by rintro rfl;simp at hr)
   subst h4
   have gp:=kG.out.push r
   have es1:=GU hv
   have el:=MC l (i+1)
   rw[es1,abx] at el
   have hl:=kl2.out
   have nl:=et 9 l.length
   obtain⟨r2,H2,c2,t2,rfl,g3⟩:=kih.out i v r hv hr a b (es++[3]++jH 9 l.length++jB (l.take i)) t 1 n0 (H1.push r) (gp.box _ _ kha.out) (gp.box _ _ khb.out) gp.ok gp.can (abT h0 gp.tn) (.inl rfl) (by simp;omega)
   rw[show es++[3]++jH 9 l.length++jB (l.take i)++fB v=es++[3]++jH 9 l.length++jB (l.take (i+1)) by rw[es1];simp] at c2
   have kG2:=ah.mk (gp.trans g3)
   have ld:=ND (H:=H1) hrow.len hr
   have st:=stv (H:=H1) hrow
   have l2:ai Tryz.prog Gt (H1.push r) 96 (.ptr (.box H1.boxes.length) 0)=some (.agg r):=ldv hrow.len (ak _ _)
   have l5:=ldk hrow (ak H1 r)
   have l6:=NG (gp.box _ _ kha.out)
   have l7:=ldf (v:=v) (gp.box _ _ khb.out)
   have ik:=ixk (b:=b) (v:=v)
   have zz:=JJ
   have s96:=tX
   have hlI2:(i:Int)<(rows.length:Int):=by omega
   generalize wfn v=fv at *
   generalize JS a v=cv at *
   generalize vC v=kv at *
   clear gp g3 es1 el hl nl hv hr hrow kG
   repeat' (first|simp(maxSteps:=999999)(disch:=first|exact dZ|fail)only[gW,reduceIte,abn,gBQ,xG,al,jL,vB, *]|refine dX ?_ ?_<;>(intro _;try omega))
   refine bf Bo kZq ?_
   refine gx6 @xG @al @jL @vB @ab9.{0} @ab3.{0} ?_
   exact⟨l.length - (i+1),by omega,i+1,t2,by omega,rfl,by trivial,by trivial,by trivial,by trivial,by simp,by trivial,kG2.out⟩
  ·have:i=l.length:=by omega
   subst this
   rw[abU] at g0
   have ee:es++[3]++jH 9 l.length++jB l=es++3::(jH 9 l.length++jB l):=by simp
   rw[ee] at g0
   repeat' (first|simp(maxSteps:=999999)(disch:=first|exact dZ|fail)only[gW,reduceIte,abn,gBQ,xG, *]|refine dX ?_ ?_<;>(intro _;try omega))
   exact⟨_,_,rfl,_,rfl,kG.out⟩
theorem Rf:Tryz.f183.results.toList=[.tmp 2]:=kZq
theorem EC:Tryz.f146.results.toList=[.tmp 2,.tmp 3]:=kZq
theorem JW{v:Vl}{r:List AV}(hv:eo v r)(hd:eD v<=16)(h:ae):∃h',W1.call 183 [.agg r] h=some (.ret (im 0),h')/\Ext h h':=by
 obtain⟨h1,c1,x1⟩:=GQ hv (by omega) (h.push r)
 have cs:=hv.cells
 have ld:=ldv hv.len (ak h r)
 have kx:=ah.mk ((Ext.push h r).trans x1)
 have hle:¬((16:Int)<((eD v:Nat):Int)):=by omega
 clear hv x1 hd
 unfold im
 refine dL rfl Tryz.func183 rfl ?_
 refine gx1 @Rf ?_
 exact⟨_,rfl,kx.out⟩
theorem GV{v:Vl}{r:List AV}(hv:eo v r)(hd:eD v<=16)(hl:(fB v).length<=1099511627000)(h:ae)(ho:aZ h=true):
 ∃r' h',W1.call 146 [.agg r] h=some (r',h')/\∃t,r'=.ret (.tuple [.list t 1 (u8s (fB v)),.v (.int .i64 0)])/\Ext h h':=by
 obtain⟨h1,c1,x1⟩:=JW hv hd (h.push r)
 unfold im at c1
 have x2:=(Ext.push h r).trans x1
 have cs:=hv.cells
 have b0:=ak h r
 have b1:=x1.box _ _ b0
 have c2:=GR h1
 have b2:((h1.push (lM (h1.boxes.length+1))).push [.ptr (.box h1.boxes.length) 0]).boxes[h.boxes.length]?=some r:=aj (aj b1)
 have bb:((h1.push (lM (h1.boxes.length+1))).push [.ptr (.box h1.boxes.length) 0]).boxes[h1.boxes.length]?=some (lM (h1.boxes.length+1)):=aj (ak _ _)
 have ba:((h1.push (lM (h1.boxes.length+1))).push [.ptr (.box h1.boxes.length) 0]).boxes[h1.boxes.length+1]?=some [.ptr (.box h1.boxes.length) 0]:=cD (by rw[az])
 have x3:Ext h1 ((h1.push (lM (h1.boxes.length+1))).push [.ptr (.box h1.boxes.length) 0]):=(Ext.push _ _).trans (.push _ _)
 have ok3:=(x2.trans x3).ok ho
 obtain⟨r4,h4,c4,t,rfl,g4⟩:=JV hv (h1.boxes.length+1) h1.boxes.length [] .nil 0 h.tn _ ba bb ok3 (.inl rfl) (x2.trans x3).tn (.inr ⟨rfl,rfl⟩) (by simpa using hl)
 rw[ab9] at c4
 have kX:=ah.mk (g4.ext (x2.trans x3) (abq _))
 have ld0:=ldv hv.len b0
 have ld1:=ldv hv.len b1
 have ld2:=ldv hv.len b2
 have lk1:=ldk hv b1
 have lk2:=ldk hv b2
 have lf:=ldf (v:=v) bb
 have ik:=ixk (b:=h1.boxes.length) (v:=v)
 have hsm:=JU v r hv
 have c4:W1.call (wfn v) (.list .nil 0 []::.agg r::JS (h1.boxes.length+1) v) ((h1.push (lM (h1.boxes.length+1))).push [.ptr (.box h1.boxes.length) 0])=some (.ret (.list t 1 (u8s (fB v))),h4):=c4
 generalize wfn v=fv at *
 generalize JS (h1.boxes.length+1) v=cv at *
 generalize hkv:vC v=kv at *
 generalize hH3:(h1.push (lM (h1.boxes.length+1))).push [.ptr (.box h1.boxes.length) 0]=H3 at *
 have sv0:cB (.agg r) (.agg r)=true:=by rw[cB,hsm]
 clear hv x1 hd x2 b0 b1 b2 bb ba x3 ok3 g4 ho hl hsm hH3
 refine aL rfl Tryz.func146 rfl ?_
 refine gx5 @EC @jL @vB @ab9.{0} @ab3.{0} ?_
 refine bU [(0,2),(0,7)] Bo kZq (fun p hp=>?_) ?_
 ·simp only[acd,adj,or_false] at hp
  rcases hp with rfl|rfl
  ·refine dI (x:=.ptr (.box h.boxes.length) 0) (v:=.v (.int .i64 (kv:Nat))) kZq rfl rfl rfl kZq (by simp[cB,gB]) ?_ ?_<;>(simp only[abO,abY];exact gz4 @EC @jL @vB @and_self)
  ·refine dI (x:=.ptr (.box h.boxes.length) 0) (v:=.agg r) kZq rfl rfl rfl kZq (sv0) ?_ ?_<;>(simp only[abO,abY];exact gz4 @EC @jL @vB @and_self)
 refine gx5 @EC @jL @vB @ab9.{0} @ab3.{0} ?_
 exact⟨_,_,rfl,_,rfl,kX.out⟩
mutual
theorem eo.hold(v:Vl):∀r,eo v r->eo v (bM r)/\bA 0 0 0 (bM r)=true:=by
 intro r h
 cases h with
 |int n hn=>exact⟨.int n hn,rfl⟩
 |text s hs=>exact⟨.text s hs,rfl⟩
 |list l k sz rows hl hs hm hr=>
  obtain⟨h1,h2⟩:=eo.holds l rows hl hr
  have e:bM (cE 3 0 [] k sz rows)=cE 3 0 [] (di k) sz (eF rows):=rfl
  rw[e]
  refine⟨.list l _ sz _ (by rw[mH];exact hl) (fun q=>hs fun q2=>q (by rw[q2];rfl)) (by rw[mH];exact hm) h1,?_⟩
  unfold cE
  simp[bA,aV,im,sv,bV,h2]
theorem eo.holds(l:List Vl):∀rows:List (List AV),rows.length=l.length->(∀(i:Nat) v r,l[i]?=some v->rows[i]?=some r->eo v r)->(∀(i:Nat) v r,l[i]?=some v->(eF rows)[i]?=some r->eo v r)/\gH 0 0 0 (eF rows)=true:=by
 intro rows hl h
 match l,rows,hl,h with
 | [],[],_,_=>exact⟨fun i v r hv=>by simp at hv,rfl⟩
 |v::l,r::rows,hl,h=>
  obtain⟨h1,h2⟩:=eo.hold v r (h 0 v r rfl rfl)
  obtain⟨h3,h4⟩:=eo.holds l rows (by simpa using hl) fun i v r hv hr=>h (i+1) v r (by simpa using hv) (by simpa using hr)
  refine⟨fun i v' r' hv hr=>?_,by rw[eF,gH,h2,h4];rfl⟩
  cases i with
  |zero=>injection hv with hv;injection hr with hr;subst hv;subst hr;exact h1
  |succ i=>exact h3 i v' r' hv hr
end
theorem UX:Tryz.f186.results.toList=[.tmp 2]:=kZq
theorem UY:Tryz.f187.results.toList=[.tmp 2]:=kZq
theorem XM:Tryz.f163.results.toList=[.tmp 2]:=kZq
theorem Va{v:Vl}{r:List AV}(hv:eo v r):∀h,∃h',W1.call 186 [.agg r] h=some (.ret (.v (.bool true)),h')/\Ext h h':=by
 have u9:=Tryz.underlying9;have u94:=Tryz.underlying94;have s96:=tX
 induction hv with
 |int n hn=>
  intro h
  refine dL rfl Tryz.func186 rfl ?_
  repeat' (first|simp(maxSteps:=999999)(disch:=first|exact dZ|fail)only[gW,reduceIte,abn,gBQ,UX,dB,MB,GO,GP,vy,jL,ab7,acT,decide_true, *]|refine dX ?_ ?_<;>(intro _;try omega))
  all_goals exact⟨_,rfl,Ext.push _ _⟩
 |text s hs=>
  intro h
  refine dL rfl Tryz.func186 rfl ?_
  repeat' (first|simp(maxSteps:=999999)(disch:=first|exact dZ|fail)only[gW,reduceIte,abn,gBQ,UX,dB,MB,GO,GP,vy,jL,ab7,acT,decide_true, *]|refine dX ?_ ?_<;>(intro _;try omega))
  all_goals exact⟨_,rfl,Ext.push _ _⟩
 |list l k sz rows hl hs hm hr ih=>
  intro h
  have kr:=ah.mk hr
  have kih:=ah.mk ih
  have kh:=ah.mk hs
  have kl:=ah.mk hl
  refine dL rfl Tryz.func186 rfl ?_
  clear hr ih hs hl
  repeat' (first|simp(maxSteps:=999999)(disch:=first|exact dZ|fail)only[gW,reduceIte,abn,gBQ,UX,dB,MB,GO,GP,vy,jL,acT,decide_true, *]|refine dX ?_ ?_<;>(intro _;try omega))
  refine aD (fun m e H=>∃i:Nat,i<=rows.length/\m=rows.length - i/\e.get 1=.ptr (.box h.boxes.length) 0/\e.get 3=.v (.int .i64 i)/\e.defers=[]/\H.boxes[h.boxes.length]?=some (cE 3 0 [] k sz rows)/\Ext h H) ?_ rows.length _ _ ?_
  rotate_left 1
  ·refine⟨0,abG _,rfl,?_,?_,?_,ak _ _,Ext.push _ _⟩<;>(first|assumption|(exact gR))
  rintro m e H ⟨i,hi,rfl,g1,g3,hd,hb,hX⟩
  have kX:=ah.mk hX
  have kb:=ah.mk hb
  have l0:=MB hb
  have l1:=GO hb
  have l2:=GP hb
  have l3:=vy hb
  clear hX hb
  by_cases hlt:i<rows.length
  ·obtain⟨r,hr⟩:∃r,rows[i]?=some r:=⟨_,abo hlt⟩
   obtain⟨v,hv⟩:∃v,l[i]?=some v:=⟨_,abo (by have:=kl.out;omega)⟩
   have hrow:=kr.out i v r hv hr
   have h4:sz=4:=kh.out (by rintro rfl;simp at hlt)
   subst h4
   obtain⟨H2,c1,x1⟩:=kih.out i v r hv hr H
   have ld:=ND (H:=H) hrow.len hr
   have kX2:=ah.mk (kX.out.trans x1)
   have kb2:=ah.mk (x1.box _ _ kb.out)
   have hlI:(i:Int)<(rows.length:Int):=by omega
   clear kX hrow hv hr x1
   refine gx3 @UX @al @jL ?_
   exact⟨rows.length - (i+1),by omega,i+1,by omega,rfl,by trivial,by simp,by trivial,kb2.out,kX2.out⟩
  ·have:i=rows.length:=by omega
   subst this
   repeat' (first|simp(maxSteps:=999999)(disch:=first|exact dZ|fail)only[gW,reduceIte,abn,gBQ,UX,jL,decide_true, *]|refine dX ?_ ?_<;>(intro _;try omega))
   exact⟨_,rfl,kX.out⟩
theorem Vy{v:Vl}{r:List AV}(hv:eo v r):eD v<=100->∀h,∃h',W1.call 187 [.agg r] h=some (.ret (.v (.int .i64 (eD v:Nat))),h')/\Ext h h':=by
 have u9:=Tryz.underlying9;have u94:=Tryz.underlying94;have s96:=tX
 induction hv with
 |int n hn=>
  intro _ h
  refine dL rfl Tryz.func187 rfl ?_
  show Run _ _ _ _ (FT _ _ _ _ (.ret (.v (.int .i64 0))) _)
  repeat' (first|simp(maxSteps:=999999)(disch:=first|exact dZ|fail)only[gW,reduceIte,abn,gBQ,UY,dB,MB,jL, *]|refine dX ?_ ?_<;>(intro _;try omega))
  exact⟨_,rfl,Ext.push _ _⟩
 |text s hs=>
  intro _ h
  refine dL rfl Tryz.func187 rfl ?_
  show Run _ _ _ _ (FT _ _ _ _ (.ret (.v (.int .i64 0))) _)
  repeat' (first|simp(maxSteps:=999999)(disch:=first|exact dZ|fail)only[gW,reduceIte,abn,gBQ,UY,dB,MB,jL, *]|refine dX ?_ ?_<;>(intro _;try omega))
  exact⟨_,rfl,Ext.push _ _⟩
 |list l k sz rows hl hs hm hr ih=>
  intro hd h
  have kd:=ah.mk hd
  have kr:=ah.mk hr
  have kih:=ah.mk ih
  have kh:=ah.mk hs
  have kl:=ah.mk hl
  refine dL rfl Tryz.func187 rfl ?_
  clear hr ih hs hl hd
  refine gx4 @UY @dB @MB @jL ?_
  refine aD (fun m e H=>∃i:Nat,i<=rows.length/\m=rows.length - i/\e.get 1=.ptr (.box h.boxes.length) 0/\e.get 3=.v (.int .i64 (dN (l.take i):Nat))/\e.get 4=.v (.int .i64 i)/\e.defers=[]/\H.boxes[h.boxes.length]?=some (cE 3 0 [] k sz rows)/\Ext h H) ?_ rows.length _ _ ?_
  rotate_left 1
  ·refine⟨0,abG _,rfl,?_,?_,?_,?_,ak _ _,Ext.push _ _⟩<;>(first|assumption|(exact gR))
  rintro m e H ⟨i,hi,rfl,g1,g3,g4,hd,hb,hX⟩
  have kX:=ah.mk hX
  have kb:=ah.mk hb
  have l3:=vy hb
  have hdl:eD (.list l)=dN l+1:=rfl
  have hdk:=kd.out
  rw[hdl] at hdk
  clear hX hb
  by_cases hlt:i<rows.length
  ·obtain⟨r,hr⟩:∃r,rows[i]?=some r:=⟨_,abo hlt⟩
   obtain⟨v,hv⟩:∃v,l[i]?=some v:=⟨_,abo (by have:=kl.out;omega)⟩
   have hrow:=kr.out i v r hv hr
   have h4:sz=4:=kh.out (by rintro rfl;simp at hlt)
   subst h4
   have hdv:=JM hv
   have hdt:=vA l i
   obtain⟨H2,c1,x1⟩:=kih.out i v r hv hr (by omega) H
   have ld:=ND (H:=H) hrow.len hr
   have kX2:=ah.mk (kX.out.trans x1)
   have kb2:=ah.mk (x1.box _ _ kb.out)
   have kst:=ah.mk (vz hv)
   have hlI:(i:Int)<(rows.length:Int):=by omega
   have hmx:(if ((dN (l.take i):Nat):Int)<((eD v:Nat):Int) then ((eD v:Nat):Int) else ((dN (l.take i):Nat):Int))=((max (dN (l.take i)) (eD v):Nat):Int):=by
    split<;>omega
   clear kX hrow hv hr x1 hdl
   refine gx4 @UY @al @jL @pc ?_
   exact⟨rows.length - (i+1),by omega,i+1,by omega,rfl,by trivial,by rw[kst.out],by simp,by trivial,kb2.out,kX2.out⟩
  ·have:i=rows.length:=by omega
   subst this
   have e1:l.take rows.length=l:=by rw[kl.out];exact abU
   rw[e1] at g3
   rw[hdl]
   have e2:((dN l+1:Nat):Int)=((dN l:Nat):Int)+1:=by omega
   repeat' (first|simp(maxSteps:=999999)(disch:=first|exact dZ|fail)only[gW,reduceIte,abn,gBQ,UY,jL, *]|refine dX ?_ ?_<;>(intro _;try omega))
   exact⟨_,rfl,kX.out⟩
theorem Vz{v:Vl}{r:List AV}(hv:eo v r)(hd:eD v<=16)(h:ae):∃h',W1.call 163 [.agg r] h=some (.ret (im 0),h')/\Ext h h':=by
 obtain⟨h1,c1,x1⟩:=Va hv (h.push r)
 obtain⟨h2,c2,x2⟩:=Vy hv (by omega) h1
 have cs:=hv.cells
 have ld:=ldv hv.len (ak h r)
 have ld2:=ldv hv.len (x1.box _ _ (ak h r))
 have kx:=ah.mk (((Ext.push h r).trans x1).trans x2)
 have hle:¬((16:Int)<((eD v:Nat):Int)):=by omega
 clear hv x1 x2 hd
 unfold im
 refine dL rfl Tryz.func163 rfl ?_
 refine gx1 @XM ?_
 exact⟨_,rfl,kx.out⟩
theorem WM:Tryz.f188.results.toList=[.tmp 2]:=kZq
theorem XN:Tryz.f189.results.toList=[.tmp 2]:=kZq
theorem Uz:Tryz.f164.results.toList=[.tmp 2]:=kZq
theorem XO:Tryz.f118.results.toList=[.tmp 2,.tmp 3]:=kZq
theorem u8w(c:Nat)(hc:c<256):u8v (UInt8.ofNat c)=.v (.int .u8 (c:Nat)):=by
 have:(UInt8.ofNat c).toNat=c%256:=UInt8.toNat_ofNat'
 unfold u8v
 rw[this,acn hc]
theorem Ux(k u:Nat):jH k u≠[]:=by
 cases k with
 |zero=>simp[jH]
 |succ k=>rw[jH];split<;>simp
theorem UZ{H:ae}{k t:Tok}{n0:Nat}{es new:List UInt8}(hne:new≠[])(hl:es.length+new.length<=8796093022208)(hk:bG n0 H k):
 bP Tryz.prog H #[28,28] (.list k 1 (u8s es)) (.list t 1 (u8s new))=some (.list (.free H.tn) 1 (u8s (es++new)),H.app k):=
 NF (.inl ⟨_,Tryz.underlying28⟩) Uy hne hl (.inl rfl) hk
theorem Ui:∀(k u:Nat),k<=9->u<2 * 128^k->∀h,aZ h=true->∃r h',W1.call 188 [.v (.int .u64 (u:Nat))] h=some (r,h')/\∃t,r=.ret (.list t 1 (u8s (jH k u)))/\Grown h.tn h h' t:=by
 have last:∀(k u:Nat),u<128->∀h,aZ h=true->∃r h',W1.call 188 [.v (.int .u64 (u:Nat))] h=some (r,h')/\∃t,r=.ret (.list t 1 (u8s (jH k u)))/\Grown h.tn h h' t:=by
  intro k u hu h ho
  rw[Gc hu]
  have bl:=JP (UInt8.ofNat u)
  rw[u8w u (by omega)] at bl
  have e:u8s [UInt8.ofNat u]=[[.v (.int .u8 (u:Nat))]]:=by
   show[[u8v (UInt8.ofNat u)]]=_
   rw[u8w u (by omega)]
  rw[e]
  have hlt:((u:Nat):Int)<128:=by omega
  have kG:=ah.mk (Grown.refl (n0:=h.tn) (k:=.tight) (.inr (.inl rfl)) ho)
  clear ho hu e
  refine aL rfl Tryz.func188 rfl ?_
  refine gx2 @WM @zj ?_
  exact⟨_,_,rfl,_,rfl,kG.out⟩
 intro k
 induction k with
 |zero=>intro u _ hu;exact last 0 u (by simpa using Nat.lt_trans hu (by decide))
 |succ k ih=>
  intro u hk hu h ho
  by_cases h128:u<128
  ·exact last _ u h128 h ho
  ·rw[Gb (by omega)]
   obtain⟨r1,h1,c1,t,rfl,g1⟩:=ih (u/128) (by omega) (by rw[aeg] at hu;omega) h ho
   have bl:=JP (UInt8.ofNat (u%128+128))
   have nl:=et k (u/128)
   have ap:=UZ (H:=h1) (k:=.tight) (t:=t) (n0:=h.tn) (es:=[UInt8.ofNat (u%128+128)]) (Ux k (u/128)) (by simp;omega) (.inr (.inl rfl))
   have e:u8s [UInt8.ofNat (u%128+128)]=[[.v (.int .u8 ((u%128+128:Nat):Int))]]:=by
    show[[u8v (UInt8.ofNat (u%128+128))]]=_
    rw[u8w _ (by omega)]
   rw[e] at ap
   rw[u8w (u%128+128) (by omega)] at bl
   have g2:Grown h.tn h h1 .tight:=⟨g1.box,g1.loop,.inr (.inl rfl),g1.ok,g1.tn,g1.dead⟩
   have kG:=ah.mk (g2.app (abq _))
   have hlt:¬((u:Nat):Int)<128:=by omega
   have m1:((u:Nat):Int).tmod 128=((u%128:Nat):Int):=rE u 128
   have m2:((u:Nat):Int).tdiv 128=((u/128:Nat):Int):=Qs u 128
   have w1:IntKind.u64.wrap (((u%128:Nat):Int)+128)=((u%128+128:Nat):Int):=by
    rw[show((u%128:Nat):Int)+128=((u%128+128:Nat):Int) by omega,JG (by omega)]
   have w2:IntKind.u64.wrap ((u/128:Nat):Int)=((u/128:Nat):Int):=by
    have:2 * 128^(k+1)<=2 * 128^9:=Nat.mul_le_mul_left _ (Nat.pow_le_pow_right (by decide) hk)
    exact JG (by omega)
   clear ho hu h128 ih g1 g2 e nl
   refine aL rfl Tryz.func188 rfl ?_
   refine gx2 @WM @zj ?_
   exact⟨_,_,rfl,_,rfl,kG.out⟩
theorem UN(n:Nat)(hn:n<=4611686018427387903)(h:ae):W1.call 189 [.v (.int .i64 (n:Nat))] h=some (.ret (.v (.int .u64 (oK n:Nat))),h):=by
 have e:oK (n:Int)=2 * n:=by unfold oK;rw[if_pos (by omega),abB]
 rw[e]
 have e1:=JG (n:=n) (by omega)
 have e2:IntKind.u64.wrap (2 * ((n:Nat):Int))=((2 * n:Nat):Int):=by
  rw[show 2 * ((n:Nat):Int)=((2 * n:Nat):Int) by omega,JG (by omega)]
 have e3:(0:Int)<=((n:Nat):Int):=by omega
 refine ar rfl Tryz.func189 rfl ?_
 exact gz2 @XN @jY
theorem Wl(v:Vl):fB v≠[]:=by cases v<;>simp[fB]
theorem _root_.Go.AE.Grown.re{n0:Nat}{h h':ae}{t k:Tok}(g:Grown n0 h h' t)(hk:bG n0 h' k):Grown n0 h h' k:=⟨g.box,g.loop,hk,g.ok,g.tn,g.dead⟩
theorem _root_.Go.AE.Grown.tS{n0 n1:Nat}{h h':ae}{t:Tok}(g:Grown n1 h h' t)(hn:n0<=n1):Grown n0 h h' t:=⟨g.box,g.loop,g.can.mono hn,g.ok,g.tn,fun n hl hd=>g.dead n (ab8 hl hn) hd⟩
theorem _root_.Go.AE.Grown.beside{n0:Nat}{h h':ae}{t k:Tok}(g:Grown h.tn h h' t)(hk:bG n0 h k):bG n0 h' k:=by
 rcases hk with rfl|rfl|⟨m,rfl,hm,ha⟩
 ·exact .inl rfl
 ·exact .inr (.inl rfl)
 ·refine .inr (.inr ⟨m,rfl,hm,?_⟩)
  have hlt:=gG ha
  unfold alive at ha ⊢
  simp only[abr,decide_eq_true_eq,ac0,List.contains_eq_mem,decide_eq_false_iff_not] at ha ⊢
  exact⟨ab8 hlt g.tn,fun hd=>ha.2 (g.dead m hlt hd)⟩
theorem Vb{v:Vl}{r:List AV}(hv:eo v r):(fB v).length<=1099511627000->∀h,aZ h=true->∃r' h',W1.call 164 [.agg r] h=some (r',h')/\∃t,r'=.ret (.list t 1 (u8s (fB v)))/\Grown h.tn h h' t:=by
 induction hv with
 |int n hn=>
  intro _ h ho
  obtain⟨m,rfl⟩:∃m:Nat,n=m:=⟨n.toNat,by omega⟩
  have hu:oK ((m:Nat):Int)<2 * 128^9:=by unfold oK;rw[if_pos (by omega)];omega
  have g0:Grown h.tn h (h.push (cE 1 (m:Nat) [] .nil 0 [])) .tight:=(Grown.refl (.inr (.inl rfl)) ho).push _
  obtain⟨r1,h1,c1,t,rfl,g1⟩:=Ui 9 (oK ((m:Nat):Int)) (abq _) hu _ g0.ok
  have nl:=et 9 (oK ((m:Nat):Int))
  have ap:=UZ (H:=h1) (k:=.tight) (t:=t) (n0:=h.tn) (es:=[1]) (Ux 9 (oK ((m:Nat):Int))) (by simp;omega) (.inr (.inl rfl))
  have kG:=ah.mk ((g0.trans (g1.re (.inr (.inl rfl)))).app (abq _))
  have cu:=UN m (by omega)
  have ap:bP Tryz.prog h1 #[28,28] (.list .tight 1 [[u8v 1]]) (.list t 1 (u8s (jH 9 (oK ((m:Nat):Int)))))=some (.list (.free h1.tn) 1 (u8s (fB (.int (m:Nat)))),h1.app .tight):=by rw[fB];exact ap
  clear g0 g1 hu hn ho nl
  refine aL rfl Tryz.func164 rfl ?_
  refine gx6 @Uz @blk @dB @MB @GO @jL ?_
  exact⟨_,_,rfl,_,rfl,kG.out⟩
 |text s hs=>
  intro hl h ho
  have enc:fB (.text s)=2::(jH 9 s.length++s):=by rw[fB]
  rw[enc] at hl ⊢
  simp only[ab0,abx] at hl
  have g0:Grown h.tn h (h.push (cE 2 0 s .nil 0 [])) .tight:=(Grown.refl (.inr (.inl rfl)) ho).push _
  obtain⟨r1,h1,c1,t,rfl,g1⟩:=Ui 9 s.length (abq _) (by omega) _ g0.ok
  have ap:=UZ (H:=h1) (k:=.tight) (t:=t) (n0:=h.tn) (es:=[2]) (Ux 9 s.length) (by simp;omega) (.inr (.inl rfl))
  have g2:=(g0.trans (g1.re (.inr (.inl rfl)))).app (abq _)
  obtain⟨t4,h4,ap4,g5⟩:=Re (es:=[2]++jH 9 s.length) (s:=s) (by simp;omega) g2.can g2.ok g2.tn
  have kG:=ah.mk (g2.trans g5)
  have ap:bP Tryz.prog h1 #[28,28] (.list .tight 1 [[u8v 2]]) (.list t 1 (u8s (jH 9 s.length)))=some (.list (.free h1.tn) 1 (u8s ([2]++jH 9 s.length)),h1.app .tight):=ap
  have e4:[2]++jH 9 s.length++s=2::(jH 9 s.length++s):=by simp
  rw[e4] at ap4
  have b0:=ak h (cE 2 0 s .nil 0 [])
  have b1:=g1.box _ _ b0
  have b2:(h1.app .tight).boxes[h.boxes.length]?=some (cE 2 0 s .nil 0 []):=by rw[aT];exact b1
  have l0:=GP b0
  have l1:=GP b1
  have l2:=GP b2
  have sl:=O9 s
  have hw:=JG (n:=s.length) (by omega)
  clear g0 g1 g2 g5 ho enc e4 b0 b1 b2 hl
  refine aL rfl Tryz.func164 rfl ?_
  repeat' (first|simp(maxSteps:=999999)(disch:=first|exact dZ|fail)only[gW,reduceIte,abn,gBQ,Uz,blk,dB,MB,jL,jY, *]|refine dX ?_ ?_<;>(intro _;try omega))
  refine bU [(5,8),(6,8)] Bo kZq (fun p hp=>?_) ?_
  ·simp only[acd,adj,or_false] at hp
   rcases hp with rfl|rfl
   all_goals
    refine dI (x:=.ptr (.box h.boxes.length) 2) (v:=.v (.string (bs s))) kZq rfl rfl rfl kZq (by simp[cB,gB]) ?_ ?_<;>(simp only[abO,abY];exact gz6 @Uz @blk @dB @jL @jY @and_self)
  refine gx5 @Uz @blk @dB @jL @jY ?_
  exact⟨_,_,rfl,_,rfl,kG.out⟩
 |list l kl sz rows hl hs hm hr ih=>
  intro hlen h ho
  have kr:=ah.mk hr
  have kih:=ah.mk ih
  have kh:=ah.mk hs
  have kl2:=ah.mk hl
  have enc:fB (.list l)=3::(jH 9 l.length++jB l):=by rw[fB]
  rw[enc] at hlen ⊢
  simp only[ab0,abx] at hlen
  have g0:Grown h.tn h (h.push (cE 3 0 [] kl sz rows)) .tight:=(Grown.refl (.inr (.inl rfl)) ho).push _
  obtain⟨r1,h1,c1,t,rfl,g1⟩:=Ui 9 l.length (abq _) (by omega) _ g0.ok
  have nl:=et 9 l.length
  have ap:=UZ (H:=h1) (k:=.tight) (t:=t) (n0:=h.tn) (es:=[3]) (Ux 9 l.length) (by simp;omega) (.inr (.inl rfl))
  have g2:=(g0.trans (g1.re (.inr (.inl rfl)))).app (abq _)
  have ap:bP Tryz.prog h1 #[28,28] (.list .tight 1 [[u8v 3]]) (.list t 1 (u8s (jH 9 l.length)))=some (.list (.free h1.tn) 1 (u8s ([3]++jH 9 l.length)),h1.app .tight):=ap
  have b0:=ak h (cE 3 0 [] kl sz rows)
  have b1:=g1.box _ _ b0
  have b2:(h1.app .tight).boxes[h.boxes.length]?=some (cE 3 0 [] kl sz rows):=by rw[aT];exact b1
  have l0:=vy b0
  have u94:=Tryz.underlying94
  have hw:=JG (n:=rows.length) (by omega)
  have c1:W1.call 188 [.v (.int .u64 ((rows.length:Nat):Int))] (h.push (cE 3 0 [] kl sz rows))=some (.ret (.list t 1 (u8s (jH 9 l.length))),h1):=by rw[hl];exact c1
  have kG:=ah.mk g2
  have kb:=ah.mk b2
  have klen:=ah.mk hlen
  clear g0 g1 g2 ho enc hr ih hs hl hlen b0 b1 b2
  refine aL rfl Tryz.func164 rfl ?_
  repeat' (first|simp(maxSteps:=999999)(disch:=first|exact dZ|fail)only[gW,reduceIte,abn,gBQ,Uz,blk,dB,MB,jL,jY, *]|refine dX ?_ ?_<;>(intro _;try omega))
  refine aD (fun m e H1=>∃(i:Nat) (t:Tok),i<=rows.length/\m=rows.length - i/\e.get 1=.ptr (.box h.boxes.length) 0/\e.get 3=.list t 1 (u8s ([3]++jH 9 l.length++jB (l.take i)))/\e.get 4=.v (.int .i64 i)/\e.defers=[]/\H1.boxes[h.boxes.length]?=some (cE 3 0 [] kl sz rows)/\Grown h.tn h H1 t) ?_ rows.length _ _ ?_
  rotate_left 1
  ·refine⟨0,.free h1.tn,abG _,rfl,?_,?_,?_,?_,kb.out,kG.out⟩<;>(first|assumption|(simp only[gW,reduceIte,abn,gBQ,abY,jB,ab2]<;>rfl))
  clear c1 ap l0 kG kb hw
  rintro m e H1 ⟨i,t,hi,rfl,g1,g3,g4,hd,hb,hG⟩
  have kG:=ah.mk hG
  have kb:=ah.mk hb
  have l3:=vy hb
  clear hG hb
  by_cases hlt:i<rows.length
  ·obtain⟨r,hr⟩:∃r,rows[i]?=some r:=⟨_,abo hlt⟩
   obtain⟨v,hv⟩:∃v,l[i]?=some v:=⟨_,abo (by have:=kl2.out;omega)⟩
   have hrow:=kr.out i v r hv hr
   have h4:sz=4:=kh.out (by rintro rfl;simp at hlt)
   subst h4
   have es1:=GU hv
   have el:=MC l (i+1)
   rw[es1,abx] at el
   have hl:=klen.out
   obtain⟨r2,H2,c2,t2,rfl,g5⟩:=kih.out i v r hv hr (by omega) H1 kG.out.ok
   have can2:=g5.beside kG.out.can
   have ap2:=UZ (H:=H2) (k:=t) (t:=t2) (n0:=h.tn) (es:=[3]++jH 9 l.length++jB (l.take i)) (Wl v) (by simp;omega) can2
   rw[show[3]++jH 9 l.length++jB (l.take i)++fB v=[3]++jH 9 l.length++jB (l.take (i+1)) by rw[es1];simp] at ap2
   have kG2:=ah.mk ((kG.out.trans ((g5.tS kG.out.tn).re can2)).app (abq _))
   have kb2:ah ((H2.app t).boxes[h.boxes.length]?=some (cE 3 0 [] kl 4 rows)):=⟨by rw[aT];exact g5.box _ _ kb.out⟩
   have ld:=ND (H:=H1) hrow.len hr
   have s96:=tX
   have hlI:(i:Int)<(rows.length:Int):=by omega
   clear kG hrow hv hr g5 can2 es1 el hl nl
   refine gx3 @Uz @al @jL ?_
   exact⟨rows.length - (i+1),by omega,i+1,.free H2.tn,by omega,rfl,by trivial,by trivial,by simp,by trivial,kb2.out,kG2.out⟩
  ·have:i=rows.length:=by omega
   subst this
   rw[show l.take rows.length=l by rw[kl2.out];exact abU] at g3
   have ee:[3]++jH 9 l.length++jB l=3::(jH 9 l.length++jB l):=by simp
   rw[ee] at g3
   repeat' (first|simp(maxSteps:=999999)(disch:=first|exact dZ|fail)only[gW,reduceIte,abn,gBQ,Uz,jL, *]|refine dX ?_ ?_<;>(intro _;try omega))
   exact⟨_,_,rfl,_,rfl,kG.out⟩
theorem Vc{v:Vl}{r:List AV}(hv:eo v r)(hd:eD v<=16)(hl:(fB v).length<=1099511627000)(h:ae)(ho:aZ h=true):
 ∃r' h',W1.call 118 [.agg r] h=some (r',h')/\∃t,r'=.ret (.tuple [.list t 1 (u8s (fB v)),.v (.int .i64 0)])/\Ext h h':=by
 obtain⟨h1,c1,x1⟩:=Vz hv hd (h.push r)
 unfold im at c1
 have x2:=(Ext.push h r).trans x1
 obtain⟨r2,h2,c2,t,rfl,g2⟩:=Vb hv hl h1 (x2.ok ho)
 have cs:=hv.cells
 have ld:=ldv hv.len (ak h r)
 have ld2:=ldv hv.len (x1.box _ _ (ak h r))
 have kX:=ah.mk (g2.ext x2 x2.tn)
 clear hv x1 x2 hd g2 ho hl
 refine aL rfl Tryz.func118 rfl ?_
 refine gx1 @XO ?_
 exact⟨_,_,rfl,_,rfl,kX.out⟩
theorem Us:Tryz.f214.results.toList=[.cell 4 229]:=kZq
theorem WN:cZ Tryz.prog 229=some true:=kZq
theorem U0:bF Tryz.prog 229=some 8:=kZq
theorem XP:cZ Tryz.prog 242=some true:=kZq
theorem Vq:bF Tryz.prog 242=some 64:=kZq
theorem WO:(ej Tryz.prog 229).bind AV.aC=some (ek (abt 8 0#32)):=kZq
def kW:List U32:=(aby 64).map kAt
theorem XR{t:Nat}(ht:t<64):wAt kW t=kAt t:=by
 unfold wAt kW
 rw[abw,abF,ada ht];rfl
theorem UO:kW.length=64:=rfl
theorem QL{l:List U32}:(AV.agg (ek l)).aC=some (ek l):=by
 have:(ek l).all AV.bu=true:=by
  rw[abE]
  intro x hx
  obtain⟨b,-,rfl⟩:=aco.1 hx
  rfl
 unfold AV.aC
 simp[this]
theorem ldw{H:ae}{b n:Nat}{t:TypeId}{l:List U32}(ha:cZ Tryz.prog t=some true)(hs:bF Tryz.prog t=some n)(hb:H.boxes[b]?=some (ek l))(hl:l.length=n):ai Tryz.prog Gt H t (.ptr (.box b) 0)=some (.agg (ek l)):=by
 rw[cP ha hs hb (by rw[abu];omega),abZ,abD (by rw[abu];omega)]
theorem Vd(h:ae):W1.call 225 [] h=some (.ret (.agg (ek kW)),h.push (ek kW)):=by
 have z:=QA
 have st:aA Tryz.prog (h.push (abt 64 (w32 0#32))) 242 (.ptr (.box h.boxes.length) 0) (.agg (ek kW))=some (h.push (ek kW)):=cQ QL Vq (by rw[abu,UO]) (by simp)
 have ld:ai Tryz.prog Gt (h.push (ek kW)) 242 (.ptr (.box h.boxes.length) 0)=some (.agg (ek kW)):=ldw XP Vq (ak _ _) UO
 refine ar rfl Tryz.func225 rfl ?_
 refine gx1 @WL ?_
 generalize hb:fj Tryz.prog 242 _=z
 rw[show z=some (.agg (ek kW)) from hb.symm.trans kZq]
 clear hb
 exact gz1 @WL
theorem Un{b n:Nat}{k:IntKind}(hn:n<8):ay Tryz.prog 229 (.ptr (.box b) 0) (.v (.int k (n:Nat)))=some (.ptr (.box b) n):=by
 have hu:=Tryz.underlying229
 unfold ay
 rw[hu]
 simp only[zf]
 rw[if_pos ⟨by omega,by omega⟩]
 simp
theorem YI{a b c d e f g h:U32}:wAt [a,b,c,d,e,f,g,h] 0=a/\wAt [a,b,c,d,e,f,g,h] 1=b/\wAt [a,b,c,d,e,f,g,h] 2=c/\wAt [a,b,c,d,e,f,g,h] 3=d/\wAt [a,b,c,d,e,f,g,h] 4=e/\wAt [a,b,c,d,e,f,g,h] 5=f/\wAt [a,b,c,d,e,f,g,h] 6=g/\wAt [a,b,c,d,e,f,g,h] 7=h:=⟨rfl,rfl,rfl,rfl,rfl,rfl,rfl,rfl⟩
theorem XS(a b c d e f g h:U32):fj Tryz.prog 229 [(0,w32 a),(1,w32 b),(2,w32 c),(3,w32 d),(4,w32 e),(5,w32 f),(6,w32 g),(7,w32 h)]=some (.agg (ek [a,b,c,d,e,f,g,h])):=kZq
theorem Wm(s:List U32)(b:List UInt8):vF s b 0=s:=rfl
theorem Ve(w:List U32)(t:Nat)(a b c d e f g i:U32):zd w [a,b,c,d,e,f,g,i] t=
 [i+(NT.ror e 6^^^NT.ror e 11^^^NT.ror e 25)+((e&&&f)^^^(~~~e&&&g))+kAt t+wAt w t+((NT.ror a 2^^^NT.ror a 13^^^NT.ror a 22)+((a&&&b)^^^(a&&&c)^^^(b&&&c))),
  a,b,c,d+(i+(NT.ror e 6^^^NT.ror e 11^^^NT.ror e 25)+((e&&&f)^^^(~~~e&&&g))+kAt t+wAt w t),e,f,g]:=rfl
theorem XT{u:BitVec 32}:HQ Tryz.prog .xor (w32 u)=some (w32 (~~~u)):=by
 have e:HQ Tryz.prog .xor (w32 u)=some (.v (.int .u32 (IntKind.u32.wrap ((BitVec.ofInt 32 4294967295^^^BitVec.ofInt 32 (u.toNat:Int)).toNat:Int)))):=by rfl
 rw[e,ofInt32]
 have h1:BitVec.ofInt 32 4294967295^^^u= ~~~u:=by
  apply BitVec.eq_of_getLsbD_eq
  intro i hi
  rw[BitVec.getLsbD_xor,BitVec.getLsbD_not]
  have:(BitVec.ofInt 32 4294967295).getLsbD i=true:=by
   have h:∀j:Fin 32,(BitVec.ofInt 32 4294967295).getLsbD j.val=true:=by decide
   exact h ⟨i,hi⟩
  rw[this]
  simp[hi]
 rw[h1,qu]
 rfl
theorem WQ{k:Tok}{b:List UInt8}{lo hi:Nat}(h1:lo<=hi)(h2:hi<=b.length):∃k',ck Tryz.prog 28 (.list k 1 (u8s b)) (some (.v (.int .i64 (lo:Nat)))) (some (.v (.int .i64 (hi:Nat)))) none=some (.list k' 1 (u8s ((b.take hi).drop lo))):=by
 have hb1:bX (u8s b).length none (u8s b).length=some (u8s b).length:=rfl
 have hb2:bX (u8s b).length (some (.v (.int .i64 (hi:Nat)))) (u8s b).length=some hi:=by
  show(if 0<=(hi:Int)/\(hi:Int)<=((u8s b).length:Int) then some (hi:Int).toNat else none)=_
  rw[if_pos ⟨by omega,by rw[abu];omega⟩,abB]
 have hb3:bX hi (some (.v (.int .i64 (lo:Nat)))) 0=some lo:=by
  show(if 0<=(lo:Int)/\(lo:Int)<=(hi:Int) then some (lo:Int).toNat else none)=_
  rw[if_pos ⟨by omega,by omega⟩,abB]
 refine⟨gO k (decide (hi=(u8s b).length)) false (hi - lo),?_⟩
 unfold ck
 simp only[Tryz.underlying28,sz5,hb1,hb2,hb3,Option.isSome_none,Bool.false_and,Bool.false_eq_true,if_false,true_or,if_true,Option.isNone_none,adW]
 simp only[List.map_drop,List.map_take]
theorem Vf{b:List UInt8}{i:Nat}(hi:4 * i+4<=b.length):rz ((b.take (4 * i+4)).drop (4 * i)) 0=rz b (4 * i):=by
 have key:∀k,k<4->bAt ((b.take (4 * i+4)).drop (4 * i)) k=bAt b (4 * i+k):=fun k hk=>by
  unfold bAt
  rw[abw,acw,acj,if_pos (by omega),abw]
 unfold rz
 rw[key 0 (by decide),key (0+1) (by decide),key (0+2) (by decide),key (0+3) (by decide),Nat.add_zero,acB,acB,acB]
theorem VA(s:List U32)(b:List UInt8)(k:Tok)(h:ae)(hs:s.length=8)(hb:b.length=64):
 ∃h',W1.call 214 [.agg (ek s),.list k 1 (u8s b)] h=some (.ret (.agg (ek (qy s b))),h')/\Ext h h':=by
 have z1:=WO
 have z2:=QA
 have c8:(AV.agg (ek s)).aC=some (ek s):=QL
 have kwz:=ah.mk (Ms b)
 refine dL rfl Tryz.func214 rfl ?_
 refine gx1 @Us ?_
 generalize hbl:fj Tryz.prog 242 []=z
 rw[show z=some (.agg (abt 64 (w32 0#32))) from hbl.symm.trans kZq]
 clear hbl
 generalize hH0:(h.push (ek s)).push (ek (abt 8 0#32))=H0
 have kX0:ah (Ext h H0):=⟨by rw[<-hH0];exact(Ext.push _ _).trans (.push _ _)⟩
 have kS0:ah (H0.boxes[h.boxes.length]?=some (ek s)):=⟨by rw[<-hH0];exact aj (ak _ _)⟩
 have kR0:ah (H0.boxes[h.boxes.length+1]?=some (ek (abt 8 0#32))):=⟨by rw[<-hH0];exact cD (by rw[az])⟩
 have hH0l:H0.boxes.length=h.boxes.length+2:=by rw[<-hH0,az,az]
 have kl:=ah.mk hH0l
 clear hH0l hH0
 have st0:aA Tryz.prog (H0.push (abt 64 (w32 0#32))) 242 (.ptr (.box H0.boxes.length) 0) (.agg (abt 64 (w32 0#32)))=some (H0.push (ek (wl b 0))):=by
  rw[kwz.out,<-xw]
  exact cQ QL Vq (by simp) (by simp)
 refine gx1 @Us ?_
 refine aD (fun m e H=>∃i:Nat,i<=16/\m=16 - i/\e.get 1=.list k 1 (u8s b)/\e.get 2=.ptr (.box h.boxes.length) 0/\e.get 4=.ptr (.box (h.boxes.length+1)) 0/\e.get 5=.ptr (.box H0.boxes.length) 0/\e.get 6=.v (.int .i64 i)/\e.defers=[]/\H=H0.push (ek (wl b i))) ?_ 16 _ _ ?_
 rotate_left 1
 ·refine⟨0,by decide,rfl,?_,?_,?_,?_,?_,?_,rfl⟩<;>(first|assumption|(simp only[gW,reduceIte,abn,gBQ,az]<;>rfl))
 clear z1 z2 c8 kwz st0
 rintro m e H ⟨i,hi,rfl,g1,g2,g4,g5,g6,hd,rfl⟩
 by_cases hc:i<16
 ·refine gI fun Q=>?_
  have ix:=vk (b:=H0.boxes.length) (n:=i) (k:=.i64) (by omega)
  have e4:IntKind.i64.wrap (4 * ((i:Nat):Int))=((4 * i:Nat):Int):=by rw[bT (by omega) (by omega)];omega
  have e5:IntKind.i64.wrap (((4 * i:Nat):Int)+4)=((4 * i+4:Nat):Int):=by rw[bT (by omega) (by omega)];omega
  obtain⟨k',sl⟩:=WQ (k:=k) (b:=b) (lo:=4 * i) (hi:=4 * i+4) (by omega) (by omega)
  have cw:=WY ((b.take (4 * i+4)).drop (4 * i)) (by rw[abS,abI];omega) k'
  rw[Vf (by omega)] at cw
  have st:aA Tryz.prog (H0.push (ek (wl b i))) 42 (.ptr (.box H0.boxes.length) i) (w32 (rz b (4 * i)))=some (H0.push (ek (wl b (i+1)))):=by
   rw[ON (ak _ _) (by rw[sI (by omega)];omega),gg,Jk (by omega) (by rw[if_pos hc])]
  repeat' (first|simp(maxSteps:=999999)(disch:=first|exact dZ|fail)only[gW,reduceIte,abn,gBQ,Us, *]|refine dX ?_ ?_<;>(intro _;try omega))
  exact⟨16 - (i+1),by omega,i+1,by omega,rfl,by trivial,by trivial,by trivial,by trivial,rfl,by trivial,rfl⟩
 have:i=16:=by omega
 subst this
 clear hc hi
 repeat' (first|simp(maxSteps:=999999)(disch:=first|exact dZ|fail)only[gW,reduceIte,abn,gBQ,Us, *]|refine dX ?_ ?_<;>(intro _;try omega))
 refine aD (fun m e H=>∃i:Nat,16<=i/\i<=64/\m=64 - i/\e.get 2=.ptr (.box h.boxes.length) 0/\e.get 4=.ptr (.box (h.boxes.length+1)) 0/\e.get 5=.ptr (.box H0.boxes.length) 0/\e.get 7=.v (.int .i64 i)/\e.defers=[]/\H=H0.push (ek (wl b i))) ?_ 48 _ _ ?_
 rotate_left 1
 ·refine⟨16,by decide,by decide,rfl,?_,?_,?_,?_,?_,rfl⟩<;>(first|assumption|(exact gR))
 clear g1 g2 g4 g5 g6 hd
 rintro m e H ⟨i,hi16,hi,rfl,g2,g4,g5,g7,hd,rfl⟩
 by_cases hc:i<64
 ·refine gI fun Q=>?_
  have hw:=ak H0 (ek (wl b i))
  have l0:=Dr hw (n:=i - 16) (by rw[sI hi];omega)
  have l1:=Dr hw (n:=i - 15) (by rw[sI hi];omega)
  have l2:=Dr hw (n:=i - 7) (by rw[sI hi];omega)
  have l3:=Dr hw (n:=i - 2) (by rw[sI hi];omega)
  rw[QC (by omega)] at l0 l1 l2 l3
  have i0:=vk (b:=H0.boxes.length) (n:=i - 16) (k:=.i64) (by omega)
  have i1:=vk (b:=H0.boxes.length) (n:=i - 15) (k:=.i64) (by omega)
  have i2:=vk (b:=H0.boxes.length) (n:=i - 7) (k:=.i64) (by omega)
  have i3:=vk (b:=H0.boxes.length) (n:=i - 2) (k:=.i64) (by omega)
  have i4:=vk (b:=H0.boxes.length) (n:=i) (k:=.i64) (by omega)
  have e0:IntKind.i64.wrap (((i:Nat):Int) - 16)=((i - 16:Nat):Int):=by rw[bT (by omega) (by omega)];omega
  have e1:IntKind.i64.wrap (((i:Nat):Int) - 15)=((i - 15:Nat):Int):=by rw[bT (by omega) (by omega)];omega
  have e2:IntKind.i64.wrap (((i:Nat):Int) - 7)=((i - 7:Nat):Int):=by rw[bT (by omega) (by omega)];omega
  have e3:IntKind.i64.wrap (((i:Nat):Int) - 2)=((i - 2:Nat):Int):=by rw[bT (by omega) (by omega)];omega
  have st:aA Tryz.prog (H0.push (ek (wl b i))) 42 (.ptr (.box H0.boxes.length) i) (w32 (En (eP b i) i))=some (H0.push (ek (wl b (i+1)))):=by
   rw[ON hw (by rw[sI (by omega)];omega),gg,Jk (by omega) (by rw[if_neg (by omega)])]
  unfold En at st
  have r7:=UE (wAt (eP b i) (i - 15)) 7 (by decide) (by decide)
  have r18:=UE (wAt (eP b i) (i - 15)) 18 (by decide) (by decide)
  have r17:=UE (wAt (eP b i) (i - 2)) 17 (by decide) (by decide)
  have r19:=UE (wAt (eP b i) (i - 2)) 19 (by decide) (by decide)
  have r7:∀h,W1.call 224 [w32 (wAt (eP b i) (i - 15)),.v (.int .i64 7)] h=some (.ret (w32 (NT.ror (wAt (eP b i) (i - 15)) 7)),h):=r7
  have r18:∀h,W1.call 224 [w32 (wAt (eP b i) (i - 15)),.v (.int .i64 18)] h=some (.ret (w32 (NT.ror (wAt (eP b i) (i - 15)) 18)),h):=r18
  have r17:∀h,W1.call 224 [w32 (wAt (eP b i) (i - 2)),.v (.int .i64 17)] h=some (.ret (w32 (NT.ror (wAt (eP b i) (i - 2)) 17)),h):=r17
  have r19:∀h,W1.call 224 [w32 (wAt (eP b i) (i - 2)),.v (.int .i64 19)] h=some (.ret (w32 (NT.ror (wAt (eP b i) (i - 2)) 19)),h):=r19
  clear hw
  repeat' (first|simp(maxSteps:=999999)(disch:=first|exact dZ|fail)only[gW,reduceIte,abn,gBQ,Us,jP,jQ,jX,iM, *]|(refine dX ?_ ?_<;>(intro _;try omega))|refine bf Bo kZq ?_)
  exact⟨64 - (i+1),by omega,i+1,by omega,by omega,rfl,by trivial,by trivial,by trivial,rfl,by trivial,rfl⟩
 have:i=64:=by omega
 subst this
 clear hc hi hi16
 have kwl:=ah.mk (OO b)
 have hsl:=mQ b 64
 rw[OO]
 generalize hW:eP b 64=w at *
 have nn:=Vd (H0.push (ek w))
 have z2:=QA
 generalize hH1:H0.push (ek w)=H1 at *
 have kw1:ah (H1.boxes[H0.boxes.length]?=some (ek w)):=⟨by rw[<-hH1];exact ak _ _⟩
 have kl1:ah (H1.boxes.length=H0.boxes.length+1):=⟨by rw[<-hH1,az]⟩
 have kX1:ah (Ext H0 H1):=⟨by rw[<-hH1];exact Ext.push _ _⟩
 clear hH1
 have st2:aA Tryz.prog ((H1.push (ek kW)).push (abt 64 (w32 0#32))) 242 (.ptr (.box (H1.push (ek kW)).boxes.length) 0) (.agg (ek kW))=some ((H1.push (ek kW)).push (ek kW)):=cQ QL Vq (by rw[abu,UO]) (by simp)
 have abg:Ext H1 ((H1.push (ek kW)).push (ek kW)):=(Ext.push _ _).trans (.push _ _)
 have kN:=ak (H1.push (ek kW)) (ek kW)
 have b1:=abg.box _ _ (kX1.out.box _ _ kS0.out)
 obtain⟨s0,s1,s2,s3,s4,s5,s6,aa1,rfl⟩:=eight hs
 have ld:=fun n hn=>Dr b1 (n:=n) hn
 have l0:=ld 0 (by simp);have l1:=ld 1 (by simp);have l2:=ld 2 (by simp);have l3:=ld 3 (by simp);have l4:=ld 4 (by simp);have l5:=ld 5 (by simp);have l6:=ld 6 (by simp);have l7:=ld 7 (by simp)
 have j0:ay Tryz.prog 229 (.ptr (.box h.boxes.length) 0) (.v (.int .i64 0))=some (.ptr (.box h.boxes.length) 0):=Un (n:=0) (by decide)
 have j1:ay Tryz.prog 229 (.ptr (.box h.boxes.length) 0) (.v (.int .i64 1))=some (.ptr (.box h.boxes.length) 1):=Un (n:=1) (by decide)
 have j2:ay Tryz.prog 229 (.ptr (.box h.boxes.length) 0) (.v (.int .i64 2))=some (.ptr (.box h.boxes.length) 2):=Un (n:=2) (by decide)
 have aaO:ay Tryz.prog 229 (.ptr (.box h.boxes.length) 0) (.v (.int .i64 3))=some (.ptr (.box h.boxes.length) 3):=Un (n:=3) (by decide)
 have j4:ay Tryz.prog 229 (.ptr (.box h.boxes.length) 0) (.v (.int .i64 4))=some (.ptr (.box h.boxes.length) 4):=Un (n:=4) (by decide)
 have j5:ay Tryz.prog 229 (.ptr (.box h.boxes.length) 0) (.v (.int .i64 5))=some (.ptr (.box h.boxes.length) 5):=Un (n:=5) (by decide)
 have j6:ay Tryz.prog 229 (.ptr (.box h.boxes.length) 0) (.v (.int .i64 6))=some (.ptr (.box h.boxes.length) 6):=Un (n:=6) (by decide)
 have j7:ay Tryz.prog 229 (.ptr (.box h.boxes.length) 0) (.v (.int .i64 7))=some (.ptr (.box h.boxes.length) 7):=Un (n:=7) (by decide)
 simp only[YI] at l0 l1 l2 l3 l4 l5 l6 l7
 have lw:=fun n hn=>Dr (abg.box _ _ kw1.out) (n:=n) hn
 have lk:=fun n hn=>Dr kN (n:=n) hn
 have b2:=abg.box _ _ (kX1.out.box _ _ kR0.out)
 have kX2:=ah.mk (kX0.out.trans (kX1.out.trans abg))
 have klw:=ah.mk lw
 have klk:=ah.mk lk
 have kb2:=ah.mk b2
 clear ld lw lk b1 b2 abg kN
 repeat' (first|simp(maxSteps:=999999)(disch:=first|exact dZ|fail)only[gW,reduceIte,abn,gBQ,Us, *]|(refine dX ?_ ?_<;>(intro _;try omega))|refine bf Bo kZq ?_)
 generalize hN:(H1.push (ek kW)).boxes.length=N at *
 generalize (H1.push (ek kW)).push (ek kW)=H2 at *
 clear hN
 refine Run.gen fun e2 q2 qd2 _ _=>?_
 have f2:e2.get 2=.ptr (.box h.boxes.length) 0:=by rw[q2];simp only[gW,reduceIte,abn,gBQ,g2]
 have f4:e2.get 4=.ptr (.box (h.boxes.length+1)) 0:=by rw[q2];simp only[gW,reduceIte,abn,gBQ,g4]
 have f5:e2.get 5=.ptr (.box H0.boxes.length) 0:=by rw[q2];simp only[gW,reduceIte,abn,gBQ,g5]
 have f10:e2.get 10=.ptr (.box N) 0:=by rw[q2];exact gS
 have f11:e2.get 11=w32 s0:=by rw[q2];exact gS
 have f12:e2.get 12=w32 s1:=by rw[q2];exact gS
 have f13:e2.get 13=w32 s2:=by rw[q2];exact gS
 have f14:e2.get 14=w32 s3:=by rw[q2];exact gS
 have f15:e2.get 15=w32 s4:=by rw[q2];exact gS
 have f16:e2.get 16=w32 s5:=by rw[q2];exact gS
 have f17:e2.get 17=w32 s6:=by rw[q2];exact gS
 have f18:e2.get 18=w32 aa1:=by rw[q2];exact gS
 have f19:e2.get 19=.v (.int .i64 (0:Nat)):=by rw[q2];simp only[gW,reduceIte,abn,gBQ];rfl
 have fd:e2.defers=[]:=by rw[qd2];simp only[gW,reduceIte,abn,gBQ,hd]
 clear q2 qd2
 refine aD (fun m e H=>∃(i:Nat) (a b' c d e' f g j:U32),i<=64/\m=64 - i/\vF [s0,s1,s2,s3,s4,s5,s6,aa1] b i=[a,b',c,d,e',f,g,j]/\e.get 2=.ptr (.box h.boxes.length) 0/\e.get 4=.ptr (.box (h.boxes.length+1)) 0/\e.get 5=.ptr (.box H0.boxes.length) 0/\e.get 10=.ptr (.box N) 0/\
  e.get 11=w32 a/\e.get 12=w32 b'/\e.get 13=w32 c/\e.get 14=w32 d/\e.get 15=w32 e'/\e.get 16=w32 f/\e.get 17=w32 g/\e.get 18=w32 j/\e.get 19=.v (.int .i64 i)/\e.defers=[]/\H=H2) ?_ 64 _ _ ?_
 rotate_left 1
 ·refine⟨0,s0,s1,s2,s3,s4,s5,s6,aa1,by decide,rfl,Wm _ _,f2,f4,f5,f10,f11,f12,f13,f14,f15,f16,f17,f18,f19,fd,rfl⟩
 clear f2 f4 f5 f10 f11 f12 f13 f14 f15 f16 f17 f18 f19 fd g2 g4 g5 g7 hd nn z2 st2
 rintro m e H ⟨i,a,b',c,d,e',f,g,j,hi,rfl,hv,g2,g4,g5,g10,g11,g12,g13,g14,g15,g16,g17,g18,g19,hd,rfl⟩
 by_cases hc:i<64
 ·refine gI fun Q=>?_
  have lk:=klk.out i (by rw[UO];exact hc)
  have lw:=klw.out i (by rw[hsl];exact hc)
  rw[XR hc] at lk
  have ixw:=vk (b:=H0.boxes.length) (n:=i) (k:=.i64) hc
  have ixk:=vk (b:=N) (n:=i) (k:=.i64) hc
  have hstep:=Ew [s0,s1,s2,s3,s4,s5,s6,aa1] b i
  rw[hv,hW,Ve] at hstep
  have kv:=ah.mk hstep
  have r6:∀h,W1.call 224 [w32 e',.v (.int .i64 6)] h=some (.ret (w32 (NT.ror e' 6)),h):=UE e' 6 (by decide) (by decide)
  have r11:∀h,W1.call 224 [w32 e',.v (.int .i64 11)] h=some (.ret (w32 (NT.ror e' 11)),h):=UE e' 11 (by decide) (by decide)
  have r25:∀h,W1.call 224 [w32 e',.v (.int .i64 25)] h=some (.ret (w32 (NT.ror e' 25)),h):=UE e' 25 (by decide) (by decide)
  have r2:∀h,W1.call 224 [w32 a,.v (.int .i64 2)] h=some (.ret (w32 (NT.ror a 2)),h):=UE a 2 (by decide) (by decide)
  have r13:∀h,W1.call 224 [w32 a,.v (.int .i64 13)] h=some (.ret (w32 (NT.ror a 13)),h):=UE a 13 (by decide) (by decide)
  have r22:∀h,W1.call 224 [w32 a,.v (.int .i64 22)] h=some (.ret (w32 (NT.ror a 22)),h):=UE a 22 (by decide) (by decide)
  clear hstep hv l0 l1 l2 l3 l4 l5 l6 l7 j0 j1 j2 aaO j4 j5 j6 j7
  repeat' (first|simp(maxSteps:=999999)(disch:=first|exact dZ|fail)only[gW,reduceIte,abn,gBQ,Us,jP,jQ,AO,XT, *]|(refine dX ?_ ?_<;>(intro _;try omega))|refine bf Bo kZq ?_)
  refine⟨64 - (i+1),by omega,i+1,_,a,b',c,_,e',f,g,by omega,rfl,kv.out,?_⟩
  refine⟨?_,?_,?_,?_,rfl,?_,?_,?_,rfl,?_,?_,?_,?_,?_,?_⟩<;>first|exact trivial|exact rfl
 ·have:i=64:=by omega
  subst this
  have hbF:qy [s0,s1,s2,s3,s4,s5,s6,aa1] b=[s0+a,s1+b',s2+c,s3+d,s4+e',s5+f,s6+g,aa1+j]:=by
   unfold qy
   show List.zipWith (·+·) [s0,s1,s2,s3,s4,s5,s6,aa1] (vF [s0,s1,s2,s3,s4,s5,s6,aa1] b 64)=_
   rw[hv];rfl
  rw[hbF]
  have st3:aA Tryz.prog H 229 (.ptr (.box (h.boxes.length+1)) 0) (.agg (ek [s0+a,s1+b',s2+c,s3+d,s4+e',s5+f,s6+g,aa1+j]))=some (H.put (h.boxes.length+1) (ek [s0+a,s1+b',s2+c,s3+d,s4+e',s5+f,s6+g,aa1+j])):=by
   rw[aW QL U0 kb2.out rfl (by simp),jc (by simp)]
  have ld3:ai Tryz.prog Gt (H.put (h.boxes.length+1) (ek [s0+a,s1+b',s2+c,s3+d,s4+e',s5+f,s6+g,aa1+j])) 229 (.ptr (.box (h.boxes.length+1)) 0)=some (.agg (ek [s0+a,s1+b',s2+c,s3+d,s4+e',s5+f,s6+g,aa1+j])):=ldw WN U0 (aS (abm.1 kb2.out).1) rfl
  clear hv
  simp only[abK,ac6] at st3 ld3
  repeat' (first|simp(maxSteps:=999999)(disch:=first|exact dZ|fail)only[gW,reduceIte,abn,gBQ,Us,jP,jQ,XS, *]|(refine dX ?_ ?_<;>(intro _;try omega))|refine bf Bo kZq ?_)
  exact⟨_,rfl,kX2.out.bZ (by omega) _⟩
theorem U1:Tryz.f213.results.toList=[.tmp 2]:=kZq
theorem VS{H:ae}{k:Tok}{n0:Nat}{es new:List UInt8}{x:AV}(hx:eH H 1 x=some (u8s new))(hl:es.length+new.length<=8796093022208)(hk:bG n0 H k)(ho:aZ H=true)(hn:n0<=H.tn):
 ∃t H',bP Tryz.prog H #[28,28] (.list k 1 (u8s es)) x=some (.list t 1 (u8s (es++new)),H')/\Grown n0 H H' t:=by
 by_cases hs:new=[]
 ·subst hs
  obtain⟨i,q1,q2,q3,q4⟩:=in5
  refine⟨k,H,?_,Grown.refl hk ho⟩
  rw[Bb Tryz.underlying28 (.inl ⟨_,Tryz.underlying28⟩) q1 (by omega) (by rw[q2];exact q4) (by rw[q2];exact hx) (.inl q2.symm),ab2]
 ·exact⟨_,_,NF (.inl ⟨_,Tryz.underlying28⟩) hx hs hl (.inl rfl) hk,Grown.one hk ho hn⟩
theorem bl0:aN Tryz.prog 28 0 []=some (.list .tight 1 []):=kZq
theorem YJ:aN Tryz.prog 28 1 [(0,.v (.int .u8 128))]=some (.list .tight 1 [[u8v 128]]):=kZq
theorem YK:aN Tryz.prog 28 1 [(0,.v (.int .u8 0))]=some (.list .tight 1 [[u8v 0]]):=kZq
theorem YL{t:TypeId}{x y:Operand}{n k:Nat}(hk:k<=7):bB Tryz.prog .shr t x y (.v (.int .u64 (n:Nat))) (.v (.int .i64 ((8 * k:Nat):Int)))=some (.v (.int .u64 ((n/2^(8 * k):Nat):Int))):=by
 rw[nr (by omega),abB,show IntKind.u64.bits=64 from rfl,Nat.min_eq_left (by omega)]
 congr 3
 rw[ac3 _ (by
  have:(0:Int)<2^(8 * k):=Int.pow_pos (by decide)
  omega)]
 simp
theorem VB{n c:Nat}(hc:c<8):(Ga n).take (c+1)=(Ga n).take c++[UInt8.ofNat (n * 8/2^(8 * (7 - c)))]:=by
 refine a9 ?_
 unfold Ga
 rw[abF,ada hc];rfl
def sg(b:List UInt8)(j:Nat):List UInt8:=b++0x80::abt j 0
theorem UP(b:List UInt8)(j:Nat):sg b j++[0]=sg b (j+1):=by
 unfold sg
 rw[List.replicate_succ']
 simp
theorem Uj(b:List UInt8)(j:Nat):(sg b j).length=b.length+1+j:=by unfold sg;simp;omega
theorem Wn(b:List UInt8)(k:Tok)(h:ae)(ho:aZ h=true)(hb:b.length<=1099511620000):
 ∃r h',W1.call 213 [.list k 1 (u8s b)] h=some (r,h')/\∃t,r=.ret (.list t 1 (u8s (Ml b)))/\Grown h.tn h h' t:=by
 obtain⟨t1,h1,a1,g1⟩:=VS (H:=h) (k:=.tight) (n0:=h.tn) (es:=[]) (new:=b) (x:=.list k 1 (u8s b)) Uy (by simp;omega) (.inr (.inl rfl)) ho (abq _)
 rw[ab9] at a1
 replace a1:bP Tryz.prog h #[28,28] (.list .tight 1 []) (.list k 1 (u8s b))=some (.list t1 1 (u8s b),h1):=a1
 have a2:=JO (H:=h1) (k:=t1) (k':=.tight) (es:=b) (c:=128) (by omega) (.inl rfl) g1.can
 have g2:=g1.app (abq _)
 have kG:=ah.mk g2
 have e0:b++[128]=sg b 0:=rfl
 rw[e0] at a2
 have u28:=Tryz.underlying28
 have bl:=bl0
 have bl1:=YJ
 have hlb:(u8s b).length=b.length:=abu _
 clear g1 g2 ho e0
 refine aL rfl Tryz.func213 rfl ?_
 refine gx1 @U1 ?_
 refine aD (fun m e H=>∃(j:Nat) (t:Tok),j<=Di b.length/\m=Di b.length - j/\e.get 0=.list k 1 (u8s b)/\e.get 3=.list t 1 (u8s (sg b j))/\e.defers=[]/\Grown h.tn h H t) ?_ (Di b.length) _ _ ?_
 rotate_left 1
 ·refine⟨0,.free h1.tn,abG _,rfl,?_,?_,?_,kG.out⟩<;>(first|assumption|(exact gR))
 clear kG a1 a2
 rintro m e H ⟨j,t,hj,rfl,g0,g3,hd,hG⟩
 have kG:=ah.mk hG
 have hz:Di b.length=(119 - b.length%64)%64:=rfl
 have hll:(u8s (sg b j)).length=b.length+1+j:=by rw[abu,Uj]
 have hm:((b.length+1+j:Nat):Int).tmod 64=(((b.length+1+j)%64:Nat):Int):=rE _ 64
 by_cases hlt:j<Di b.length
 ·have hne:¬((((b.length+1+j)%64:Nat):Int)=56):=by omega
  have ap:=JO (H:=H) (k:=t) (k':=.tight) (es:=sg b j) (c:=0) (by rw[Uj];omega) (.inl rfl) hG.can
  rw[UP] at ap
  have bl2:=YK
  clear hG
  refine gx1 @U1 ?_
  exact⟨Di b.length - (j+1),by omega,j+1,.free H.tn,by omega,rfl,by trivial,by trivial,by trivial,kG.out.app (abq _)⟩
 have:j=Di b.length:=by omega
 subst this
 have heq:(b.length+1+Di b.length)%64=56:=by omega
 rw[heq] at hm
 have w1:=JG (n:=b.length) (by omega)
 have w2:IntKind.u64.wrap (((b.length:Nat):Int) * 8)=((b.length * 8:Nat):Int):=by
  rw[show((b.length:Nat):Int) * 8=((b.length * 8:Nat):Int) by omega,JG (by omega)]
 have kll:=ah.mk hll
 have hm56:((56:Nat):Int)=56:=rfl
 clear hG hz
 refine gx2 @U1 @jY ?_
 refine aD (fun m e H=>∃(c:Nat) (t:Tok),c<=8/\m=8 - c/\e.get 3=.list t 1 (u8s (sg b (Di b.length)++(Ga b.length).take c))/\e.get 4=.v (.int .u64 ((b.length * 8:Nat):Int))/\e.get 5=.v (.int .i64 (7 - (c:Int)))/\e.defers=[]/\Grown h.tn h H t) ?_ 8 _ _ ?_
 rotate_left 1
 ·refine⟨0,t,abG _,rfl,?_,?_,?_,?_,kG.out⟩<;>(first|assumption|(simp only[gW,reduceIte,abn,gBQ,abY,ab2]<;>first|assumption|rfl))
 clear kG g0 g3 hd
 rintro m e H ⟨c,t,hc,rfl,g3,g4,g5,hd,hG⟩
 have kG:=ah.mk hG
 by_cases hlt:c<8
 ·have hge:(0:Int)<=7 - (c:Int):=by omega
  have e8:IntKind.i64.wrap (8 * (7 - (c:Int)))=((8 * (7 - c):Nat):Int):=by rw[bT (by omega) (by omega)];omega
  have e1:IntKind.i64.wrap (7 - (c:Int) - 1)=7 - ((c+1:Nat):Int):=by rw[bT (by omega) (by omega)];omega
  have sh:=fun t x y=>YL (t:=t) (x:=x) (y:=y) (n:=b.length * 8) (k:=7 - c) (by omega)
  have uv:=OS (b.length * 8/2^(8 * (7 - c)))
  have bl3:=JP (UInt8.ofNat (b.length * 8/2^(8 * (7 - c))))
  have hL8:(Ga b.length).length=8:=by simp[Ga]
  have ap:=JO (H:=H) (k:=t) (k':=.tight) (es:=sg b (Di b.length)++(Ga b.length).take c) (c:=UInt8.ofNat (b.length * 8/2^(8 * (7 - c)))) (by rw[abx,Uj,abI];have:Di b.length<64:=acK _ (by decide);omega) (.inl rfl) hG.can
  rw[acI,<-VB hlt] at ap
  clear hG
  refine gx2 @U1 @zj ?_
  exact⟨8 - (c+1),by omega,c+1,.free H.tn,by omega,rfl,by trivial,by trivial,by trivial,by trivial,kG.out.app (abq _)⟩
 ·have:c=8:=by omega
  subst this
  have hL8:(Ga b.length).take 8=Ga b.length:=abD (by simp[Ga])
  have hp:sg b (Di b.length)++Ga b.length=Ml b:=by unfold sg Ml;simp
  rw[hL8,hp] at g3
  have hlt0:¬((0:Int)<=7 - ((8:Nat):Int)):=by omega
  clear hG
  refine gx1 @U1 ?_
  exact⟨_,_,rfl,_,rfl,kG.out⟩
theorem XU:Tryz.f166.results.toList=[.cell 4 177]:=kZq
theorem VT:Tryz.f123.results.toList=[.tmp 4]:=kZq
theorem VU(b:List UInt8):(Ml b).length=64 * ((Ml b).length/64):=by
 have:(Ml b).length=b.length+1+Di b.length+8:=by unfold Ml;simp[Ga];omega
 have hz:Di b.length=(119 - b.length%64)%64:=rfl
 omega
theorem Vr:∀(s:List U32) (i:Nat),i<4 * s.length->(nZ s)[i]?=some (UInt8.ofNat ((wAt s (i/4)).toNat/256^(3 - i%4)))
 | [],i,h=>by simp at h
 |x::s,i,h=>by
  have e:nZ (x::s)=[UInt8.ofNat (x.toNat/16777216),UInt8.ofNat (x.toNat/65536),UInt8.ofNat (x.toNat/256),UInt8.ofNat x.toNat]++nZ s:=by unfold nZ;rw[List.flatMap_cons]
  rw[e]
  rcases abL i 4 with q|q
  ·have:i=0∨i=1∨i=2∨i=3:=by omega
   rcases this with rfl|rfl|rfl|rfl<;>simp[wAt]
  ·rw[acE (by simpa using q)]
   have:=Vr s (i - 4) (by simp at h;omega)
   simp only[ab0,ab7]
   rw[show i - (0+1+1+1+1)=i - 4 by omega,this]
   have h1:i/4=(i - 4)/4+1:=by omega
   have h2:i%4=(i - 4)%4:=by omega
   rw[h1,h2];rfl
theorem XV:fj Tryz.prog 177 []=some (.agg (abt 32 (u8v 0))):=kZq
theorem YM:fj Tryz.prog 229 [(0,.v (.int .u32 1779033703)),(1,.v (.int .u32 3144134277)),(2,.v (.int .u32 1013904242)),(3,.v (.int .u32 2773480762)),(4,.v (.int .u32 1359893119)),(5,.v (.int .u32 2600822924)),(6,.v (.int .u32 528734635)),(7,.v (.int .u32 1541459225))]=some (.agg (ek NT.start)):=kZq
theorem XW:(AV.agg (abt 32 (u8v 0))).aC=some (abt 32 (u8v 0)):=kZq
theorem YN{t:TypeId}{x y:Operand}{v:U32}{r:Nat}(hr:r<4):bB Tryz.prog .shr t x y (w32 v) (.v (.int .i64 (24 - ((8 * r:Nat):Int))))=some (.v (.int .u32 ((v.toNat/256^(3 - r):Nat):Int))):=by
 have e:(24 - ((8 * r:Nat):Int))=((24 - 8 * r:Nat):Int):=by omega
 rw[e,nQ (by omega)]
 unfold w32
 rw[BitVec.toNat_ushiftRight,Nat.shiftRight_eq_div_pow]
 have:2^(24 - 8 * r)=256^(3 - r):=by
  rw[show(256:Nat)=2^8 from rfl,<-Nat.pow_mul]
  congr 1;omega
 rw[this]
theorem WZ(n:Int)(h:ae):fm Tryz.prog h 42 5 (.v (.int .u32 n))=some (.v (.int .u8 (IntKind.u8.wrap n)),h):=kZq
theorem W8{b:Nat}{n:Nat}(hn:n<32):ay Tryz.prog 177 (.ptr (.box b) 0) (.v (.int .i64 (n:Nat)))=some (.ptr (.box b) n):=NC hn
theorem Vs(b:List UInt8)(k:Tok)(h:ae)(ho:aZ h=true)(hb:b.length<=1099511620000):∃h',W1.call 190 [.list k 1 (u8s b)] h=some (.ret (.agg (u8c (jA b))),h')/\Ext h h':=by
 have z1:=Jp
 have z2:=WO
 have bst:=YM
 have x0:Ext h ((h.push (abt 32 (u8v 0))).push (ek NT.start)):=(Ext.push _ _).trans (.push _ _)
 have st0:aA Tryz.prog ((h.push (abt 32 (u8v 0))).push (ek (abt 8 0#32))) 229 (.ptr (.box (h.push (abt 32 (u8v 0))).boxes.length) 0) (.agg (ek NT.start))=some ((h.push (abt 32 (u8v 0))).push (ek NT.start)):=cQ QL U0 rfl rfl
 obtain⟨r1,h1,c1,t,rfl,g1⟩:=Wn b k _ (x0.ok ho) hb
 have hpl:(Ml b).length=b.length+1+Di b.length+8:=by unfold Ml;simp[Ga];omega
 have hzl:Di b.length<64:=acK _ (by decide)
 have hpm:=VU b
 have kSh:ah (jA b=nZ (de ((Ml b).length/64) NT.start (Ml b))):=⟨rfl⟩
 generalize Ml b=p at *
 generalize hn:p.length/64=n at *
 have kX:=ah.mk (g1.ext x0 x0.tn)
 have kd:=ah.mk (g1.box _ _ (aj (ak h (abt 32 (u8v 0)))))
 have ks:ah (h1.boxes[h.boxes.length+1]?=some (ek NT.start)):=⟨g1.box _ _ (cD (by rw[az]))⟩
 have hpl2:(u8s p).length=p.length:=abu _
 have u28:=Tryz.underlying28
 clear x0 g1 ho
 refine dL rfl Tryz.func190 rfl ?_
 refine gx1 @UW ?_
 refine aD (fun m e H=>∃i:Nat,i<=n/\m=n - i/\e.get 2=.ptr (.box h.boxes.length) 0/\e.get 3=.ptr (.box (h.boxes.length+1)) 0/\e.get 4=.list t 1 (u8s p)/\e.get 5=.v (.int .i64 ((64 * i:Nat):Int))/\e.defers=[]/\H.boxes[h.boxes.length]?=some (abt 32 (u8v 0))/\H.boxes[h.boxes.length+1]?=some (ek (de i NT.start p))/\Ext h H) ?_ n _ _ ?_
 rotate_left 1
 ·refine⟨0,abG _,rfl,?_,?_,?_,?_,?_,kd.out,ks.out,kX.out⟩<;>(first|assumption|(simp only[gW,reduceIte,abn,gBQ,az]<;>rfl))
 clear kd ks kX st0 z2 bst c1
 rintro m e H ⟨i,hi,rfl,g2,g3,g4,g5,hd,hbd,hbs,hX⟩
 have h8:=fC i NT.start p rfl
 by_cases hlt:i<n
 ·refine gI fun Q=>?_
  have e1:IntKind.i64.wrap (((64 * i:Nat):Int)+64)=((64 * i+64:Nat):Int):=by rw[bT (by omega) (by omega)];omega
  obtain⟨k',sl⟩:=WQ (k:=t) (b:=p) (lo:=64 * i) (hi:=64 * i+64) (by omega) (by omega)
  have ep:(p.take (64 * i+64)).drop (64 * i)=(p.drop (64 * i)).take 64:=by rw[List.drop_take];congr 1;omega
  rw[ep] at sl
  obtain⟨H2,c2,x2⟩:=VA (de i NT.start p) ((p.drop (64 * i)).take 64) k' H h8 (by rw[abI,abS];omega)
  rw[<-jZ] at c2
  have l0:ai Tryz.prog Gt H 229 (.ptr (.box (h.boxes.length+1)) 0)=some (.agg (ek (de i NT.start p))):=ldw WN U0 hbs h8
  have hbs2:=x2.box _ _ hbs
  have st:aA Tryz.prog H2 229 (.ptr (.box (h.boxes.length+1)) 0) (.agg (ek (de (i+1) NT.start p)))=some (H2.put (h.boxes.length+1) (ek (de (i+1) NT.start p))):=by
   rw[aW QL U0 hbs2 (by rw[abu,fC _ _ _ rfl]) (by rw[abu,h8];decide),jc (by rw[abu,abu,fC _ _ _ rfl,h8])]
  have kd:ah ((H2.put (h.boxes.length+1) (ek (de (i+1) NT.start p))).boxes[h.boxes.length]?=some (abt 32 (u8v 0))):=⟨by rw[av (by omega)];exact x2.box _ _ hbd⟩
  have ks:ah ((H2.put (h.boxes.length+1) (ek (de (i+1) NT.start p))).boxes[h.boxes.length+1]?=some (ek (de (i+1) NT.start p))):=⟨aS (abm.1 hbs2).1⟩
  have kX:=ah.mk ((hX.trans x2).bZ (show h.boxes.length<=h.boxes.length+1 by omega) (ek (de (i+1) NT.start p)))
  have hcmp:((64 * i:Nat):Int)<(p.length:Int):=by omega
  clear hbd hbs hbs2 hX x2 ep
  repeat' (first|simp(maxSteps:=999999)(disch:=first|exact dZ|fail)only[gW,reduceIte,abn,gBQ,UW, *]|(refine dX ?_ ?_<;>(intro _;try omega))|refine bf Bo kZq ?_)
  exact⟨n - (i+1),by omega,i+1,by omega,rfl,by trivial,by trivial,by trivial,by simp;omega,by trivial,kd.out,ks.out,kX.out⟩
 have:i=n:=by omega
 subst this
 have hcmp:¬((64 * i:Nat):Int)<(p.length:Int):=by omega
 generalize de i NT.start p=s at *
 have c32:=XW
 have bd:=XV
 have st1:aA Tryz.prog (H.push (abt 32 (u8v 0))) 177 (.ptr (.box H.boxes.length) 0) (.agg (abt 32 (u8v 0)))=some (H.push (abt 32 (u8v 0))):=cQ c32 tA rfl rfl
 have kX:=ah.mk (hX.trans (Ext.push H (abt 32 (u8v 0))))
 have kd:ah ((H.push (abt 32 (u8v 0))).boxes[h.boxes.length]?=some (abt 32 (u8v 0))):=⟨aj hbd⟩
 have ks:ah ((H.push (abt 32 (u8v 0))).boxes[h.boxes.length+1]?=some (ek s)):=⟨aj hbs⟩
 have hlb:=(abm.1 hbs).1
 have hl32:(nZ s).length=32:=by rw[mR,h8]
 clear hX hbd hbs
 repeat' (first|simp(maxSteps:=999999)(disch:=first|exact dZ|fail)only[gW,reduceIte,abn,gBQ,UW, *]|refine dX ?_ ?_<;>(intro _;try omega))
 refine aD (fun m e H1=>∃j:Nat,j<=32/\m=32 - j/\e.get 2=.ptr (.box h.boxes.length) 0/\e.get 3=.ptr (.box (h.boxes.length+1)) 0/\e.get 6=.ptr (.box H.boxes.length) 0/\e.get 7=.v (.int .i64 j)/\e.defers=[]/\H1=H.push (u8c ((nZ s).take j)++abt (32 - j) (u8v 0))) ?_ 32 _ _ ?_
 rotate_left 1
 ·refine⟨0,abG _,rfl,?_,?_,?_,?_,?_,rfl⟩<;>(first|assumption|(exact gR))
 clear g2 g3 g4 g5 hd st1 bd c32 hcmp
 rintro m e H1 ⟨j,hj,rfl,g2,g3,g6,g7,hd,rfl⟩
 by_cases hlt:j<32
 ·refine gI fun Q=>?_
  have m1:((j:Nat):Int).tdiv 4=((j/4:Nat):Int):=Qs j 4
  have m2:((j:Nat):Int).tmod 4=((j%4:Nat):Int):=rE j 4
  have w1:IntKind.i64.wrap ((j/4:Nat):Int)=((j/4:Nat):Int):=bT (by omega) (by omega)
  have w2:IntKind.i64.wrap (8 * ((j%4:Nat):Int))=((8 * (j%4):Nat):Int):=by rw[bT (by omega) (by omega)];omega
  have w3:IntKind.i64.wrap (24 - ((8 * (j%4):Nat):Int))=24 - ((8 * (j%4):Nat):Int):=bT (by omega) (by omega)
  have ixs:=Un (b:=h.boxes.length+1) (n:=j/4) (k:=.i64) (by omega)
  have l1:ai Tryz.prog Gt (H.push (u8c ((nZ s).take j)++abt (32 - j) (u8v 0))) 42 (.ptr (.box (h.boxes.length+1)) (j/4))=some (w32 (wAt s (j/4))):=by
   refine Dr ?_ (by omega)
   have:=ks.out
   rw[AH (by omega)] at this ⊢
   exact this
  have sh:=fun t x y=>YN (t:=t) (x:=x) (y:=y) (v:=wAt s (j/4)) (r:=j%4) (by omega)
  have uv:=OS ((wAt s (j/4)).toNat/256^(3 - j%4))
  have ixd:=W8 (b:=H.boxes.length) hlt
  have ho:=Vr s j (by omega)
  have stp:aA Tryz.prog (H.push (u8c ((nZ s).take j)++abt (32 - j) (u8v 0))) 5 (.ptr (.box H.boxes.length) j) (u8v (UInt8.ofNat ((wAt s (j/4)).toNat/256^(3 - j%4))))=some (H.push (u8c ((nZ s).take (j+1))++abt (32 - (j+1)) (u8v 0))):=by
   have hlen:(u8c ((nZ s).take j)).length=j:=by rw[eC,abI];omega
   rw[OR (ak _ _) (by rw[abx,hlen,ack];omega),gg]
   congr 2
   obtain⟨q,hq⟩:∃q,32 - j=q+1:=⟨31 - j,by omega⟩
   rw[hq,List.replicate_succ,List.set_append_right _ _ (by rw[hlen];exact abq _),hlen,adx,List.set_cons_zero,a9 ho,show 32 - (j+1)=q by omega]
   unfold u8c
   rw[List.map_append,acI];rfl
  clear ho
  repeat' (first|simp(maxSteps:=999999)(disch:=first|exact dZ|fail)only[gW,reduceIte,abn,gBQ,UW,WZ, *]|refine dX ?_ ?_<;>(intro _;try omega))
  exact⟨32 - (j+1),by omega,j+1,by omega,rfl,by trivial,by trivial,by trivial,rfl,by trivial,rfl⟩
 ·have:j=32:=by omega
  subst this
  have aaH:u8c ((nZ s).take 32)++abt (32 - 32) (u8v 0)=u8c (jA b):=by
   rw[abD (by omega),adx,List.replicate_zero,ab2,kSh.out]
  have hL:(u8c (jA b)).length=32:=by rw[eC,kSh.out];exact hl32
  have hdl:=(abm.1 kd.out).1
  have kd2:(H.push (u8c (jA b))).boxes[h.boxes.length]?=some (abt 32 (u8v 0)):=by
   have:=kd.out
   rw[AH (by omega)] at this ⊢
   exact this
  have l1:ai Tryz.prog Gt (H.push (u8c (jA b))) 177 (.ptr (.box H.boxes.length) 0)=some (.agg (u8c (jA b))):=by
   rw[cP Jo tA (ak _ _) (by rw[hL];exact abq _),abZ,abD (by rw[hL];exact abq _)]
  have st:aA Tryz.prog (H.push (u8c (jA b))) 177 (.ptr (.box h.boxes.length) 0) (.agg (u8c (jA b)))=some ((H.push (u8c (jA b))).put h.boxes.length (u8c (jA b))):=by
   rw[aW (rI _) tA kd2 hL (by simp),jc (by rw[hL];rfl)]
  have l2:ai Tryz.prog Gt ((H.push (u8c (jA b))).put h.boxes.length (u8c (jA b))) 177 (.ptr (.box h.boxes.length) 0)=some (.agg (u8c (jA b))):=by
   rw[cP Jo tA (aS (abm.1 kd2).1) (by rw[hL];exact abq _),abZ,abD (by rw[hL];exact abq _)]
  have abh:Ext h (H.push (u8c (jA b))):=by
   have hb2:∀(c:Nat) cs,h.boxes[c]?=some cs->(H.push (u8c (jA b))).boxes[c]?=some cs:=fun c cs hc=>by
    have:=kX.out.box c cs hc
    rw[AH (by have:=(abm.1 hc).1;omega)] at this ⊢
    exact this
   exact⟨hb2,kX.out.loop,kX.out.tn,kX.out.dead,kX.out.ok⟩
  have kX2:=ah.mk (abh.bZ (abq _) (u8c (jA b)))
  rw[aaH]
  clear kd2 abh aaH
  repeat' (first|simp(maxSteps:=999999)(disch:=first|exact dZ|fail)only[gW,reduceIte,abn,gBQ,UW, *]|refine dX ?_ ?_<;>(intro _;try omega))
  exact⟨_,rfl,kX2.out⟩
theorem Vg(tag b:List UInt8)(k:Tok)(h:ae)(ho:aZ h=true)(hb:b.length<=1099511610000)(ht:tag.length<=1099511610000):
 ∃h',W1.call 166 [.v (.string (bs tag)),.list k 1 (u8s b)] h=some (.ret (.agg (u8c (dV tag b))),h')/\Ext h h':=by
 have z177:=Jp
 have x0:Ext h ((h.push (abt 32 (u8v 0))).app .nil):=(Ext.push _ _).trans (Ext.app (Ext.refl _) (.inl rfl))
 have e0:((h.push (abt 32 (u8v 0))).app .nil).boxes=(h.push (abt 32 (u8v 0))).boxes:=aT _ _
 obtain⟨H2,c2,x2⟩:=Vs tag (.free (h.push (abt 32 (u8v 0))).tn) ((h.push (abt 32 (u8v 0))).app .nil) (x0.ok ho) (by omega)
 have d0:H2.boxes[h.boxes.length]?=some (abt 32 (u8v 0)):=x2.box _ _ (by rw[e0];exact ak _ _)
 have tl:(u8c (jA tag)).length=32:=by rw[eC,py]
 have st1:aA Tryz.prog (H2.push (abt 32 (u8v 0))) 177 (.ptr (.box H2.boxes.length) 0) (.agg (u8c (jA tag)))=some (H2.push (u8c (jA tag))):=cQ (rI _) tA tl rfl
 have x3:Ext h (H2.push (u8c (jA tag))):=(x0.trans x2).trans (Ext.push _ _)
 have aaZ:eH (H2.push (u8c (jA tag))) 1 (.arr H2.boxes.length 0 32 32)=some (u8s (jA tag)):=
  b9.news (b9.box (ga _) (by rw[abu,py]) (by rw[rJ];exact ak _ _))
 obtain⟨t4,H4,a4,g4⟩:=VS (H:=H2.push (u8c (jA tag))) (k:=.tight) (n0:=h.tn) (es:=[]) aaZ (by rw[py];simp) (.inr (.inl rfl)) (x3.ok ho) x3.tn
 rw[ab9] at a4
 replace a4:bP Tryz.prog (H2.push (u8c (jA tag))) #[28,28] (.list .tight 1 []) (.arr H2.boxes.length 0 32 32)=some (.list t4 1 (u8s (jA tag)),H4):=a4
 have x4:=g4.ext x3 (abq _)
 obtain⟨t5,H5,a5,g5⟩:=VS (H:=H4) (k:=t4) (n0:=h.tn) (es:=jA tag) (new:=b) (x:=.list k 1 (u8s b)) Uy (by rw[py];omega) g4.can g4.ok x4.tn
 have x5:=g5.ext x4 (abq _)
 obtain⟨H6,c6,x6⟩:=Vs (jA tag++b) t5 H5 g5.ok (by rw[abx,py];omega)
 have d6:H6.boxes[h.boxes.length]?=some (abt 32 (u8v 0)):=x6.box _ _ (g5.box _ _ (g4.box _ _ (aj d0)))
 have tl2:(u8c (dV tag b)).length=32:=by rw[eC];exact py _
 have st2:aA Tryz.prog H6 177 (.ptr (.box h.boxes.length) 0) (.agg (u8c (dV tag b)))=some (H6.put h.boxes.length (u8c (dV tag b))):=by
  rw[aW (rI _) tA d6 tl2 (by simp),jc (by rw[tl2];simp)]
 have ld2:ai Tryz.prog Gt (H6.put h.boxes.length (u8c (dV tag b))) 177 (.ptr (.box h.boxes.length) 0)=some (.agg (u8c (dV tag b))):=by
  rw[cP Jo tA (aS (abm.1 d6).1) (by rw[tl2];exact abq _),abZ,abD (by rw[tl2];exact abq _)]
 replace c6:W1.call 190 [.list t5 1 (u8s (jA tag++b))] H5=some (.ret (.agg (u8c (dV tag b))),H6):=c6
 have kX:=ah.mk ((x5.trans x6).bZ (abq _) (u8c (dV tag b)))
 have bl:=bl0
 clear e0 x0 x2 x3 x4 x5 x6 g4 g5 d0 d6 tl tl2 aaZ
 refine dL rfl Tryz.func166 rfl ?_
 refine gx3 @XU @OW @OX ?_
 exact⟨_,rfl,kX.out⟩
theorem VV{b:List UInt8}:lT (mask b) 1=(bAt b 0).toNat%128∨b=[]:=by
 by_cases hb:b=[]
 ·exact .inr hb
 ·refine .inl ?_
  have:0<b.length:=List.length_pos_iff.2 hb
  show 0 * 256+(bAt (mask b) 0).toNat=_
  rw[Ex this,if_pos rfl,Js];omega
theorem VW(tag b:List UInt8)(k:Tok)(h:ae)(ho:aZ h=true)(hb:b.length<=1099511610000)(ht:tag.length<=1099511610000):
 ∃h',W1.call 123 [.v (.string (bs tag)),.list k 1 (u8s b)] h=some (.ret (im (mK (dV tag b):Nat)),h')/\Ext h h':=by
 obtain⟨H1,c1,x1⟩:=Vg tag b k h ho hb ht
 have hl:(dV tag b).length=32:=py _
 have hcl:(u8c (dV tag b)).length=32:=by rw[eC,hl]
 have he:=hash_eq (b:=dV tag b) (by omega)
 generalize dV tag b=d at *
 have hd0:0<d.length:=by omega
 have z177:=Jp
 have st1:aA Tryz.prog (H1.push (abt 32 (u8v 0))) 177 (.ptr (.box H1.boxes.length) 0) (.agg (u8c d))=some (H1.push (u8c d)):=cQ (rI _) tA hcl rfl
 have ix0:ay Tryz.prog 177 (.ptr (.box H1.boxes.length) 0) (.v (.int .i64 0))=some (.ptr (.box H1.boxes.length) 0):=NC (n:=0) (by decide)
 have l0:ai Tryz.prog Gt (H1.push (u8c d)) 5 (.ptr (.box H1.boxes.length) 0)=some (.v (.int .u8 ((bAt d 0).toNat:Nat))):=ld5 (ak _ _) hd0
 have m0:(((bAt d 0).toNat:Nat):Int).tmod 128=((lT (mask d) 1:Nat):Int):=by
  refine(rE (bAt d 0).toNat 128).trans ?_
  rw[show lT (mask d) 1=(bAt d 0).toNat%128 from VV.resolve_right (by rintro rfl;simp at hd0)]
 have ew0:IntKind.i64.wrap (((bAt d 0).toNat:Nat):Int)=(((bAt d 0).toNat:Nat):Int):=by
  have:=A7 (bAt d 0);exact bT (by omega) (by omega)
 have hX:=ah.mk (x1.trans (Ext.push H1 (u8c d)))
 have hlt:=fun i hi=>Mv hd0 (i:=i) hi
 have hml:∀i,i≠0->bAt (mask d) i=bAt d i:=fun i hi=>by rw[Ex hd0,if_neg hi]
 have kB:=ah.mk (ak H1 (u8c d))
 have klt:=ah.mk hlt
 have ke:=ah.mk he
 have kl:=ah.mk hl
 have kml:=ah.mk hml
 clear hcl hl hlt he hml x1 hd0 ho
 unfold im
 refine dL rfl Tryz.func123 rfl ?_
 refine gx2 @VT @QP ?_
 refine aD (fun m e H=>∃i:Nat,1<=i/\i<=8/\m=8 - i/\e.get 5=.ptr (.box H1.boxes.length) 0/\e.get 7=.v (.int .i64 i)/\e.get 6=.v (.int .i64 (lT (mask d) i:Nat))/\e.defers=[]/\H=H1.push (u8c d)) ?_ 7 _ _ ?_
 rotate_left 1
 ·refine⟨1,by decide,by decide,rfl,?_,?_,?_,?_,rfl⟩<;>(first|assumption|(exact gR))
 clear z177 st1 ix0 l0 c1 m0 ew0
 rintro m e H ⟨i,hi1,hi,rfl,g5,g7,g6,hd,rfl⟩
 by_cases h8:i=8
 ·subst h8
  have e1:(((lT (mask d) 8:Nat):Int)).tmod 1073741789=((mK d:Nat):Int):=by rw[<-ke.out];exact rE _ _
  generalize lT (mask d) 8=A at *
  repeat' (first|simp(maxSteps:=999999)(disch:=first|exact dZ|fail)only[gW,reduceIte,abn,gBQ,VT, *]|refine dX ?_ ?_<;>(intro _;try omega))
  exact⟨_,rfl,hX.out⟩
 ·have hlt:i<8:=by omega
  have a1:=klt.out i hlt
  have u1:=A7 (bAt d i)
  have ix:=NC (b:=H1.boxes.length) (n:=i) (k:=.i64) (by omega)
  have ld:ai Tryz.prog Gt (H1.push (u8c d)) 5 (.ptr (.box H1.boxes.length) i)=some (.v (.int .u8 ((bAt d i).toNat:Nat))):=ld5 kB.out (by have:=kl.out;omega)
  have ew:IntKind.i64.wrap (((bAt d i).toNat:Nat):Int)=(((bAt d i).toNat:Nat):Int):=bT (by omega) (by omega)
  have kstep:=ah.mk (show lT (mask d) (i+1)=lT (mask d) i * 256+(bAt d i).toNat by rw[<-kml.out i (by omega)];rfl)
  generalize lT (mask d) i=A at *
  generalize (bAt d i).toNat=r at *
  have e2:IntKind.i64.wrap (((A:Nat):Int) * 256)=((A * 256:Nat):Int):=by rw[bT (by omega) (by omega)];omega
  have e3:IntKind.i64.wrap (((A * 256:Nat):Int)+((r:Nat):Int))=((A * 256+r:Nat):Int):=by rw[bT (by omega) (by omega)];omega
  repeat' (first|simp(maxSteps:=999999)(disch:=first|exact dZ|fail)only[gW,reduceIte,abn,gBQ,VT,QP, *]|refine dX ?_ ?_<;>(intro _;try omega))
  exact⟨8 - (i+1),by omega,i+1,by omega,by omega,rfl,by trivial,rfl,by rw[kstep.out],by trivial,by trivial⟩
theorem XX:Tryz.f119.results.toList=[.cell 2 96]:=kZq
theorem XY:Tryz.f120.results.toList=[.cell 2 96]:=kZq
theorem XZ:Tryz.f121.results.toList=[.cell 2 96]:=kZq
theorem bdi(n:Int):fj Tryz.prog 96 [(0,.v (.int .i64 1)),(1,.v (.int .i64 n))]=some (.agg (cE 1 n [] .nil 0 [])):=kZq
theorem bdt(s:List UInt8):fj Tryz.prog 96 [(0,.v (.int .i64 2)),(2,.v (.string (bs s)))]=some (.agg (cE 2 0 s .nil 0 [])):=kZq
theorem bdl(k:Tok)(sz:Nat)(rows:List (List AV)):fj Tryz.prog 96 [(0,.v (.int .i64 3)),(3,.list k sz rows)]=some (.agg (cE 3 0 [] k sz rows)):=kZq
theorem S0{H:ae}{k n:Int}{s:List UInt8}{t:Tok}{sz:Nat}{rows:List (List AV)}:aA Tryz.prog (H.push (cE 0 0 [] .nil 0 [])) 96 (.ptr (.box H.boxes.length) 0) (.agg (cE k n s t sz rows))=some (H.push (cE k n s t sz rows)):=cQ rfl tX rfl rfl
theorem W9{H:ae}{k n:Int}{s:List UInt8}{t:Tok}{sz:Nat}{rows:List (List AV)}:ai Tryz.prog Gt (H.push (cE k n s t sz rows)) 96 (.ptr (.box H.boxes.length) 0)=some (.agg (cE k n s t sz rows)):=ldv rfl (ak _ _)
theorem Wo(n:Int)(h:ae):W1.call 120 [.v (.int .i64 n)] h=some (.ret (.agg (cE 1 n [] .nil 0 [])),h.push (cE 1 n [] .nil 0 [])):=by
 have z:=JJ
 refine ar rfl Tryz.func120 rfl ?_
 exact gz4 @XY @bdi @S0 @W9
theorem VX(s:List UInt8)(h:ae):W1.call 121 [.v (.string (bs s))] h=some (.ret (.agg (cE 2 0 s .nil 0 [])),h.push (cE 2 0 s .nil 0 [])):=by
 have z:=JJ
 refine ar rfl Tryz.func121 rfl ?_
 exact gz4 @XZ @bdt @S0 @W9
theorem VY(k:Tok)(sz:Nat)(rows:List (List AV))(h:ae):W1.call 119 [.list k sz rows] h=some (.ret (.agg (cE 3 0 [] k sz rows)),h.push (cE 3 0 [] k sz rows)):=by
 have z:=JJ
 refine ar rfl Tryz.func119 rfl ?_
 exact gz4 @XX @bdl @S0 @W9
def L2:List FuncId:=[28,29,30,46,65,66,69,78,82,94,118,119,120,121,123,132,138,140,146,194,201]
noncomputable def DH:FuncId->Option (List AV->ae->Option (AV × ae)):=fx W1 L2
noncomputable abbrev W2:=whole Tryz.prog Gt DH
theorem tH:jo DH L2:=nE
section
variable (a b n x:Int)
theorem Rg:∀h,W2.call 28 [im a,im b] h=some (.ret (im (cN a b)),h):=aF (L:=L2) rfl rfl rfl (SX a b _) rfl rfl
theorem Pa:∀h,W2.call 29 [im a,im b] h=some (.ret (im (cq a b)),h):=aF (L:=L2) rfl rfl rfl (SY a b _) rfl rfl
theorem JX:∀h,W2.call 201 [im n] h=some (.ret (.tuple [im (if fmod n=0 then 0 else eZ n),im (if fmod n=0 then 90 else 0)]),h):=aF (L:=L2) rfl rfl rfl (JH n _) rfl rfl
theorem Pb:∀h,W2.call 46 [im x] h=some (.ret (.v (.bool (aX x))),h):=aF (L:=L2) rfl rfl rfl (O2 x _) rfl rfl
theorem Rh:∀h,W2.call 69 [im a,im b] h=some (.ret (.tuple [im (pO a b),im (mP a b)]),h):=aF (L:=L2) rfl rfl rfl (QY a b _) rfl rfl
theorem Ri:∀h,W2.call 30 [im a,im n] h=some (.ret (.tuple [im (iL a n),im (lG a)]),h):=aF (L:=L2) rfl rfl rfl (QZ a n _) rfl rfl
theorem Wp:∀h,W2.call 94 [im x] h=some (.ret (.v (.bool (aX x))),h):=aF (L:=L2) rfl rfl rfl (Wk x _) rfl rfl
theorem Xa:∀h,W2.call 140 [im a,im b] h=some (.ret (.tuple [im (pO a b),im (mP a b)]),h):=aF (L:=L2) rfl rfl rfl (WW a b _) rfl rfl
theorem Xb:∀h,W2.call 132 [im a,im n] h=some (.ret (.tuple [im (iL a n),im (lG a)]),h):=aF (L:=L2) rfl rfl rfl (WX a n _) rfl rfl
theorem X7:∀h,W2.call 120 [im n] h=some (.ret (.agg (cE 1 n [] .nil 0 [])),h):=aF (L:=L2) rfl rfl rfl (Wo n _) rfl rfl
end
theorem Xc(s:List UInt8):∀h,W2.call 121 [sv s] h=some (.ret (.agg (cE 2 0 s .nil 0 [])),h):=aF (L:=L2) rfl rfl rfl (VX s _) rfl rfl
theorem ok0:aZ ⟨[],[],0,[]⟩=true:=rfl
theorem Pc(tag b:List UInt8)(k:Tok)(hb:b.length<=1099511620000)(ht:tag.length<=1099511620000):∀h,W2.call 78 [.v (.string (bs tag)),.list k 1 (u8s b)] h=some (.ret (im (mK (dV tag b):Nat)),h):=
 aF (L:=L2) (args':=[.v (.string (bs tag)),.list (di k) 1 (u8s b)]) rfl (by rw[bM,bM,au.eq_1,iQ];rfl) (by simp[bA,aV,bV,fT]) (O4 tag b _ hb ht _) rfl rfl
theorem Xd(tag b:List UInt8)(k:Tok)(hb:b.length<=1099511610000)(ht:tag.length<=1099511610000):∀h,W2.call 123 [.v (.string (bs tag)),.list k 1 (u8s b)] h=some (.ret (im (mK (dV tag b):Nat)),h):=by
 obtain⟨h',hc,-⟩:=VW tag b (di k) ⟨[],[],0,[]⟩ ok0 hb ht
 exact aF (L:=L2) (args':=[.v (.string (bs tag)),.list (di k) 1 (u8s b)]) rfl (by rw[bM,bM,au.eq_1,iQ];rfl) (by simp[bA,aV,bV,fT]) hc rfl rfl
theorem MD{v:Vl}{r:List AV}(hv:eo v r)(hd:eD v<=16)(hl:(fB v).length<=1099511600000):∃t,∀h,W2.call 146 [.agg r] h=some (.ret (.tuple [.list t 1 (u8s (fB v)),.v (.int .i64 0)]),h):=by
 obtain⟨h1,h2⟩:=eo.hold v r hv
 obtain⟨r',h',hc,t,rfl,-⟩:=GV h1 hd (by omega) ⟨[],[],0,[]⟩ ok0
 exact⟨di t,aF (L:=L2) (args':=[.agg (bM r)]) rfl rfl (by simpa [bA,aV] using h2) hc rfl (by simp[aV,bA,bV,fT])⟩
theorem VZ{v:Vl}{r:List AV}(hv:eo v r)(hd:eD v<=16)(hl:(fB v).length<=1099511600000):∃t,∀h,W2.call 118 [.agg r] h=some (.ret (.tuple [.list t 1 (u8s (fB v)),.v (.int .i64 0)]),h):=by
 obtain⟨h1,h2⟩:=eo.hold v r hv
 obtain⟨r',h',hc,t,rfl,-⟩:=Vc h1 hd (by omega) ⟨[],[],0,[]⟩ ok0
 exact⟨di t,aF (L:=L2) (args':=[.agg (bM r)]) rfl rfl (by simpa [bA,aV] using h2) hc rfl (by simp[aV,bA,bV,fT])⟩
def oP(l:List Vl)(rows:List (List AV)):Prop:=rows.length=l.length/\∀(i:Nat) v r,l[i]?=some v->rows[i]?=some r->eo v r
theorem Rj:Tryz.f202.results.toList=[.tmp 4]:=kZq
theorem JY:Tryz.f219.results.toList=[]:=kZq
theorem mo:cZ Tryz.prog 23=some false:=kZq
theorem Rk:cZ Tryz.prog 203=some false:=kZq
theorem vD{H:ae}{b:Nat}{x:AV}(hb:H.boxes[b]?=some [x]):ai Tryz.prog Gt H 23 (.ptr (.box b) 0)=some x:=by rw[dc mo hb];rfl
theorem qa{H:ae}{b:Nat}{x:AV}(hb:H.boxes[b]?=some [x]):ai Tryz.prog Gt H 203 (.ptr (.box b) 0)=some x:=by rw[dc Rk hb];rfl
theorem ldc{H:ae}{b k:Nat}{cs:List AV}{x:AV}(hb:H.boxes[b]?=some cs)(hk:cs[k]?=some x):ai Tryz.prog Gt H 3 (.ptr (.box b) k)=some x:=by
 rw[dc ag3 hb,aeu,hk]
theorem oQ{H:ae}{b k:Nat}{cs:List AV}{x:AV}(hb:H.boxes[b]?=some cs)(hk:cs[k]?=some x):ai Tryz.prog Gt H 23 (.ptr (.box b) k)=some x:=by
 rw[dc mo hb,aeu,hk]
theorem vE{b len cap n:Nat}{k:IntKind}(hn:n<len):ay Tryz.prog 23 (.arr b 0 len cap) (.v (.int k (n:Nat)))=some (.ptr (.box b) n):=by
 rw[mE Tryz.underlying23 sz3 (by omega) (by omega),abB,acM,acB]
theorem xH{b len cap n:Nat}{k:IntKind}(hn:n<len):ay Tryz.prog 203 (.arr b 0 len cap) (.v (.int k (n:Nat)))=some (.ptr (.box b) n):=by
 rw[mE Tryz.underlying203 jC (by omega) (by omega),abB,acM,acB]
theorem Bq(xb w c:Nat)(h:ae):W2.call 202 [.arr xb 0 w w,im (c:Nat)] h=some (.ret (.func (.func 219) [] [.ptr (.box (h.boxes.length+1)) 0,.ptr (.box h.boxes.length) 0]),(h.push [.arr xb 0 w w]).push [im (c:Nat)]):=by
 have b1:(AV.arr xb 0 w w).aC=some [.arr xb 0 w w]:=rfl
 have b2:(AV.v (.int .i64 (c:Nat))).aC=some [.v (.int .i64 (c:Nat))]:=rfl
 unfold im
 refine ar rfl Tryz.func202 rfl ?_
 exact gz3 @Rj @aw @az
theorem vG(l cb rb xb w c:Nat)(row:List Int)(Inv:Nat->ae->Prop)
 (h1:∀k H,Inv k H->H.boxes[cb]?=some [im (c:Nat)]/\H.boxes[rb]?=some [.arr xb 0 w w]/\(k<w->∃cs,H.boxes[xb]?=some cs/\cs[k]?=some (im (at0 row k))))
 (hR:∀k H,c<=k->k<w->Inv k H->∃H',W2.round l [im (k:Nat),im (at0 row k)] H=some (.ret (.v (.bool true)),H')/\Inv (k+1) H')
 (hc:c<=w) (hwl:w<=1000000) (H0:ae) (h0:Inv c H0):∃H',W2.call 219 [.yield l,.ptr (.box cb) 0,.ptr (.box rb) 0] H0=some (.ret (.tuple []),H')/\Inv w H':=by
 have k1:=ah.mk h1
 have kR:=ah.mk hR
 have k0:=ah.mk h0
 obtain⟨b1,b2,-⟩:=h1 c H0 h0
 have l1:=ld3 b1
 unfold im at l1
 have u23:=Tryz.underlying23
 clear h1 hR h0 b1 b2
 refine dL rfl Tryz.func219 rfl ?_
 refine gx1 @JY ?_
 refine aD (fun m e H=>∃k:Nat,c<=k/\k<=w/\m=w - k/\e.get 0=.yield l/\e.get 1=.ptr (.box cb) 0/\e.get 2=.ptr (.box rb) 0/\e.get 4=.v (.int .i64 k)/\e.defers=[]/\Inv k H) ?_ (w - c) _ _ ?_
 rotate_left 1
 ·refine⟨c,abq _,hc,rfl,?_,?_,?_,?_,?_,k0.out⟩<;>(first|assumption|(exact gR))
 clear l1 k0
 rintro m e H ⟨k,hk1,hk2,rfl,g0,g1,g2,g4,hd,hI⟩
 obtain⟨b1,b2,b3⟩:=k1.out k H hI
 have l2:=vD b2
 have kI:=ah.mk hI
 clear b1 hI
 by_cases hlt:k<w
 ·obtain⟨cs,b4,b5⟩:=b3 hlt
  obtain⟨H',r1,r2⟩:=kR.out k H hk1 hlt kI.out
  have ix:=vE (b:=xb) (len:=w) (cap:=w) (k:=.i64) hlt
  have l3:=ldc b4 b5
  have kI2:=ah.mk r2
  have hltI:((k:Nat):Int)<((w:Nat):Int):=by omega
  unfold im at *
  clear b2 b3 b4 b5 r2 kI
  refine gx2 @JY @gY ?_
  exact⟨w - (k+1),by omega,k+1,by omega,by omega,rfl,by trivial,by trivial,by trivial,by simp,by trivial,kI2.out⟩
 ·have:k=w:=by omega
  subst this
  clear b2 b3
  repeat' (first|simp(maxSteps:=999999)(disch:=first|exact dZ|fail)only[gW,reduceIte,abn,gBQ,JY, *]|refine dX ?_ ?_<;>(intro _;try omega))
  exact⟨_,rfl,kI.out⟩
end Go.Proofs.YtnfciiiohoafaaaGreatDoor
end
