/-
  CombineSum: the law answers true for every input. No condition beyond the row's own.
-/
import Derived.Test.YtnfciiiohoafaaaGreatDoorS13
import Derived.Test.YtnfciiiohoafaaaGreatDoorPJ
import Derived.Test.YtnfciiiohoafaaaGreatDoorCards
import Derived.Test.YtnfciiiohoafaaaGreatDoorTie
import Derived.LaidMore
import Derived.Deep.DeepHandedRow
import Derived.Deep.DeepWitnessRowRef
import Derived.KernelRfl
open List renaming all_eq_true→abE
open Option renaming some.inj→afo
set_option maxHeartbeats 64000000
set_option maxRecDepth 100000
set_option linter.unusedSimpArgs false
set_option linter.unusedVariables false
set_option linter.constructorNameAsVariable false
section
namespace Go.Proofs.YtnfciiiohoafaaaGreatDoor
open Go.AE Go.NT Go.ChangeShapes Go.WideShapes Go.RowKit
namespace combineSumClose
theorem lenN{α:Type}{l:List α}(h:l.length=7):∃a0 a1 a2 a3 a4 a5 a6,l=[a0,a1,a2,a3,a4,a5,a6]:=by
 match l,h with
 | [a0,a1,a2,a3,a4,a5,a6],_=>exact⟨a0,a1,a2,a3,a4,a5,a6,rfl⟩
theorem facts:yi Tryz.prog Ln 13 Tryz.f13 4:=⟨Tryz.func13,kZq,kZq,by
 have:(Tryz.f13.params.toList.all fun t=>Ln.contains t&&Tryz.prog.readableRec t&&decide (t<Tryz.prog.types.size))=true:=kZq
 intro t ht
 have:=abE.1 this t ht
 simp only[Bool.and_eq_true,decide_eq_true_eq] at this
 exact⟨this.1.1,this.1.2,this.2⟩,kZq,Tryz.underlying4⟩
theorem laid_met(os:Os)(args:Array Value):laidMetH Tryz.prog Rows.combineSumRow.laid ((World.doorLaid Tryz.prog 400 os).forCall (fun _ _=>0) ⟨#[],args,[]⟩).memory:=
 laidMetH_of_parts3 (fuel:=8) (laidMet_of_run' 8 kZq kZq) kZq kZq
theorem reads(os:Os){H:Type}(enc:TypeId × Value->H):∃places,DataW.whole enc Tryz.prog ((World.doorLaid Tryz.prog 400 os).forCall (fun _ _=>0) ⟨#[],#[.agg #[.slice none 0 0,.slice none 0 0],.int .i64 0,.slice none 0 0,.slice none 0 0,.slice none 0 0,.slice none 0 0,.int .i64 0],[]⟩).memory Tryz.f13.params.toList Rows.combineSumSpec.vars false #[Value.agg #[.slice none 0 0,.slice none 0 0],.int .i64 0,.slice none 0 0,.slice none 0 0,.slice none 0 0,.slice none 0 0,.int .i64 0].toList 8=some ([.agg [.nil,.nil],.lit (.int .i64 0),.nil,.nil,.nil,.nil,.lit (.int .i64 0)],[],places):=
 ⟨[],kZq⟩
theorem law{W0:World}{H:Type}(ds:List (DataW H))(xs:List AV)(h:jF Tryz.prog Tryz.f13.params.toList xs ds):∃h',W7.call 13 xs ae.init=some (.ret (.v (.bool true)),h'):=by
 have hp:Tryz.f13.params.toList=[25,3,23,23,23,28,3]:=kZq
 rw[hp] at h
 obtain⟨x0,xs,d0,ds,rfl,rfl,h0,h⟩:=h.cons_inv
 obtain⟨x1,xs,d1,ds,rfl,rfl,h1,h⟩:=h.cons_inv
 obtain⟨x2,xs,d2,ds,rfl,rfl,h2,h⟩:=h.cons_inv
 obtain⟨x3,xs,d3,ds,rfl,rfl,h3,h⟩:=h.cons_inv
 obtain⟨x4,xs,d4,ds,rfl,rfl,h4,h⟩:=h.cons_inv
 obtain⟨x5,xs,d5,ds,rfl,rfl,h5,h⟩:=h.cons_inv
 obtain⟨x6,xs,d6,ds,rfl,rfl,h6,h⟩:=h.cons_inv
 obtain rfl:=h.L7
 obtain⟨X0,Y0,r0,o0,rfl,p0,q0⟩:=Lm h0
 obtain⟨a1,rfl,-⟩:=h1.yZ Tryz.underlying3
 obtain⟨l2,b2,m2⟩:=sW h2
 obtain⟨l3,b3,m3⟩:=sW h3
 obtain⟨l4,b4,m4⟩:=sW h4
 obtain⟨l5,b5⟩:=HO h5
 obtain⟨a6,rfl,-⟩:=h6.yZ Tryz.underlying3
 obtain⟨_,h',hh,rfl⟩:=YG ae.init rfl X0 Y0 x2 x3 x4 x5 r0 o0 a1 l2 l3 l4 l5 a6 p0 q0 b2 b3 b4 b5 m2 m3 m4
 exact⟨h',hh⟩
theorem lifted(os:Os)(started:os.Started)(H:Type)(enc:TypeId × Value->H)(F:Stop.Interp):
 ReturnsInHanded {} Tryz.checked os 13 .any ((OpenSpec.ofChange Rows.combineSumSpec).preRow enc Tryz.prog Tryz.f13 Rows.combineSumRow.domain false Rows.combineSumRow.laid) (((OpenSpec.ofChange Rows.combineSumSpec).at F).post enc Tryz.prog Tryz.f13 false true false false):=by
 obtain⟨places,hx⟩:=reads os enc
 refine returnsInHanded_of_row (C:=Tryz.checked) (s:=OpenSpec.ofChange Rows.combineSumSpec) Lk started kZq Tryz.func13
  (witness_row_atRef (enc:=enc) (C:=Tryz.checked) false (World.doorLaid Tryz.prog 400 os) #[.agg #[.slice none 0 0,.slice none 0 0],.int .i64 0,.slice none 0 0,.slice none 0 0,.slice none 0 0,.slice none 0 0,.int .i64 0] rfl kZq kZq kZq
   (OpenSpec.preRow_of_cond 8 hx kZq (fun k hk=>by cases hk) kZq (laid_met os _))) ?_
 intro W base args ds gs before hval hW _ _ _ hL _ _
 refine wP jl facts rfl (fun ds hl=>?_) hval hW (Sv hL) (fun g p h=>WH _ g p h) (law (W0:=W) ds)
 obtain⟨d0,d1,d2,d3,d4,d5,d6,rfl⟩:=lenN hl
 exact⟨rfl,rfl,rfl⟩
theorem said:Rows.CombineSumSaid:=
 OpenClaim.holds_of_cond 13 Tryz.f13 rfl rfl rfl rfl rfl rfl rfl ⟨rfl,rfl,rfl,rfl,rfl⟩ rfl rfl rfl rfl rfl kZq Tryz.func13 kZq
  (of_decide_eq_true kZq) (by unfold Func.isWrapper;first|(rw[if_pos (by decide+kernel)];kernel_rfl)|(rw[if_neg (by decide+kernel)];exact⟨rfl,rfl⟩))
  (fun os started H enc _ F=>by rw[OpenClaim.pre_eq_preRow];exact lifted os started H enc F)
theorem plain(f:FuncId)(fn:Func)(hf:Tryz.pinned.checked.prog.funcNamed Tryz.f13.name=some f)(hfn:Tryz.pinned.checked.prog.funcs[f]?=some fn):
 true=Tryz.pinned.checked.prog.looks []/\∀(j:Nat) t,fn.params[j]?=some t->Tryz.pinned.checked.prog.wantsStandIn t=false:=by
 obtain rfl:f=13:=afo ((show Tryz.prog.funcNamed Tryz.f13.name=some 13 by kernel_rfl).symm.trans hf)|>.symm
 obtain rfl:fn=Tryz.f13:=(afo (Tryz.func13.symm.trans hfn)).symm
 refine⟨kZq,fun j t ht=>?_⟩
 have:(Tryz.f13.params.toList.all fun t=> !Tryz.prog.wantsStandIn t)=true:=kZq
 have h2:=abE.1 this t (Array.mem_toList_iff.2 (Array.mem_of_getElem? ht))
 have h3:Tryz.prog.wantsStandIn t=false:=by simpa using h2
 exact h3
end combineSumClose
theorem combineSum_card:Rows.CombineSumCardSaid:=
 Claim7.holds_tied_plain_at .later [] _ _ _ _ combineSumClose.said (fun _ h=>by cases h) kZq (fun _ h=>by cases h) combineSum_row_tie rfl ⟨rfl,rfl⟩ kZq rfl combineSumClose.plain kZq
end Go.Proofs.YtnfciiiohoafaaaGreatDoor
end
