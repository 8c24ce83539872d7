/-
  CombineEvery: the law answers true for every input. No condition beyond the row's own.
-/
import Derived.Test.YtnfciiiohoafaaaGreatDoorS12
import Derived.Test.YtnfciiiohoafaaaGreatDoorPT
import Derived.Test.YtnfciiiohoafaaaGreatDoorPU
import Derived.Test.YtnfciiiohoafaaaGreatDoorCards
import Derived.Test.YtnfciiiohoafaaaGreatDoorTie
import Derived.LaidMore
import Derived.Deep.DeepHandedRow
import Derived.Deep.DeepWitnessRowRef
import Derived.KernelRfl
set_option maxHeartbeats 64000000
set_option maxRecDepth 100000
set_option linter.unusedSimpArgs false
set_option linter.unusedVariables false
set_option linter.constructorNameAsVariable false
section
namespace Go.Proofs.YtnfciiiohoafaaaGreatDoor
open Go.AE Go.NT Go.ChangeShapes Go.WideShapes Go.RowKit
namespace combineEveryClose
theorem lenN{α:Type}{l:List α}(h:l.length=8):∃a0 a1 a2 a3 a4 a5 a6 a7,l=[a0,a1,a2,a3,a4,a5,a6,a7]:=by
 match l,h with
 | [a0,a1,a2,a3,a4,a5,a6,a7],_=>exact⟨a0,a1,a2,a3,a4,a5,a6,a7,rfl⟩
theorem facts:LawFactsS Tryz.prog Ln 12 Tryz.f12 4:=⟨Tryz.func12,kZq,kZq,by
 have:(Tryz.f12.params.toList.all fun t=>Ln.contains t&&Tryz.prog.readableRec t&&decide (t<Tryz.prog.types.size))=true:=kZq
 intro t ht
 have:=List.all_eq_true.1 this t ht
 simp only[Bool.and_eq_true,decide_eq_true_eq] at this
 exact⟨this.1.1,this.1.2,this.2⟩,kZq,Tryz.underlying4⟩
theorem laid_met(os:Os)(args:Array Value):laidMetH Tryz.prog Rows.combineEveryRow.laid ((World.doorLaid Tryz.prog 400 os).forCall (fun _ _=>0) ⟨#[],args,[]⟩).memory:=
 laidMetH_of_parts3 (fuel:=8) (laidMet_of_run' 8 kZq kZq) kZq kZq
theorem reads(os:Os){H:Type}(enc:TypeId × Value->H):∃places,DataW.whole enc Tryz.prog ((World.doorLaid Tryz.prog 400 os).forCall (fun _ _=>0) ⟨#[],#[.agg #[.slice none 0 0,.slice none 0 0],.int .i64 0,.slice none 0 0,.slice none 0 0,.slice none 0 0,.slice none 0 0,.slice none 0 0,.slice none 0 0],[]⟩).memory Tryz.f12.params.toList Rows.combineEverySpec.vars false #[Value.agg #[.slice none 0 0,.slice none 0 0],.int .i64 0,.slice none 0 0,.slice none 0 0,.slice none 0 0,.slice none 0 0,.slice none 0 0,.slice none 0 0].toList 8=some ([.agg [.nil,.nil],.lit (.int .i64 0),.nil,.nil,.nil,.nil,.nil,.nil],[],places):=
 ⟨[],kZq⟩
theorem law{W0:World}{H:Type}(ds:List (DataW H))(xs:List AV)(h:jF Tryz.prog Tryz.f12.params.toList xs ds):∃h',W7.call 12 xs ae.init=some (.ret (.v (.bool true)),h'):=by
 have hp:Tryz.f12.params.toList=[25,3,23,23,23,23,23,28]:=kZq
 rw[hp] at h
 obtain⟨x0,xs,d0,ds,rfl,rfl,h0,h⟩:=h.cons_inv
 obtain⟨x1,xs,d1,ds,rfl,rfl,h1,h⟩:=h.cons_inv
 obtain⟨x2,xs,d2,ds,rfl,rfl,h2,h⟩:=h.cons_inv
 obtain⟨x3,xs,d3,ds,rfl,rfl,h3,h⟩:=h.cons_inv
 obtain⟨x4,xs,d4,ds,rfl,rfl,h4,h⟩:=h.cons_inv
 obtain⟨x5,xs,d5,ds,rfl,rfl,h5,h⟩:=h.cons_inv
 obtain⟨x6,xs,d6,ds,rfl,rfl,h6,h⟩:=h.cons_inv
 obtain⟨ZZ,xs,d7,ds,rfl,rfl,h7,h⟩:=h.cons_inv
 obtain rfl:=h.L7
 obtain⟨X0,Y0,r0,o0,rfl,p0,q0⟩:=Lm h0
 obtain⟨a1,rfl,-⟩:=h1.yZ Tryz.underlying3
 obtain⟨l2,b2,m2⟩:=sW h2
 obtain⟨l3,b3,m3⟩:=sW h3
 obtain⟨l4,b4,m4⟩:=sW h4
 obtain⟨l5,b5,m5⟩:=sW h5
 obtain⟨l6,b6,m6⟩:=sW h6
 obtain⟨l7,Zj⟩:=HO h7
 obtain⟨_,h',hh,rfl⟩:=YC ae.init rfl X0 Y0 x2 x3 x4 x5 x6 ZZ r0 o0 a1 l2 l3 l4 l5 l6 l7 p0 q0 b2 b3 b4 b5 b6 Zj m2 m3 m4 m5 m6
 exact⟨h',hh⟩
theorem lifted(os:Os)(started:os.Started)(H:Type)(enc:TypeId × Value->H)(F:Stop.Interp):
 ReturnsInHanded {} Tryz.checked os 12 .any ((OpenSpec.ofChange Rows.combineEverySpec).preRow enc Tryz.prog Tryz.f12 Rows.combineEveryRow.domain false Rows.combineEveryRow.laid) (((OpenSpec.ofChange Rows.combineEverySpec).at F).post enc Tryz.prog Tryz.f12 false true false false):=by
 obtain⟨places,hx⟩:=reads os enc
 refine returnsInHanded_of_row (C:=Tryz.checked) (s:=OpenSpec.ofChange Rows.combineEverySpec) Lk started kZq Tryz.func12
  (witness_row_atRef (enc:=enc) (C:=Tryz.checked) false (World.doorLaid Tryz.prog 400 os) #[.agg #[.slice none 0 0,.slice none 0 0],.int .i64 0,.slice none 0 0,.slice none 0 0,.slice none 0 0,.slice none 0 0,.slice none 0 0,.slice none 0 0] rfl kZq kZq kZq
   (OpenSpec.preRow_of_cond 8 hx kZq (fun k hk=>by cases hk) kZq (laid_met os _))) ?_
 intro W base args ds gs before hval hW _ _ _ hL _ _
 refine law_contractS jl facts rfl (fun ds hl=>?_) hval hW (Sv hL) (fun g p h=>WH _ g p h) (law (W0:=W) ds)
 obtain⟨d0,d1,d2,d3,d4,d5,d6,d7,rfl⟩:=lenN hl
 exact⟨rfl,rfl,rfl⟩
theorem said:Rows.CombineEverySaid:=
 OpenClaim.holds_of_cond 12 Tryz.f12 rfl rfl rfl rfl rfl rfl rfl ⟨rfl,rfl,rfl,rfl,rfl⟩ rfl rfl rfl rfl rfl kZq Tryz.func12 kZq
  (of_decide_eq_true kZq) (by unfold Func.isWrapper;first| (rw[if_pos (by decide+kernel)];kernel_rfl) | (rw[if_neg (by decide+kernel)];exact⟨rfl,rfl⟩))
  (fun os started H enc _ F=>by rw[OpenClaim.pre_eq_preRow];exact lifted os started H enc F)
theorem plain(f:FuncId)(fn:Func)(hf:Tryz.pinned.checked.prog.funcNamed Tryz.f12.name=some f)(hfn:Tryz.pinned.checked.prog.funcs[f]?=some fn):
 true=Tryz.pinned.checked.prog.looks []/\∀(j:Nat) t,fn.params[j]?=some t->Tryz.pinned.checked.prog.wantsStandIn t=false:=by
 obtain rfl:f=12:=Option.some.inj ((show Tryz.prog.funcNamed Tryz.f12.name=some 12 by kernel_rfl).symm.trans hf) |>.symm
 obtain rfl:fn=Tryz.f12:=(Option.some.inj (Tryz.func12.symm.trans hfn)).symm
 refine⟨kZq,fun j t ht=>?_⟩
 have:(Tryz.f12.params.toList.all fun t=> !Tryz.prog.wantsStandIn t)=true:=kZq
 have h2:=List.all_eq_true.1 this t (Array.mem_toList_iff.2 (Array.mem_of_getElem? ht))
 have h3:Tryz.prog.wantsStandIn t=false:=by simpa using h2
 exact h3
end combineEveryClose
theorem combineEvery_card:Rows.CombineEveryCardSaid:=
 Claim7.holds_tied_plain_at .later [] _ _ _ _ combineEveryClose.said (fun _ h=>by cases h) kZq (fun _ h=>by cases h) combineEvery_row_tie rfl ⟨rfl,rfl⟩ kZq rfl combineEveryClose.plain kZq
end Go.Proofs.YtnfciiiohoafaaaGreatDoor
end
