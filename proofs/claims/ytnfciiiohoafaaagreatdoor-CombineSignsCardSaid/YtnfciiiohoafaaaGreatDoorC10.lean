/-
  CombineSigns: the law answers true for every input. No condition beyond the row's own.
-/
import Derived.Test.YtnfciiiohoafaaaGreatDoorS10
import Derived.Test.YtnfciiiohoafaaaGreatDoorPT
import Derived.Test.YtnfciiiohoafaaaGreatDoorPU
import Derived.Test.YtnfciiiohoafaaaGreatDoorCards
import Derived.Test.YtnfciiiohoafaaaGreatDoorTie
import Derived.LaidMore
import Derived.Deep.DeepHandedRow
import Derived.Deep.DeepWitnessRowRef
import Derived.KernelRfl
set_option maxHeartbeats 64000000
set_option maxRecDepth 100000
set_option linter.unusedSimpArgs false
set_option linter.unusedVariables false
set_option linter.constructorNameAsVariable false
section
namespace Go.Proofs.YtnfciiiohoafaaaGreatDoor
open Go.AE Go.NT Go.ChangeShapes Go.WideShapes Go.RowKit
namespace combineSignsClose
theorem lenN{α:Type}{l:List α}(h:l.length=6):∃a0 a1 a2 a3 a4 a5,l=[a0,a1,a2,a3,a4,a5]:=by
 match l,h with
 | [a0,a1,a2,a3,a4,a5],_=>exact⟨a0,a1,a2,a3,a4,a5,rfl⟩
theorem facts:LawFactsS Tryz.prog Ln 10 Tryz.f10 4:=⟨Tryz.func10,kZq,kZq,by
 have:(Tryz.f10.params.toList.all fun t=>Ln.contains t&&Tryz.prog.readableRec t&&decide (t<Tryz.prog.types.size))=true:=kZq
 intro t ht
 have:=List.all_eq_true.1 this t ht
 simp only[Bool.and_eq_true,decide_eq_true_eq] at this
 exact⟨this.1.1,this.1.2,this.2⟩,kZq,Tryz.underlying4⟩
theorem laid_met(os:Os)(args:Array Value):laidMetH Tryz.prog Rows.combineSignsRow.laid ((World.doorLaid Tryz.prog 400 os).forCall (fun _ _=>0) ⟨#[],args,[]⟩).memory:=
 laidMetH_of_parts3 (fuel:=8) (laidMet_of_run' 8 kZq kZq) kZq kZq
theorem reads(os:Os){H:Type}(enc:TypeId × Value->H):∃places,DataW.whole enc Tryz.prog ((World.doorLaid Tryz.prog 400 os).forCall (fun _ _=>0) ⟨#[],#[.agg #[.slice none 0 0,.slice none 0 0],.int .i64 0,.slice none 0 0,.slice none 0 0,.slice none 0 0,.slice none 0 0],[]⟩).memory Tryz.f10.params.toList Rows.combineSignsSpec.vars false #[Value.agg #[.slice none 0 0,.slice none 0 0],.int .i64 0,.slice none 0 0,.slice none 0 0,.slice none 0 0,.slice none 0 0].toList 8=some ([.agg [.nil,.nil],.lit (.int .i64 0),.nil,.nil,.nil,.nil],[],places):=
 ⟨[],kZq⟩
theorem law{W0:World}{H:Type}(ds:List (DataW H))(xs:List AV)(h:jF Tryz.prog Tryz.f10.params.toList xs ds):∃h',W7.call 10 xs ae.init=some (.ret (.v (.bool true)),h'):=by
 have hp:Tryz.f10.params.toList=[25,3,23,23,23,28]:=kZq
 rw[hp] at h
 obtain⟨x0,xs,d0,ds,rfl,rfl,h0,h⟩:=h.cons_inv
 obtain⟨x1,xs,d1,ds,rfl,rfl,h1,h⟩:=h.cons_inv
 obtain⟨x2,xs,d2,ds,rfl,rfl,h2,h⟩:=h.cons_inv
 obtain⟨x3,xs,d3,ds,rfl,rfl,h3,h⟩:=h.cons_inv
 obtain⟨x4,xs,d4,ds,rfl,rfl,h4,h⟩:=h.cons_inv
 obtain⟨x5,xs,d5,ds,rfl,rfl,h5,h⟩:=h.cons_inv
 obtain rfl:=h.L7
 obtain⟨X0,Y0,r0,o0,rfl,p0,q0⟩:=Lm h0
 obtain⟨a1,rfl,-⟩:=h1.yZ Tryz.underlying3
 obtain⟨l2,b2,m2⟩:=sW h2
 obtain⟨l3,b3,m3⟩:=sW h3
 obtain⟨l4,b4,m4⟩:=sW h4
 obtain⟨l5,b5⟩:=HO h5
 obtain⟨_,h',hh,rfl⟩:=YB ae.init rfl X0 Y0 x2 x3 x4 x5 r0 o0 a1 l2 l3 l4 l5 p0 q0 b2 b3 b4 b5 m2 m3 m4
 exact⟨h',hh⟩
theorem lifted(os:Os)(started:os.Started)(H:Type)(enc:TypeId × Value->H)(F:Stop.Interp):
 ReturnsInHanded {} Tryz.checked os 10 .any ((OpenSpec.ofChange Rows.combineSignsSpec).preRow enc Tryz.prog Tryz.f10 Rows.combineSignsRow.domain false Rows.combineSignsRow.laid) (((OpenSpec.ofChange Rows.combineSignsSpec).at F).post enc Tryz.prog Tryz.f10 false true false false):=by
 obtain⟨places,hx⟩:=reads os enc
 refine returnsInHanded_of_row (C:=Tryz.checked) (s:=OpenSpec.ofChange Rows.combineSignsSpec) Lk started kZq Tryz.func10
  (witness_row_atRef (enc:=enc) (C:=Tryz.checked) false (World.doorLaid Tryz.prog 400 os) #[.agg #[.slice none 0 0,.slice none 0 0],.int .i64 0,.slice none 0 0,.slice none 0 0,.slice none 0 0,.slice none 0 0] rfl kZq kZq kZq
   (OpenSpec.preRow_of_cond 8 hx kZq (fun k hk=>by cases hk) kZq (laid_met os _))) ?_
 intro W base args ds gs before hval hW _ _ _ hL _ _
 refine law_contractS jl facts rfl (fun ds hl=>?_) hval hW (Sv hL) (fun g p h=>WH _ g p h) (law (W0:=W) ds)
 obtain⟨d0,d1,d2,d3,d4,d5,rfl⟩:=lenN hl
 exact⟨rfl,rfl,rfl⟩
theorem said:Rows.CombineSignsSaid:=
 OpenClaim.holds_of_cond 10 Tryz.f10 rfl rfl rfl rfl rfl rfl rfl ⟨rfl,rfl,rfl,rfl,rfl⟩ rfl rfl rfl rfl rfl kZq Tryz.func10 kZq
  (of_decide_eq_true kZq) (by unfold Func.isWrapper;first| (rw[if_pos (by decide+kernel)];kernel_rfl) | (rw[if_neg (by decide+kernel)];exact⟨rfl,rfl⟩))
  (fun os started H enc _ F=>by rw[OpenClaim.pre_eq_preRow];exact lifted os started H enc F)
theorem plain(f:FuncId)(fn:Func)(hf:Tryz.pinned.checked.prog.funcNamed Tryz.f10.name=some f)(hfn:Tryz.pinned.checked.prog.funcs[f]?=some fn):
 true=Tryz.pinned.checked.prog.looks []/\∀(j:Nat) t,fn.params[j]?=some t->Tryz.pinned.checked.prog.wantsStandIn t=false:=by
 obtain rfl:f=10:=Option.some.inj ((show Tryz.prog.funcNamed Tryz.f10.name=some 10 by kernel_rfl).symm.trans hf) |>.symm
 obtain rfl:fn=Tryz.f10:=(Option.some.inj (Tryz.func10.symm.trans hfn)).symm
 refine⟨kZq,fun j t ht=>?_⟩
 have:(Tryz.f10.params.toList.all fun t=> !Tryz.prog.wantsStandIn t)=true:=kZq
 have h2:=List.all_eq_true.1 this t (Array.mem_toList_iff.2 (Array.mem_of_getElem? ht))
 have h3:Tryz.prog.wantsStandIn t=false:=by simpa using h2
 exact h3
end combineSignsClose
theorem combineSigns_card:Rows.CombineSignsCardSaid:=
 Claim7.holds_tied_plain_at .later [] _ _ _ _ combineSignsClose.said (fun _ h=>by cases h) kZq (fun _ h=>by cases h) combineSigns_row_tie rfl ⟨rfl,rfl⟩ kZq rfl combineSignsClose.plain kZq
end Go.Proofs.YtnfciiiohoafaaaGreatDoor
end
