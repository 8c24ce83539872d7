/-
  PartialRenewed: the law answers true for every input. No condition beyond the row's own.
-/
import Derived.Test.YtnfciiiohoafaaaGreatDoorRJ
import Derived.Test.YtnfciiiohoafaaaGreatDoorCards
import Derived.Test.YtnfciiiohoafaaaGreatDoorTie
import Derived.LaidMore
import Derived.Deep.DeepHandedRow
import Derived.Deep.DeepWitnessRowRef
import Derived.KernelRfl
open List renaming all_eq_true→aa2
open Option renaming some.inj→afW
set_option maxHeartbeats 64000000
set_option maxRecDepth 100000
set_option linter.unusedSimpArgs false
set_option linter.unusedVariables false
set_option linter.constructorNameAsVariable false
section
namespace Go.Proofs.YtnfciiiohoafaaaGreatDoor
open Go.AE Go.NT Go.ChangeShapes Go.WideShapes Go.RowKit
namespace partialRenewedClose
theorem lenN{α:Type}{l:List α}(h:l.length=7):∃a0 a1 a2 a3 a4 a5 a6,l=[a0,a1,a2,a3,a4,a5,a6]:=by
 match l,h with
 | [a0,a1,a2,a3,a4,a5,a6],_=>exact⟨a0,a1,a2,a3,a4,a5,a6,rfl⟩
theorem facts:yi Tryz.prog Ln 14 Tryz.f14 4:=⟨Tryz.func14,kZq,kZq,by
 have:(Tryz.f14.params.toList.all fun t=>Ln.contains t&&Tryz.prog.readableRec t&&decide (t<Tryz.prog.types.size))=true:=kZq
 intro t ht
 have:=aa2.1 this t ht
 simp only[Bool.and_eq_true,decide_eq_true_eq] at this
 exact⟨this.1.1,this.1.2,this.2⟩,kZq,Tryz.underlying4⟩
theorem laid_met(os:Os)(args:Array Value):laidMetH Tryz.prog Rows.partialRenewedRow.laid ((World.doorLaid Tryz.prog 400 os).forCall (fun _ _=>0) ⟨#[],args,[]⟩).memory:=
 laidMetH_of_parts3 (fuel:=8) (laidMet_of_run' 8 kZq kZq) kZq kZq
theorem reads(os:Os){H:Type}(enc:TypeId × Value->H):∃places,DataW.whole enc Tryz.prog ((World.doorLaid Tryz.prog 400 os).forCall (fun _ _=>0) ⟨#[],#[.agg #[.slice none 0 0,.slice none 0 0],.int .u32 0,.slice none 0 0,.slice none 0 0,.slice none 0 0,.int .u16 0,.slice none 0 0],[]⟩).memory Tryz.f14.params.toList Rows.partialRenewedSpec.vars false #[Value.agg #[.slice none 0 0,.slice none 0 0],.int .u32 0,.slice none 0 0,.slice none 0 0,.slice none 0 0,.int .u16 0,.slice none 0 0].toList 8=some ([.agg [.nil,.nil],.lit (.int .u32 0),.nil,.nil,.nil,.lit (.int .u16 0),.nil],[],places):=
 ⟨[],kZq⟩
theorem law{W0:World}{H:Type}(ds:List (DataW H))(xs:List AV)(h:jF Tryz.prog Tryz.f14.params.toList xs ds):∃h',W6.call 14 xs ae.init=some (.ret (.v (.bool true)),h'):=by
 have hp:Tryz.f14.params.toList=[25,42,43,43,43,44,28]:=kZq
 rw[hp] at h
 obtain⟨x0,xs,d0,ds,rfl,rfl,h0,h⟩:=h.cons_inv
 obtain⟨x1,xs,d1,ds,rfl,rfl,h1,h⟩:=h.cons_inv
 obtain⟨x2,xs,d2,ds,rfl,rfl,h2,h⟩:=h.cons_inv
 obtain⟨x3,xs,d3,ds,rfl,rfl,h3,h⟩:=h.cons_inv
 obtain⟨x4,xs,d4,ds,rfl,rfl,h4,h⟩:=h.cons_inv
 obtain⟨x5,xs,d5,ds,rfl,rfl,h5,h⟩:=h.cons_inv
 obtain⟨x6,xs,d6,ds,rfl,rfl,h6,h⟩:=h.cons_inv
 obtain rfl:=h.L7
 obtain⟨X0,Y0,r0,o0,rfl,p0,q0⟩:=Lm h0
 obtain⟨a1,rfl,b1⟩:=Nk h1
 obtain⟨l2,b2⟩:=Cb h2
 obtain⟨l3,b3⟩:=Cb h3
 obtain⟨l4,b4⟩:=Cb h4
 obtain⟨a5,rfl⟩:=Nl h5
 obtain⟨l6,b6⟩:=HO h6
 obtain⟨_,h',hh,rfl⟩:=aad ae.init rfl X0 Y0 x2 x3 x4 x6 r0 o0 l2 l3 l4 a1 a5 l6 p0 q0 b2 b3 b4 b1 b6
 exact⟨h',hh⟩
theorem lifted(os:Os)(started:os.Started)(H:Type)(enc:TypeId × Value->H)(F:Stop.Interp):
 ReturnsInHanded {} Tryz.checked os 14 .any ((OpenSpec.ofChange Rows.partialRenewedSpec).preRow enc Tryz.prog Tryz.f14 Rows.partialRenewedRow.domain false Rows.partialRenewedRow.laid) (((OpenSpec.ofChange Rows.partialRenewedSpec).at F).post enc Tryz.prog Tryz.f14 false true false false):=by
 obtain⟨places,hx⟩:=reads os enc
 refine returnsInHanded_of_row (C:=Tryz.checked) (s:=OpenSpec.ofChange Rows.partialRenewedSpec) Lk started kZq Tryz.func14
  (witness_row_atRef (enc:=enc) (C:=Tryz.checked) false (World.doorLaid Tryz.prog 400 os) #[.agg #[.slice none 0 0,.slice none 0 0],.int .u32 0,.slice none 0 0,.slice none 0 0,.slice none 0 0,.int .u16 0,.slice none 0 0] rfl kZq kZq kZq
   (OpenSpec.preRow_of_cond 8 hx kZq (fun k hk=>by cases hk) kZq (laid_met os _))) ?_
 intro W base args ds gs before hval hW _ _ _ hL _ _
 refine wP jl facts rfl (fun ds hl=>?_) hval hW (Sv hL) (fun g p h=>TR _ g p h) (law (W0:=W) ds)
 obtain⟨d0,d1,d2,d3,d4,d5,d6,rfl⟩:=lenN hl
 exact⟨rfl,rfl,rfl⟩
theorem named:Tryz.pinned.checked.prog.funcNamed Rows.partialRenewedRow.func=some 14:=kZq
theorem closedF:joinedFacts Tryz.pinned.checked.prog 14 Tryz.f14 (OpenSpec.ofChange Rows.partialRenewedSpec).bare Rows.partialRenewedRow=true:=kZq
theorem instF:Tryz.f14.isInstance Tryz.pinned.checked.prog Rows.partialRenewedRow.origin Rows.partialRenewedRow.targs:=of_decide_eq_true kZq
theorem wrapF:Tryz.f14.isWrapper Tryz.pinned.checked.prog Rows.partialRenewedRow.wrapper Rows.partialRenewedRow.mainSum:=by unfold Func.isWrapper;first|(rw[if_pos (by decide+kernel)];kernel_rfl)|(rw[if_neg (by decide+kernel)];exact⟨rfl,rfl⟩)
theorem said:Rows.PartialRenewedSaid:=
 OpenClaim.holds_of_cond 14 Tryz.f14 rfl rfl rfl rfl rfl rfl rfl ⟨rfl,rfl,rfl,rfl,rfl⟩ rfl rfl rfl rfl rfl named Tryz.func14 closedF instF wrapF
  (fun os started H enc _ F=>by rw[OpenClaim.pre_eq_preRow];exact lifted os started H enc F)
theorem plain(f:FuncId)(fn:Func)(hf:Tryz.pinned.checked.prog.funcNamed Tryz.f14.name=some f)(hfn:Tryz.pinned.checked.prog.funcs[f]?=some fn):
 true=Tryz.pinned.checked.prog.looks []/\∀(j:Nat) t,fn.params[j]?=some t->Tryz.pinned.checked.prog.wantsStandIn t=false:=by
 obtain rfl:f=14:=afW ((show Tryz.prog.funcNamed Tryz.f14.name=some 14 by kernel_rfl).symm.trans hf)|>.symm
 obtain rfl:fn=Tryz.f14:=(afW (Tryz.func14.symm.trans hfn)).symm
 refine⟨kZq,fun j t ht=>?_⟩
 have:(Tryz.f14.params.toList.all fun t=> !Tryz.prog.wantsStandIn t)=true:=kZq
 have h2:=aa2.1 this t (Array.mem_toList_iff.2 (Array.mem_of_getElem? ht))
 have h3:Tryz.prog.wantsStandIn t=false:=by simpa using h2
 exact h3
end partialRenewedClose
theorem partialRenewed_card:Rows.PartialRenewedCardSaid:=
 Claim7.holds_tied_plain_at .later [] _ _ _ _ partialRenewedClose.said (fun _ h=>by cases h) kZq (fun _ h=>by cases h) partialRenewed_row_tie rfl ⟨rfl,rfl⟩ kZq rfl partialRenewedClose.plain kZq
end Go.Proofs.YtnfciiiohoafaaaGreatDoor
end
