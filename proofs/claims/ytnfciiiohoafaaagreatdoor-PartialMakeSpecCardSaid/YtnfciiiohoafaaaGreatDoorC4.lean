/-
  PartialMakeSpec: the law answers true for every input. No condition beyond the row's own.
-/
import Derived.Test.YtnfciiiohoafaaaGreatDoorVI
import Derived.Test.YtnfciiiohoafaaaGreatDoorCards
import Derived.Test.YtnfciiiohoafaaaGreatDoorTie
import Derived.LaidMore
import Derived.Deep.DeepHandedRow
import Derived.Deep.DeepWitnessRowRef
import Derived.KernelRfl
open Go.Proofs.Tryz renaming prog->aq,f4->rN,func4->Dk,underlying3->sV,checked->SV
open List renaming all_eq_true->ej
open Bool renaming true->ai,false->az
open Option renaming none->ar,some->aa,some.inj->acK
set_option maxHeartbeats 64000000
set_option maxRecDepth 100000
set_option linter.unusedSimpArgs false
set_option linter.unusedVariables false
set_option linter.constructorNameAsVariable false
set_option linter.defProp false
section
namespace Go.Proofs.YtnfciiiohoafaaaGreatDoor
open Go.AE Go.NT Go.ChangeShapes Go.WideShapes Go.RowKit
namespace partialMakeSpecClose
theorem lenN{α:Type}{l:List α}(h:l.length=8):∃a0 a1 a2 a3 a4 a5 a6 a7,l=[a0,a1,a2,a3,a4,a5,a6,a7]:=by
 match l,h with
 | [a0,a1,a2,a3,a4,a5,a6,a7],_=>exact⟨a0,a1,a2,a3,a4,a5,a6,a7,rfl⟩
theorem facts:So aq XI 4 rN 4:=⟨Dk,aw,aw,by have:(rN.params.toList.all λt=>XI.contains t&&aq.readableRec t&&decide (t<aq.types.size))=ai:=aw;intro t ht;have:=ej.1 this t ht;simp only[Bool.and_eq_true,decide_eq_true_eq] at this;exact⟨this.1.1,this.1.2,this.2⟩,aw,Tryz.underlying4⟩
theorem laid_met(os:Os)(args:Array Value):laidMetH aq Rows.partialMakeSpecRow.laid ((World.doorLaid aq 400 os).forCall (λ_ _=>0) ⟨#[],args,[]⟩).memory:=
 laidMetH_of_parts3 (fuel:=8) (laidMet_of_run' 8 aw aw) aw aw
theorem reads(os:Os){H:Type}(enc:TypeId × Value->H):∃places,DataW.whole enc aq ((World.doorLaid aq 400 os).forCall (λ_ _=>0) ⟨#[],#[.agg #[.int .i64 0,.slice ar 0 0,.slice ar 0 0,.slice ar 0 0],.slice ar 0 0,.slice ar 0 0,.int .i64 0,.slice ar 0 0,.int .i64 0,.int .i64 0,.int .i64 0],[]⟩).memory rN.params.toList Rows.partialMakeSpecSpec.vars az #[Value.agg #[.int .i64 0,.slice ar 0 0,.slice ar 0 0,.slice ar 0 0],.slice ar 0 0,.slice ar 0 0,.int .i64 0,.slice ar 0 0,.int .i64 0,.int .i64 0,.int .i64 0].toList 8=aa ([.agg [.lit (.int .i64 0),.agg [.nil,.nil],.nil],.nil,.nil,.lit (.int .i64 0),.nil,.lit (.int .i64 0),.lit (.int .i64 0),.lit (.int .i64 0)],[],places):=
 ⟨[],aw⟩
theorem law{W0:World}{H:Type}(ds:List (DataW H))(xs:List AV)(h:tR aq rN.params.toList xs ds):∃h',mE.call 4 xs ao.init=aa (.ret (.v (.bool ai)),h'):=by have hp:rN.params.toList=[27,28,29,3,36,3,3,3]:=aw;rw[hp] at h;obtain⟨x0,xs,d0,ds,rfl,rfl,h0,h⟩:=h.cons_inv;obtain⟨x1,xs,d1,ds,rfl,rfl,h1,h⟩:=h.cons_inv;obtain⟨x2,xs,d2,ds,rfl,rfl,h2,h⟩:=h.cons_inv;obtain⟨x3,xs,d3,ds,rfl,rfl,h3,h⟩:=h.cons_inv;obtain⟨x4,xs,d4,ds,rfl,rfl,h4,h⟩:=h.cons_inv;obtain⟨x5,xs,d5,ds,rfl,rfl,h5,h⟩:=h.cons_inv;obtain⟨x6,xs,d6,ds,rfl,rfl,h6,h⟩:=h.cons_inv;obtain⟨x7,xs,d7,ds,rfl,rfl,h7,h⟩:=h.cons_inv;obtain rfl:=h.alJ;obtain⟨n0,X0,Y0,C0,r0,o0,c0,rfl,p0,q0,s0⟩:=aiM h0;obtain⟨l1,b1⟩:=aiL h1;obtain⟨l2,b2⟩:=aiN h2;obtain⟨a3,rfl,-⟩:=h3.sF sV;obtain⟨l4,b4⟩:=aiP h4;obtain⟨a5,rfl,-⟩:=h5.sF sV;obtain⟨a6,rfl,-⟩:=h6.sF sV;obtain⟨a7,rfl,-⟩:=h7.sF sV;obtain⟨_,h',hh,rfl⟩:=aky ao.init n0 X0 Y0 C0 x1 x2 x4 r0 o0 c0 l1 l2 l4 a3 a5 a6 a7 ⟨p0,q0,s0,b1,b2⟩ b4;exact⟨h',hh⟩
theorem lifted(os:Os)(started:os.Started)(H:Type)(enc:TypeId × Value->H)(F:Stop.Interp):
 ReturnsInHanded {} SV os 4 .any ((OpenSpec.ofChange Rows.partialMakeSpecSpec).preRow enc aq rN Rows.partialMakeSpecRow.domain az Rows.partialMakeSpecRow.laid) (((OpenSpec.ofChange Rows.partialMakeSpecSpec).at F).post enc aq rN az ai az az):=by
 obtain⟨places,hx⟩:=reads os enc;refine returnsInHanded_of_row (C:=SV) (s:=OpenSpec.ofChange Rows.partialMakeSpecSpec) arF started aw Dk
  (witness_row_atRef (enc:=enc) (C:=SV) az (World.doorLaid aq 400 os) #[.agg #[.int .i64 0,.slice ar 0 0,.slice ar 0 0,.slice ar 0 0],.slice ar 0 0,.slice ar 0 0,.int .i64 0,.slice ar 0 0,.int .i64 0,.int .i64 0,.int .i64 0] rfl aw aw aw
   (OpenSpec.preRow_of_cond 8 hx aw (λk hk=>by cases hk) aw (laid_met os _))) ?_
 intro W base args ds gs before Pu hW _ _ _ hL _ _;refine akz vQ facts rfl (λds hl=>?_) Pu hW (ait hL) (λg p h=>amY _ g p h) (law (W0:=W) ds);obtain⟨d0,d1,d2,d3,d4,d5,d6,d7,rfl⟩:=lenN hl;exact⟨rfl,rfl,rfl⟩
theorem named:Tryz.pinned.checked.prog.funcNamed Rows.partialMakeSpecRow.func=aa 4:=aw
theorem closedF:joinedFacts Tryz.pinned.checked.prog 4 rN (OpenSpec.ofChange Rows.partialMakeSpecSpec).bare Rows.partialMakeSpecRow=ai:=aw
theorem instF:rN.isInstance Tryz.pinned.checked.prog Rows.partialMakeSpecRow.origin Rows.partialMakeSpecRow.targs:=of_decide_eq_true aw
theorem wrapF:rN.isWrapper Tryz.pinned.checked.prog Rows.partialMakeSpecRow.wrapper Rows.partialMakeSpecRow.mainSum:=by unfold Func.isWrapper;first|(rw[aG (by decide+kernel)];kernel_rfl)|(rw[aH (by decide+kernel)];exact⟨rfl,rfl⟩)
theorem said:Rows.PartialMakeSpecSaid:=
 OpenClaim.holds_of_cond 4 rN rfl rfl rfl rfl rfl rfl rfl ⟨rfl,rfl,rfl,rfl,rfl⟩ rfl rfl rfl rfl rfl named Dk closedF instF wrapF
  (λos started H enc _ F=>by rw[OpenClaim.pre_eq_preRow];exact lifted os started H enc F)
theorem plain(f:FuncId)(fn:Func)(hf:Tryz.pinned.checked.prog.funcNamed rN.name=aa f)(hY:Tryz.pinned.checked.prog.funcs[f]?=aa fn):
 ai=Tryz.pinned.checked.prog.looks []/\∀(j:Nat) t,fn.params[j]?=aa t->Tryz.pinned.checked.prog.wantsStandIn t=az:=by
 obtain rfl:f=4:=acK ((fg:aq.funcNamed rN.name=aa 4).symm.trans hf)|>.symm;obtain rfl:fn=rN:=(acK (Dk.symm.trans hY)).symm;refine⟨aw,λj t ht=>?_⟩;have:(rN.params.toList.all λt=> !Tryz.prog.wantsStandIn t)=ai:=aw;have h2:=ej.1 this t (Array.mem_toList_iff.2 (Array.mem_of_getElem? ht));have h3:aq.wantsStandIn t=az:=by simpa using h2
 exact h3
end partialMakeSpecClose
theorem partialMakeSpec_card:Rows.PartialMakeSpecCardSaid:=
 Claim7.holds_tied_plain_at .later [] _ _ _ _ partialMakeSpecClose.said (λ_ h=>by cases h) aw (λ_ h=>by cases h) partialMakeSpec_row_tie rfl ⟨rfl,rfl⟩ aw rfl partialMakeSpecClose.plain aw
end Go.Proofs.YtnfciiiohoafaaaGreatDoor
end
