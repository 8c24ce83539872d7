/-
  PartialSpec: the law answers true for every input. No condition beyond the row's own.
-/
import Derived.Test.YtnfciiiohoafaaaGreatDoorTH
import Derived.Test.YtnfciiiohoafaaaGreatDoorTI
import Derived.Test.YtnfciiiohoafaaaGreatDoorCards
import Derived.Test.YtnfciiiohoafaaaGreatDoorTie
import Derived.LaidMore
import Derived.Deep.DeepHandedRow
import Derived.Deep.DeepWitnessRowRef
import Derived.KernelRfl
open Go.Proofs.Tryz renaming prog->al,f3->qO,func3->Cq,checked->Rx
open List renaming all_eq_true->dU
open Bool renaming true->ah,false->av
open Option renaming none->aq,some->aa,some.inj->aba
set_option maxHeartbeats 64000000
set_option maxRecDepth 100000
set_option linter.unusedSimpArgs false
set_option linter.unusedVariables false
set_option linter.constructorNameAsVariable false
set_option linter.defProp false
section
namespace Go.Proofs.YtnfciiiohoafaaaGreatDoor
open Go.AE Go.NT Go.ChangeShapes Go.WideShapes Go.RowKit
namespace partialSpecClose
theorem lenN{α:Type}{l:List α}(h:l.length=3):∃a0 a1 a2,l=[a0,a1,a2]:=by
 match l,h with
 | [a0,a1,a2],_=>exact⟨a0,a1,a2,rfl⟩
theorem facts:Q3 al V2 3 qO 4:=⟨Cq,au,au,by have:(qO.params.toList.all λt=>V2.contains t&&al.readableRec t&&decide (t<al.types.size))=ah:=au;intro t ht;have:=dU.1 this t ht;simp only[Bool.and_eq_true,decide_eq_true_eq] at this;exact⟨this.1.1,this.1.2,this.2⟩,au,Tryz.underlying4⟩
theorem laid_met(os:Os)(args:Array Value):laidMetH al Rows.partialSpecRow.laid ((World.doorLaid al 400 os).forCall (λ_ _=>0) ⟨#[],args,[]⟩).memory:=
 laidMetH_of_parts3 (fuel:=8) (laidMet_of_run' 8 au au) au au
theorem reads(os:Os){H:Type}(enc:TypeId × Value->H):∃places,DataW.whole enc al ((World.doorLaid al 400 os).forCall (λ_ _=>0) ⟨#[],#[.agg #[.int .i64 0,.slice aq 0 0,.slice aq 0 0,.slice aq 0 0],.slice aq 0 0,.slice aq 0 0],[]⟩).memory qO.params.toList Rows.partialSpecSpec.vars av #[Value.agg #[.int .i64 0,.slice aq 0 0,.slice aq 0 0,.slice aq 0 0],.slice aq 0 0,.slice aq 0 0].toList 8=aa ([.agg [.lit (.int .i64 0),.agg [.nil,.nil],.nil],.nil,.nil],[],places):=
 ⟨[],au⟩
theorem law{W0:World}{H:Type}(ds:List (DataW H))(xs:List AV)(h:sY al qO.params.toList xs ds):∃h',tV.call 3 xs ak.init=aa (.ret (.v (.bool ah)),h'):=by have hp:qO.params.toList=[27,28,29]:=au;rw[hp] at h;obtain⟨x0,xs,d0,ds,rfl,rfl,h0,h⟩:=h.cons_inv;obtain⟨x1,xs,d1,ds,rfl,rfl,h1,h⟩:=h.cons_inv;obtain⟨x2,xs,d2,ds,rfl,rfl,h2,h⟩:=h.cons_inv;obtain rfl:=h.aj5;obtain⟨n0,X0,Y0,C0,r0,o0,c0,rfl,p0,q0,s0⟩:=ag1 h0;obtain⟨l1,b1⟩:=ag0 h1;obtain⟨l2,b2⟩:=ag2 h2;obtain⟨_,h',hh,rfl⟩:=aiR ak.init rfl n0 X0 Y0 C0 x1 x2 r0 o0 c0 l1 l2 ⟨p0,q0,s0,b1,b2⟩;exact⟨h',hh⟩
theorem lifted(os:Os)(started:os.Started)(H:Type)(enc:TypeId × Value->H)(F:Stop.Interp):
 ReturnsInHanded {} Rx os 3 .any ((OpenSpec.ofChange Rows.partialSpecSpec).preRow enc al qO Rows.partialSpecRow.domain av Rows.partialSpecRow.laid) (((OpenSpec.ofChange Rows.partialSpecSpec).at F).post enc al qO av ah av av):=by
 obtain⟨places,hx⟩:=reads os enc;refine returnsInHanded_of_row (C:=Rx) (s:=OpenSpec.ofChange Rows.partialSpecSpec) apI started au Cq
  (witness_row_atRef (enc:=enc) (C:=Rx) av (World.doorLaid al 400 os) #[.agg #[.int .i64 0,.slice aq 0 0,.slice aq 0 0,.slice aq 0 0],.slice aq 0 0,.slice aq 0 0] rfl au au au
   (OpenSpec.preRow_of_cond 8 hx au (λk hk=>by cases hk) au (laid_met os _))) ?_
 intro W base args ds gs before Oa hW _ _ _ hL _ _;refine aiS uT facts rfl (λds hl=>?_) Oa hW (agI hL) (λg p h=>alc _ g p h) (law (W0:=W) ds);obtain⟨d0,d1,d2,rfl⟩:=lenN hl;exact⟨rfl,rfl,rfl⟩
theorem named:Tryz.pinned.checked.prog.funcNamed Rows.partialSpecRow.func=aa 3:=au
theorem closedF:joinedFacts Tryz.pinned.checked.prog 3 qO (OpenSpec.ofChange Rows.partialSpecSpec).bare Rows.partialSpecRow=ah:=au
theorem instF:qO.isInstance Tryz.pinned.checked.prog Rows.partialSpecRow.origin Rows.partialSpecRow.targs:=of_decide_eq_true au
theorem wrapF:qO.isWrapper Tryz.pinned.checked.prog Rows.partialSpecRow.wrapper Rows.partialSpecRow.mainSum:=by unfold Func.isWrapper;first|(rw[aF (by decide+kernel)];kernel_rfl)|(rw[aG (by decide+kernel)];exact⟨rfl,rfl⟩)
theorem said:Rows.PartialSpecSaid:=
 OpenClaim.holds_of_cond 3 qO rfl rfl rfl rfl rfl rfl rfl ⟨rfl,rfl,rfl,rfl,rfl⟩ rfl rfl rfl rfl rfl named Cq closedF instF wrapF
  (λos started H enc _ F=>by rw[OpenClaim.pre_eq_preRow];exact lifted os started H enc F)
theorem plain(f:FuncId)(fn:Func)(hf:Tryz.pinned.checked.prog.funcNamed qO.name=aa f)(gG:Tryz.pinned.checked.prog.funcs[f]?=aa fn):
 ah=Tryz.pinned.checked.prog.looks []/\∀(j:Nat) t,fn.params[j]?=aa t->Tryz.pinned.checked.prog.wantsStandIn t=av:=by
 obtain rfl:f=3:=aba ((iU:al.funcNamed qO.name=aa 3).symm.trans hf)|>.symm;obtain rfl:fn=qO:=(aba (Cq.symm.trans gG)).symm;refine⟨au,λj t ht=>?_⟩;have:(qO.params.toList.all λt=> !Tryz.prog.wantsStandIn t)=ah:=au;have h2:=dU.1 this t (Array.mem_toList_iff.2 (Array.mem_of_getElem? ht));have h3:al.wantsStandIn t=av:=by simpa using h2
 exact h3
end partialSpecClose
theorem partialSpec_card:Rows.PartialSpecCardSaid:=
 Claim7.holds_tied_plain_at .later [] _ _ _ _ partialSpecClose.said (λ_ h=>by cases h) au (λ_ h=>by cases h) partialSpec_row_tie rfl ⟨rfl,rfl⟩ au rfl partialSpecClose.plain au
end Go.Proofs.YtnfciiiohoafaaaGreatDoor
end
