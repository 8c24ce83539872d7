/-
  CombineSpec: the law answers true for every input. No condition beyond the row's own.
-/
import Derived.Test.YtnfciiiohoafaaaGreatDoorUI
import Derived.Test.YtnfciiiohoafaaaGreatDoorCards
import Derived.Test.YtnfciiiohoafaaaGreatDoorTie
import Derived.LaidMore
import Derived.Deep.DeepHandedRow
import Derived.Deep.DeepWitnessRowRef
import Derived.KernelRfl
open Go.Proofs.Tryz renaming prog->ao,f8->sJ,func8->NQ,checked->T9
open List renaming all_eq_true->ey
open Bool renaming true->ah,false->az
open Option renaming none->au,some->aa,some.inj->adK
set_option maxHeartbeats 64000000
set_option maxRecDepth 100000
set_option linter.unusedSimpArgs false
set_option linter.unusedVariables false
set_option linter.constructorNameAsVariable false
set_option linter.defProp false
section
namespace Go.Proofs.YtnfciiiohoafaaaGreatDoor
open Go.AE Go.NT Go.ChangeShapes Go.WideShapes Go.RowKit
namespace combineSpecClose
theorem lenN{α:Type}{l:List α}(h:l.length=4):∃a0 a1 a2 a3,l=[a0,a1,a2,a3]:=by
 match l,h with
 | [a0,a1,a2,a3],_=>exact⟨a0,a1,a2,a3,rfl⟩
theorem facts:Tu ao YY 8 sJ 4:=⟨NQ,av,av,by have:(sJ.params.toList.all λt=>YY.contains t&&ao.readableRec t&&decide (t<ao.types.size))=ah:=av;intro t ht;have:=ey.1 this t ht;simp only[Bool.and_eq_true,decide_eq_true_eq] at this;exact⟨this.1.1,this.1.2,this.2⟩,av,Tryz.underlying4⟩
theorem laid_met(os:Os)(args:Array Value):laidMetH ao Rows.combineSpecRow.laid ((World.doorLaid ao 400 os).forCall (λ_ _=>0) ⟨#[],args,[]⟩).memory:=
 laidMetH_of_parts3 (fuel:=8) (laidMet_of_run' 8 av av) av av
theorem reads(os:Os){H:Type}(enc:TypeId × Value->H):∃places,DataW.whole enc ao ((World.doorLaid ao 400 os).forCall (λ_ _=>0) ⟨#[],#[.agg #[.int .i64 0,.slice au 0 0,.slice au 0 0,.slice au 0 0],.slice au 0 0,.slice au 0 0,.slice au 0 0],[]⟩).memory sJ.params.toList Rows.combineSpecSpec.vars az #[Value.agg #[.int .i64 0,.slice au 0 0,.slice au 0 0,.slice au 0 0],.slice au 0 0,.slice au 0 0,.slice au 0 0].toList 8=aa ([.agg [.lit (.int .i64 0),.agg [.nil,.nil],.nil],.nil,.nil,.nil],[],places):=
 ⟨[],av⟩
theorem law{W0:World}{H:Type}(ds:List (DataW H))(xs:List AV)(h:uH ao sJ.params.toList xs ds):∃h',rE.call 8 xs aq.init=aa (.ret (.v (.bool ah)),h'):=by have hp:sJ.params.toList=[27,28,29,23]:=av;rw[hp] at h;obtain⟨x0,xs,d0,ds,rfl,rfl,h0,h⟩:=h.cons_inv;obtain⟨x1,xs,d1,ds,rfl,rfl,h1,h⟩:=h.cons_inv;obtain⟨x2,xs,d2,ds,rfl,rfl,h2,h⟩:=h.cons_inv;obtain⟨x3,xs,d3,ds,rfl,rfl,h3,h⟩:=h.cons_inv;obtain rfl:=h.amY;obtain⟨n0,X0,Y0,C0,r0,o0,c0,rfl,p0,q0,s0⟩:=ajY h0;obtain⟨l1,b1⟩:=ajW h1;obtain⟨l2,b2⟩:=ajZ h2;obtain⟨l3,b3,m3⟩:=ajX h3;obtain⟨_,h',hh,rfl⟩:=alL aq.init rfl n0 X0 Y0 C0 x1 x2 x3 r0 o0 c0 l1 l2 l3 ⟨p0,q0,s0,b1,b2⟩ b3;exact⟨h',hh⟩
theorem lifted(os:Os)(started:os.Started)(H:Type)(enc:TypeId × Value->H)(F:Stop.Interp):
 ReturnsInHanded {} T9 os 8 .any ((OpenSpec.ofChange Rows.combineSpecSpec).preRow enc ao sJ Rows.combineSpecRow.domain az Rows.combineSpecRow.laid) (((OpenSpec.ofChange Rows.combineSpecSpec).at F).post enc ao sJ az ah az az):=by
 obtain⟨places,hx⟩:=reads os enc;refine returnsInHanded_of_row (C:=T9) (s:=OpenSpec.ofChange Rows.combineSpecSpec) asV started av NQ
  (witness_row_atRef (enc:=enc) (C:=T9) az (World.doorLaid ao 400 os) #[.agg #[.int .i64 0,.slice au 0 0,.slice au 0 0,.slice au 0 0],.slice au 0 0,.slice au 0 0,.slice au 0 0] rfl av av av
   (OpenSpec.preRow_of_cond 8 hx av (λk hk=>by cases hk) av (laid_met os _))) ?_
 intro W base args ds gs before Qy hW _ _ _ hL _ _;refine alM wJ facts rfl (λds hl=>?_) Qy hW (ajH hL) (λg p h=>aoe _ g p h) (law (W0:=W) ds);obtain⟨d0,d1,d2,d3,rfl⟩:=lenN hl;exact⟨rfl,rfl,rfl⟩
theorem named:Tryz.pinned.checked.prog.funcNamed Rows.combineSpecRow.func=aa 8:=av
theorem closedF:joinedFacts Tryz.pinned.checked.prog 8 sJ (OpenSpec.ofChange Rows.combineSpecSpec).bare Rows.combineSpecRow=ah:=av
theorem instF:sJ.isInstance Tryz.pinned.checked.prog Rows.combineSpecRow.origin Rows.combineSpecRow.targs:=of_decide_eq_true av
theorem wrapF:sJ.isWrapper Tryz.pinned.checked.prog Rows.combineSpecRow.wrapper Rows.combineSpecRow.mainSum:=by unfold Func.isWrapper;first|(rw[aG (by decide+kernel)];kernel_rfl)|(rw[aI (by decide+kernel)];exact⟨rfl,rfl⟩)
theorem said:Rows.CombineSpecSaid:=
 OpenClaim.holds_of_cond 8 sJ rfl rfl rfl rfl rfl rfl rfl ⟨rfl,rfl,rfl,rfl,rfl⟩ rfl rfl rfl rfl rfl named NQ closedF instF wrapF
  (λos started H enc _ F=>by rw[OpenClaim.pre_eq_preRow];exact lifted os started H enc F)
theorem plain(f:FuncId)(fn:Func)(hf:Tryz.pinned.checked.prog.funcNamed sJ.name=aa f)(ig:Tryz.pinned.checked.prog.funcs[f]?=aa fn):
 ah=Tryz.pinned.checked.prog.looks []/\∀(j:Nat) t,fn.params[j]?=aa t->Tryz.pinned.checked.prog.wantsStandIn t=az:=by
 obtain rfl:f=8:=adK ((jd:ao.funcNamed sJ.name=aa 8).symm.trans hf)|>.symm;obtain rfl:fn=sJ:=(adK (NQ.symm.trans ig)).symm;refine⟨av,λj t ht=>?_⟩;have:(sJ.params.toList.all λt=> !Tryz.prog.wantsStandIn t)=ah:=av;have h2:=ey.1 this t (Array.mem_toList_iff.2 (Array.mem_of_getElem? ht));have h3:ao.wantsStandIn t=az:=by simpa using h2
 exact h3
end combineSpecClose
theorem combineSpec_card:Rows.CombineSpecCardSaid:=
 Claim7.holds_tied_plain_at .later [] _ _ _ _ combineSpecClose.said (λ_ h=>by cases h) av (λ_ h=>by cases h) combineSpec_row_tie rfl ⟨rfl,rfl⟩ av rfl combineSpecClose.plain av
end Go.Proofs.YtnfciiiohoafaaaGreatDoor
end
