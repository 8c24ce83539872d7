/-
  CombineBlameSpec: the law answers true for every input. No condition beyond the row's own.
-/
import Derived.Test.YtnfciiiohoafaaaGreatDoorXJ
import Derived.Test.YtnfciiiohoafaaaGreatDoorCards
import Derived.Test.YtnfciiiohoafaaaGreatDoorTie
import Derived.LaidMore
import Derived.Deep.DeepHandedRow
import Derived.Deep.DeepWitnessRowRef
import Derived.KernelRfl
open Go.Proofs.Tryz renaming prog->aq,f9->tc,func9->Ow,checked->UU
open List renaming all_eq_true->eK
open Bool renaming true->ah,false->aB
open Option renaming none->av,some->aa,some.inj->aeC
set_option maxHeartbeats 64000000
set_option maxRecDepth 100000
set_option linter.unusedSimpArgs false
set_option linter.unusedVariables false
set_option linter.constructorNameAsVariable false
set_option linter.defProp false
section
namespace Go.Proofs.YtnfciiiohoafaaaGreatDoor
open Go.AE Go.NT Go.ChangeShapes Go.WideShapes Go.RowKit
theorem pok11:vg Sq:=xT vT wE aph (uh aw)
namespace combineBlameSpecClose
theorem lenN{α:Type}{l:List α}(h:l.length=4):∃a0 a1 a2 a3,l=[a0,a1,a2,a3]:=by
 match l,h with
 | [a0,a1,a2,a3],_=>exact⟨a0,a1,a2,a3,rfl⟩
theorem facts:Up aq ZU 9 tc 4:=⟨Ow,aw,aw,by have:(tc.params.toList.all λt=>ZU.contains t&&aq.readableRec t&&decide (t<aq.types.size))=ah:=aw;intro t ht;have:=eK.1 this t ht;simp only[Bool.and_eq_true,decide_eq_true_eq] at this;exact⟨this.1.1,this.1.2,this.2⟩,aw,Tryz.underlying4⟩
theorem laid_met(os:Os)(args:Array Value):laidMetH aq Rows.combineBlameSpecRow.laid ((World.doorLaid aq 400 os).forCall (λ_ _=>0) ⟨#[],args,[]⟩).memory:=
 laidMetH_of_parts3 (fuel:=8) (laidMet_of_run' 8 aw aw) aw aw
theorem reads(os:Os){H:Type}(enc:TypeId × Value->H):∃places,DataW.whole enc aq ((World.doorLaid aq 400 os).forCall (λ_ _=>0) ⟨#[],#[.agg #[.int .i64 0,.slice av 0 0,.slice av 0 0,.slice av 0 0],.slice av 0 0,.slice av 0 0,.slice av 0 0],[]⟩).memory tc.params.toList Rows.combineBlameSpecSpec.vars aB #[Value.agg #[.int .i64 0,.slice av 0 0,.slice av 0 0,.slice av 0 0],.slice av 0 0,.slice av 0 0,.slice av 0 0].toList 8=aa ([.agg [.lit (.int .i64 0),.agg [.nil,.nil],.nil],.nil,.nil,.nil],[],places):=
 ⟨[],aw⟩
theorem law{W0:World}{H:Type}(ds:List (DataW H))(xs:List AV)(h:u6 aq tc.params.toList xs ds):∃h',zh.call 9 xs ar.init=aa (.ret (.v (.bool ah)),h'):=by have hp:tc.params.toList=[27,28,29,23]:=aw;rw[hp] at h;obtain⟨x0,xs,d0,ds,rfl,rfl,h0,h⟩:=h.cons_inv;obtain⟨x1,xs,d1,ds,rfl,rfl,h1,h⟩:=h.cons_inv;obtain⟨x2,xs,d2,ds,rfl,rfl,h2,h⟩:=h.cons_inv;obtain⟨x3,xs,d3,ds,rfl,rfl,h3,h⟩:=h.cons_inv;obtain rfl:=h.an1;obtain⟨n0,X0,Y0,C0,r0,o0,c0,rfl,p0,q0,s0⟩:=akW h0;obtain⟨l1,b1⟩:=akU h1;obtain⟨l2,b2⟩:=akX h2;obtain⟨l3,b3,m3⟩:=akV h3;obtain⟨_,h',hh,rfl⟩:=amO ar.init rfl n0 X0 Y0 C0 x1 x2 x3 r0 o0 c0 l1 l2 l3 ⟨p0,q0,s0,b1,b2⟩ b3;exact⟨h',hh⟩
theorem lifted(os:Os)(started:os.Started)(H:Type)(enc:TypeId × Value->H)(F:Stop.Interp):
 ReturnsInHanded {} UU os 9 .any ((OpenSpec.ofChange Rows.combineBlameSpecSpec).preRow enc aq tc Rows.combineBlameSpecRow.domain aB Rows.combineBlameSpecRow.laid) (((OpenSpec.ofChange Rows.combineBlameSpecSpec).at F).post enc aq tc aB ah aB aB):=by
 obtain⟨places,hx⟩:=reads os enc;refine returnsInHanded_of_row (C:=UU) (s:=OpenSpec.ofChange Rows.combineBlameSpecSpec) atZ started aw Ow
  (witness_row_atRef (enc:=enc) (C:=UU) aB (World.doorLaid aq 400 os) #[.agg #[.int .i64 0,.slice av 0 0,.slice av 0 0,.slice av 0 0],.slice av 0 0,.slice av 0 0,.slice av 0 0] rfl aw aw aw
   (OpenSpec.preRow_of_cond 8 hx aw (λk hk=>by cases hk) aw (laid_met os _))) ?_
 intro W base args ds gs before Rf hW _ _ _ hL _ _;refine amP vT facts rfl (λds hl=>?_) Rf hW (akE hL) (λg p h=>pok11 _ g p h) (law (W0:=W) ds);obtain⟨d0,d1,d2,d3,rfl⟩:=lenN hl;exact⟨rfl,rfl,rfl⟩
theorem named:Tryz.pinned.checked.prog.funcNamed Rows.combineBlameSpecRow.func=aa 9:=aw
theorem closedF:joinedFacts Tryz.pinned.checked.prog 9 tc (OpenSpec.ofChange Rows.combineBlameSpecSpec).bare Rows.combineBlameSpecRow=ah:=aw
theorem instF:tc.isInstance Tryz.pinned.checked.prog Rows.combineBlameSpecRow.origin Rows.combineBlameSpecRow.targs:=of_decide_eq_true aw
theorem wrapF:tc.isWrapper Tryz.pinned.checked.prog Rows.combineBlameSpecRow.wrapper Rows.combineBlameSpecRow.mainSum:=by unfold Func.isWrapper;first|(rw[aH (by decide+kernel)];kernel_rfl)|(rw[aJ (by decide+kernel)];exact⟨rfl,rfl⟩)
theorem said:Rows.CombineBlameSpecSaid:=
 OpenClaim.holds_of_cond 9 tc rfl rfl rfl rfl rfl rfl rfl ⟨rfl,rfl,rfl,rfl,rfl⟩ rfl rfl rfl rfl rfl named Ow closedF instF wrapF
  (λos started H enc _ F=>by rw[OpenClaim.pre_eq_preRow];exact lifted os started H enc F)
theorem plain(f:FuncId)(fn:Func)(hf:Tryz.pinned.checked.prog.funcNamed tc.name=aa f)(iG:Tryz.pinned.checked.prog.funcs[f]?=aa fn):
 ah=Tryz.pinned.checked.prog.looks []/\∀(j:Nat) t,fn.params[j]?=aa t->Tryz.pinned.checked.prog.wantsStandIn t=aB:=by
 obtain rfl:f=9:=aeC ((jr:aq.funcNamed tc.name=aa 9).symm.trans hf)|>.symm;obtain rfl:fn=tc:=(aeC (Ow.symm.trans iG)).symm;refine⟨aw,λj t ht=>?_⟩;have:(tc.params.toList.all λt=> !Tryz.prog.wantsStandIn t)=ah:=aw;have h2:=eK.1 this t (Array.mem_toList_iff.2 (Array.mem_of_getElem? ht));have h3:aq.wantsStandIn t=aB:=by simpa using h2
 exact h3
end combineBlameSpecClose
theorem combineBlameSpec_card:Rows.CombineBlameSpecCardSaid:=
 Claim7.holds_tied_plain_at .later [] _ _ _ _ combineBlameSpecClose.said (λ_ h=>by cases h) aw (λ_ h=>by cases h) combineBlameSpec_row_tie rfl ⟨rfl,rfl⟩ aw rfl combineBlameSpecClose.plain aw
end Go.Proofs.YtnfciiiohoafaaaGreatDoor
end
