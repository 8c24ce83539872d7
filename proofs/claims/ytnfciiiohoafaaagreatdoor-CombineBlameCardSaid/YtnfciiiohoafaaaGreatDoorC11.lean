/-
  CombineBlame: the law answers true for every input. No condition beyond the row's own.
-/
import Derived.Test.YtnfciiiohoafaaaGreatDoorYJ
import Derived.Test.YtnfciiiohoafaaaGreatDoorCards
import Derived.Test.YtnfciiiohoafaaaGreatDoorTie
import Derived.LaidMore
import Derived.Deep.DeepHandedRow
import Derived.Deep.DeepWitnessRowRef
import Derived.KernelRfl
open Go.Proofs.Tryz renaming prog->aj,f11->rz,func11->LS,underlying3->CZ,checked->RN
open List renaming all_eq_true->eE
open Bool renaming true->ai,false->ay
open Option renaming none->au,some->aa,some.inj->aa2
set_option maxHeartbeats 64000000
set_option maxRecDepth 100000
set_option linter.unusedSimpArgs false
set_option linter.unusedVariables false
set_option linter.constructorNameAsVariable false
set_option linter.defProp false
section
namespace Go.Proofs.YtnfciiiohoafaaaGreatDoor
open Go.AE Go.NT Go.ChangeShapes Go.WideShapes Go.RowKit
namespace combineBlameClose
theorem lenN{α:Type}{l:List α}(h:l.length=9):∃a0 a1 a2 a3 a4 a5 a6 a7 a8,l=[a0,a1,a2,a3,a4,a5,a6,a7,a8]:=by
 match l,h with
 | [a0,a1,a2,a3,a4,a5,a6,a7,a8],_=>exact⟨a0,a1,a2,a3,a4,a5,a6,a7,a8,rfl⟩
theorem facts:Rd aj Wb 11 rz 4:=⟨LS,aw,aw,by have:(rz.params.toList.all λt=>Wb.contains t&&aj.readableRec t&&decide (t<aj.types.size))=ai:=aw;intro t ht;have:=eE.1 this t ht;simp only[Bool.and_eq_true,decide_eq_true_eq] at this;exact⟨this.1.1,this.1.2,this.2⟩,aw,Tryz.underlying4⟩
theorem laid_met(os:Os)(args:Array Value):laidMetH aj Rows.combineBlameRow.laid ((World.doorLaid aj 400 os).forCall (λ_ _=>0) ⟨#[],args,[]⟩).memory:=
 laidMetH_of_parts3 (fuel:=8) (laidMet_of_run' 8 aw aw) aw aw
theorem reads(os:Os){H:Type}(enc:TypeId × Value->H):∃places,DataW.whole enc aj ((World.doorLaid aj 400 os).forCall (λ_ _=>0) ⟨#[],#[.agg #[.slice au 0 0,.slice au 0 0],.int .i64 0,.slice au 0 0,.slice au 0 0,.slice au 0 0,.slice au 0 0,.slice au 0 0,.int .u8 0,.int .i64 0],[]⟩).memory rz.params.toList Rows.combineBlameSpec.vars ay #[Value.agg #[.slice au 0 0,.slice au 0 0],.int .i64 0,.slice au 0 0,.slice au 0 0,.slice au 0 0,.slice au 0 0,.slice au 0 0,.int .u8 0,.int .i64 0].toList 8=aa ([.agg [.nil,.nil],.lit (.int .i64 0),.nil,.nil,.nil,.nil,.nil,.lit (.int .u8 0),.lit (.int .i64 0)],[],places):=
 ⟨[],aw⟩
theorem law{W0:World}{H:Type}(ds:List (DataW H))(xs:List AV)(h:tT aj rz.params.toList xs ds):∃h',W7.call 11 xs ao.init=aa (.ret (.v (.bool ai)),h'):=by have hp:rz.params.toList=[25,3,23,23,23,28,23,5,3]:=aw;rw[hp] at h;obtain⟨x0,xs,d0,ds,rfl,rfl,h0,h⟩:=h.cons_inv;obtain⟨x1,xs,d1,ds,rfl,rfl,h1,h⟩:=h.cons_inv;obtain⟨x2,xs,d2,ds,rfl,rfl,h2,h⟩:=h.cons_inv;obtain⟨x3,xs,d3,ds,rfl,rfl,h3,h⟩:=h.cons_inv;obtain⟨x4,xs,d4,ds,rfl,rfl,h4,h⟩:=h.cons_inv;obtain⟨x5,xs,d5,ds,rfl,rfl,h5,h⟩:=h.cons_inv;obtain⟨x6,xs,d6,ds,rfl,rfl,h6,h⟩:=h.cons_inv;obtain⟨x7,xs,d7,ds,rfl,rfl,h7,h⟩:=h.cons_inv;obtain⟨x8,xs,d8,ds,rfl,rfl,h8,h⟩:=h.cons_inv;obtain rfl:=h.ai5;obtain⟨X0,Y0,r0,o0,rfl,p0,q0⟩:=ago h0;obtain⟨a1,rfl,-⟩:=h1.DY CZ;obtain⟨l2,b2,m2⟩:=Jj h2;obtain⟨l3,b3,m3⟩:=Jj h3;obtain⟨l4,b4,m4⟩:=Jj h4;obtain⟨l5,b5⟩:=agn h5;obtain⟨l6,b6,m6⟩:=Jj h6;obtain⟨a7,rfl,b7⟩:=agm h7;obtain⟨a8,rfl,-⟩:=h8.DY CZ;obtain⟨_,h',hh,rfl⟩:=law11 ao.init rfl X0 Y0 x2 x3 x4 x5 x6 r0 o0 a1 l2 l3 l4 l5 l6 a7 a8 p0 q0 b2 b3 b4 b5 b6 b7 m2 m3 m4;exact⟨h',hh⟩
theorem lifted(os:Os)(started:os.Started)(H:Type)(enc:TypeId × Value->H)(F:Stop.Interp):
 ReturnsInHanded {} RN os 11 .any ((OpenSpec.ofChange Rows.combineBlameSpec).preRow enc aj rz Rows.combineBlameRow.domain ay Rows.combineBlameRow.laid) (((OpenSpec.ofChange Rows.combineBlameSpec).at F).post enc aj rz ay ai ay ay):=by
 obtain⟨places,hx⟩:=reads os enc;refine returnsInHanded_of_row (C:=RN) (s:=OpenSpec.ofChange Rows.combineBlameSpec) aov started aw LS
  (witness_row_atRef (enc:=enc) (C:=RN) ay (World.doorLaid aj 400 os) #[.agg #[.slice au 0 0,.slice au 0 0],.int .i64 0,.slice au 0 0,.slice au 0 0,.slice au 0 0,.slice au 0 0,.slice au 0 0,.int .u8 0,.int .i64 0] rfl aw aw aw
   (OpenSpec.preRow_of_cond 8 hx aw (λk hk=>by cases hk) aw (laid_met os _))) ?_
 intro W base args ds gs before Ox hW _ _ _ hL _ _;refine ah5 Ay facts rfl (λds hl=>?_) Ox hW (af7 hL) (λg p h=>ako _ g p h) (law (W0:=W) ds);obtain⟨d0,d1,d2,d3,d4,d5,d6,d7,d8,rfl⟩:=lenN hl;exact⟨rfl,rfl,rfl⟩
theorem named:Tryz.pinned.checked.prog.funcNamed Rows.combineBlameRow.func=aa 11:=aw
theorem closedF:joinedFacts Tryz.pinned.checked.prog 11 rz (OpenSpec.ofChange Rows.combineBlameSpec).bare Rows.combineBlameRow=ai:=aw
theorem instF:rz.isInstance Tryz.pinned.checked.prog Rows.combineBlameRow.origin Rows.combineBlameRow.targs:=of_decide_eq_true aw
theorem wrapF:rz.isWrapper Tryz.pinned.checked.prog Rows.combineBlameRow.wrapper Rows.combineBlameRow.mainSum:=by unfold Func.isWrapper;first|(rw[aD (by decide+kernel)];kernel_rfl)|(rw[aG (by decide+kernel)];exact⟨rfl,rfl⟩)
theorem said:Rows.CombineBlameSaid:=
 OpenClaim.holds_of_cond 11 rz rfl rfl rfl rfl rfl rfl rfl ⟨rfl,rfl,rfl,rfl,rfl⟩ rfl rfl rfl rfl rfl named LS closedF instF wrapF
  (λos started H enc _ F=>by rw[OpenClaim.pre_eq_preRow];exact lifted os started H enc F)
theorem plain(f:FuncId)(fn:Func)(hf:Tryz.pinned.checked.prog.funcNamed rz.name=aa f)(gG:Tryz.pinned.checked.prog.funcs[f]?=aa fn):
 ai=Tryz.pinned.checked.prog.looks []/\∀(j:Nat) t,fn.params[j]?=aa t->Tryz.pinned.checked.prog.wantsStandIn t=ay:=by
 obtain rfl:f=11:=aa2 ((ah3:aj.funcNamed rz.name=aa 11).symm.trans hf)|>.symm;obtain rfl:fn=rz:=(aa2 (LS.symm.trans gG)).symm;refine⟨aw,λj t ht=>?_⟩;have:(rz.params.toList.all λt=> !Tryz.prog.wantsStandIn t)=ai:=aw;have h2:=eE.1 this t (Array.mem_toList_iff.2 (Array.mem_of_getElem? ht));have h3:aj.wantsStandIn t=ay:=by simpa using h2
 exact h3
end combineBlameClose
theorem combineBlame_card:Rows.CombineBlameCardSaid:=
 Claim7.holds_tied_plain_at .later [] _ _ _ _ combineBlameClose.said (λ_ h=>by cases h) aw (λ_ h=>by cases h) combineBlame_row_tie rfl ⟨rfl,rfl⟩ aw rfl combineBlameClose.plain aw
end Go.Proofs.YtnfciiiohoafaaaGreatDoor
end
