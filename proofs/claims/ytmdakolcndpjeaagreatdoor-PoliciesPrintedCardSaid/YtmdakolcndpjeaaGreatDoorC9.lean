/-
  PoliciesPrinted: the law answers true for every input. No condition beyond the row's own.
-/
import Derived.Test.YtmdakolcndpjeaaGreatDoorWG
import Derived.LaidSub
import Derived.Test.YtmdakolcndpjeaaGreatDoorCards
import Derived.Test.YtmdakolcndpjeaaGreatDoorTie
import Derived.LaidMore
import Derived.Deep.DeepHandedRow
import Derived.Deep.DeepWitnessRowRef
import Derived.KernelRfl
open Go.Proofs.Tryz renaming prog->aq,f9->q8,func9->GB,checked->Lf
open List renaming all_eq_true->dn
open Option renaming none->ah,some->aa,some.inj->SB
open Bool renaming false->ak
set_option maxHeartbeats 64000000
set_option maxRecDepth 100000
set_option linter.unusedSimpArgs false
set_option linter.unusedVariables false
set_option linter.constructorNameAsVariable false
set_option linter.defProp false
section
namespace Go.Proofs.YtmdakolcndpjeaaGreatDoor
open Go.AE Go.Lex Go.ChangeShapes Go.WideShapes Go.RowKit
namespace policiesPrintedClose
theorem lk : Rows.policiesPrintedRow.laid.filter (λx => x.1 == "signatory/policies.kinds") = [("signatory/policies.kinds", Rows.laid_signatory_policies_kinds)] := ai
theorem ls : Rows.policiesPrintedRow.laid.filter (λx => x.1 != "signatory/policies.kinds") = Rows.syntaxBackRow.laid := ai
theorem Ol{α:Type}{l:List α}(h:l.length=1):∃a,l=[a]:=List.length_eq_one_iff.1 h
theorem Om{α:Type}{l:List α}(h:l.length=2):∃a b,l=[a,b]:=by
 match l,h with
 | [a,b],_=>exact⟨a,b,rfl⟩
theorem facts:KK aq Oj 9 q8 4:=⟨GB,ai,ai,by have:(q8.params.toList.all λt=>Oj.contains t&&aq.readableRec t&&decide (t<aq.types.size))=true:=ai;intro t ht;have:=dn.1 this t ht;simp only[Bool.and_eq_true,decide_eq_true_eq] at this;exact⟨this.1.1,this.1.2,this.2⟩,ai,Tryz.underlying4⟩
theorem laid_met(os:Os)(args:Array Value):laidMetH aq Rows.policiesPrintedRow.laid ((World.doorLaid aq 400 os).forCall (λ_ _=>0) ⟨#[],args,[]⟩).memory:=
 laidMetH_of_parts3 (fuel:=8) (laidMet_of_run' 8 ai ai) ai ai
theorem reads(os:Os){H:Type}(enc:TypeId × Value->H):∃places,DataW.whole enc aq ((World.doorLaid aq 400 os).forCall (λ_ _=>0) ⟨#[],#[.agg #[.string ⟨#[]⟩,.slice ah 0 0,.slice ah 0 0,.slice ah 0 0,.int .i64 0,.int .i64 0,.int .i64 0,.string ⟨#[]⟩,.slice ah 0 0,.int .i64 0]],[]⟩).memory q8.params.toList Rows.policiesPrintedSpec.vars ak #[Value.agg #[.string ⟨#[]⟩,.slice ah 0 0,.slice ah 0 0,.slice ah 0 0,.int .i64 0,.int .i64 0,.int .i64 0,.string ⟨#[]⟩,.slice ah 0 0,.int .i64 0]].toList 8=aa ([.agg [.lit (.string []),.nil,.nil,.nil,.agg [.lit (.int .i64 0),.lit (.int .i64 0),.lit (.int .i64 0),.lit (.string []),.nil],.lit (.int .i64 0)]],[],places):=
 ⟨[],ai⟩
theorem law{W0:World}{H:Type}(ds:List (DataW H))(xs:List AV)(h:qe aq q8.params.toList xs ds):∃h',W.call 9 xs ae.init=aa (.ret (.v (.bool true)),h'):=by have hp:q8.params.toList=[28]:=ai;rw[hp] at h;obtain⟨x,xs,d0,ds,rfl,rfl,h0,h⟩:=h.cons_inv;obtain rfl:=h.aa7;obtain⟨a0,t0,rfl,q0⟩:=XN h0;obtain⟨h',hh,-⟩:=abW a0 t0 q0;exact⟨h',hh⟩
theorem lifted(os:Os)(started:os.Started)(H:Type)(enc:TypeId × Value->H)(F:Stop.Interp):
 ReturnsInHanded {} Lf os 9 .any ((OpenSpec.ofChange Rows.policiesPrintedSpec).preRow enc aq q8 Rows.policiesPrintedRow.domain ak Rows.policiesPrintedRow.laid) (((OpenSpec.ofChange Rows.policiesPrintedSpec).at F).post enc aq q8 ak true ak ak):=by
 obtain⟨places,hx⟩:=reads os enc;refine returnsInHanded_of_row (C:=Lf) (s:=OpenSpec.ofChange Rows.policiesPrintedSpec) aej started ai GB
  (witness_row_atRef (enc:=enc) (C:=Lf) ak (World.doorLaid aq 400 os) #[.agg #[.string ⟨#[]⟩,.slice ah 0 0,.slice ah 0 0,.slice ah 0 0,.int .i64 0,.int .i64 0,.int .i64 0,.string ⟨#[]⟩,.slice ah 0 0,.int .i64 0]] rfl ai ai ai
   (OpenSpec.preRow_of_cond 8 hx ai (λk hk=>by cases hk) ai (laid_met os _))) ?_
 intro W base args ds gs before Iy hW _ _ _ hL _ _;refine ZW Qm facts rfl (λds hl=>?_) Iy hW (Xj (ZS (lk ▸ hL.filter _))) (λg p h=>ab2 (ZT (ls ▸ hL.filter _)) Qm g p h) (law (W0:=W) ds);obtain⟨d0,rfl⟩:=Ol hl;exact⟨rfl,rfl,rfl⟩
theorem said:Rows.PoliciesPrintedSaid:=
 OpenClaim.holds_of_cond 9 q8 rfl rfl rfl rfl rfl rfl rfl ⟨rfl,rfl,rfl,rfl,rfl⟩ rfl rfl rfl rfl rfl ai GB ai
  (of_decide_eq_true ai) (by unfold Func.isWrapper;first|(rw[aB (by decide+kernel)];kernel_rfl)|(rw[ax (by decide+kernel)];exact⟨rfl,rfl⟩))
  (λos started H enc _ F=>by rw[OpenClaim.pre_eq_preRow];exact lifted os started H enc F)
theorem plain(f:FuncId)(fn:Func)(hf:Tryz.pinned.checked.prog.funcNamed q8.name=aa f)(fw:Tryz.pinned.checked.prog.funcs[f]?=aa fn):
 true=Tryz.pinned.checked.prog.looks []/\∀(j:Nat) t,fn.params[j]?=aa t->Tryz.pinned.checked.prog.wantsStandIn t=ak:=by
 obtain rfl:f=9:=SB ((iS:aq.funcNamed q8.name=aa 9).symm.trans hf)|>.symm;obtain rfl:fn=q8:=(SB (GB.symm.trans fw)).symm;refine⟨ai,λj t ht=>?_⟩;have:(q8.params.toList.all λt=> !Tryz.prog.wantsStandIn t)=true:=ai;have h2:=dn.1 this t (Array.mem_toList_iff.2 (Array.mem_of_getElem? ht));have h3:aq.wantsStandIn t=ak:=by simpa using h2
 exact h3
end policiesPrintedClose
theorem policiesPrinted_card:Rows.PoliciesPrintedCardSaid:=
 Claim7.holds_tied_plain_at .later [] _ _ _ _ policiesPrintedClose.said (λ_ h=>by cases h) ai (λ_ h=>by cases h) policiesPrinted_row_tie rfl ⟨rfl,rfl⟩ ai rfl policiesPrintedClose.plain ai
end Go.Proofs.YtmdakolcndpjeaaGreatDoor
end
