/-
  CeremonySigned: the law answers true for every input. No condition beyond the row's own.
-/
import Derived.Test.YtcbhpkjbiehcpaaGreatDoorSH
import Derived.Test.YtcbhpkjbiehcpaaGreatDoorSG
import Derived.Test.YtcbhpkjbiehcpaaGreatDoorCards
import Derived.Test.YtcbhpkjbiehcpaaGreatDoorTie
import Derived.LaidMore
import Derived.Deep.DeepHandedRow
import Derived.Deep.DeepWitnessRowRef
import Derived.KernelRfl
open Go renaming Value->aQ
open Option renaming none->aq,some->J,some.inj->ade
open Go.Proofs.Tryz renaming prog->ag,f5->o_,func5->yU,checked->Eg
open List renaming all_eq_true->ff
open Bool renaming true->aa,false->au
set_option maxHeartbeats 64000000
set_option maxRecDepth 100000
set_option linter.unusedSimpArgs false
set_option linter.unusedVariables false
set_option linter.constructorNameAsVariable false
set_option linter.defProp false
section
namespace Go.Proofs.YtcbhpkjbiehcpaaGreatDoor
open Go.AE Go.NT Go.ChangeShapes Go.WideShapes Go.RowKit
namespace ceremonySignedClose
def awu:List aQ:=[Value.int .i64 0,Value.int .i64 0,Value.int .i64 0,Value.int .i64 0,Value.int .i64 0,Value.int .i64 0,Value.slice aq 0 0,Value.slice aq 0 0,Value.slice aq 0 0]++List.replicate 32 (Value.int .u8 0)
def Rv:aQ:=.agg ([Value.slice aq 0 0,Value.slice aq 0 0,Value.slice aq 0 0]++awu++[Value.slice aq 0 0,Value.slice aq 0 0]).toArray
theorem Pk{α:Type}{l:List α}(h:List.length l=3):∃a0 a b,l=[a0,a,b]:=by
 match l,h with
 | [a0,a,b],_=>exact⟨a0,a,b,O⟩
theorem facts:R5 ag Yd 5 o_ 4:=⟨yU,aB,aB,by have:(o_.params.toList.all λa=>Yd.contains a&&ag.readableRec a&&decide (a<ag.types.size))=aa:=aB;intro a b;have:=ff.1 this a b;simp only[Bool.and_eq_true,decide_eq_true_eq]at this;exact⟨this.1.1,this.1.2,this.2⟩,aB,Tryz.underlying4⟩
theorem amg(a:Os)(args:Array aQ):laidMetH ag Rows.ceremonySignedRow.laid ((World.doorLaid ag 400 a).forCall (λ_ _=>0) ⟨#[],args,[]⟩).memory:=
 laidMetH_of_parts3 (fuel:=8) (laidMet_of_run' 8 aB aB) aB aB
theorem reads(b:Os){H:Type}(Z:TypeId × aQ->H):∃a,DataW.whole Z ag ((World.doorLaid ag 400 b).forCall (λ_ _=>0) ⟨#[],#[Rv,.slice aq 0 0,.slice aq 0 0],[]⟩).memory o_.params.toList Rows.ceremonySignedSpec.vars au #[Rv,.slice aq 0 0,.slice aq 0 0].toList 8=J ([.agg [.agg [.nil,.nil],.nil,.agg [.lit (.int .i64 0),.lit (.int .i64 0),.lit (.int .i64 0),.lit (.int .i64 0),.lit (.int .i64 0),.lit (.int .i64 0),.nil,.nil,.nil,.agg [.lit (.int .u8 0),.lit (.int .u8 0),.lit (.int .u8 0),.lit (.int .u8 0),.lit (.int .u8 0),.lit (.int .u8 0),.lit (.int .u8 0),.lit (.int .u8 0),.lit (.int .u8 0),.lit (.int .u8 0),.lit (.int .u8 0),.lit (.int .u8 0),.lit (.int .u8 0),.lit (.int .u8 0),.lit (.int .u8 0),.lit (.int .u8 0),.lit (.int .u8 0),.lit (.int .u8 0),.lit (.int .u8 0),.lit (.int .u8 0),.lit (.int .u8 0),.lit (.int .u8 0),.lit (.int .u8 0),.lit (.int .u8 0),.lit (.int .u8 0),.lit (.int .u8 0),.lit (.int .u8 0),.lit (.int .u8 0),.lit (.int .u8 0),.lit (.int .u8 0),.lit (.int .u8 0),.lit (.int .u8 0)]],.nil,.nil],.nil,.nil],[],a):=
 ⟨[],aB⟩
theorem law{W0:World}{H:Type}(a:List (DataW H))(xs:List V)(h:rA ag o_.params.toList xs a):∃h',SH.call 5 xs ah.init=J (.ret (.v (.bool aa)),h'):=by have j:o_.params.toList=[59,60,60]:=aB;rw[j]at h;obtain⟨q,xs,d0,a,rfl,rfl,e,h⟩:=h.cons_inv;obtain⟨o,xs,d1,a,rfl,rfl,f,h⟩:=h.cons_inv;obtain⟨p,xs,d2,a,rfl,rfl,g,h⟩:=h.cons_inv;obtain rfl:=h.anO;obtain⟨n,a0,rfl,b,m⟩:=ajR e;obtain⟨k,c⟩:=V7 f;obtain⟨l,d⟩:=V7 g;obtain⟨_,h',i,rfl⟩:=amj ah.init O n a0 b m k l o p c d;exact⟨h',i⟩
theorem lifted(b:Os)(a:b.Started)(H:Type)(Z:TypeId × aQ->H)(n:Stop.Interp):
 ReturnsInHanded {} Eg b 5 .any ((OpenSpec.ofChange Rows.ceremonySignedSpec).preRow Z ag o_ Rows.ceremonySignedRow.domain au Rows.ceremonySignedRow.laid) (((OpenSpec.ofChange Rows.ceremonySignedSpec).at n).post Z ag o_ au aa au au):=by
 obtain⟨f,m⟩:=reads b Z;refine returnsInHanded_of_row (C:=Eg) (s:=OpenSpec.ofChange Rows.ceremonySignedSpec) atZ a aB yU
  (witness_row_atRef (enc:=Z) (C:=Eg) au (World.doorLaid ag 400 b) #[Rv,.slice aq 0 0,.slice aq 0 0] O aB aB aB
   (OpenSpec.preRow_of_cond 8 m aB (λt k=>by cases k) aB (amg b _))) ?_
 intro W h g e p d c j _ _ _ i _ _;refine amk nN facts O (λe l=>?_) c j (ajy i) (λo r q=>apv _ o r q) (law (W0:=W) e);obtain⟨d0,d1,d2,rfl⟩:=Pk l;exact⟨O,O,O⟩
theorem named:Tryz.pinned.checked.prog.funcNamed Rows.ceremonySignedRow.func=J 5:=aB
theorem agM:joinedFacts Tryz.pinned.checked.prog 5 o_ (OpenSpec.ofChange Rows.ceremonySignedSpec).bare Rows.ceremonySignedRow=aa:=aB
theorem alD:o_.isInstance Tryz.pinned.checked.prog Rows.ceremonySignedRow.origin Rows.ceremonySignedRow.targs:=of_decide_eq_true aB
theorem awR:o_.isWrapper Tryz.pinned.checked.prog Rows.ceremonySignedRow.wrapper Rows.ceremonySignedRow.mainSum:=by unfold Func.isWrapper;first|(rw[aH (by decide+kernel)];kernel_rfl)|(rw[aV (by decide+kernel)];exact⟨O,O⟩)
theorem said:Rows.CeremonySignedSaid:=
 OpenClaim.holds_of_cond 5 o_ O O O O O O O ⟨O,O,O,O,O⟩ O O O O O named yU agM alD awR
  (λc a e b _ d=>by rw[OpenClaim.pre_eq_preRow];exact lifted c a e b d)
theorem plain(f:FuncId)(fn:Func)(d:Tryz.pinned.checked.prog.funcNamed o_.name=J f)(a:Tryz.pinned.checked.prog.funcs[f]?=J fn):
 aa=Tryz.pinned.checked.prog.looks []/\∀(j:Nat) t,fn.params[j]?=J t->Tryz.pinned.checked.prog.wantsStandIn t=au:=by
 obtain rfl:f=5:=ade ((bX:ag.funcNamed o_.name=J 5).symm.trans d)|>.symm;obtain rfl:fn=o_:=(ade (yU.symm.trans a)).symm;refine⟨aB,λj t e=>?_⟩;have:(o_.params.toList.all λt=> !Tryz.prog.wantsStandIn t)=aa:=aB;have b:=ff.1 this t (Array.mem_toList_iff.2 (Array.mem_of_getElem? e));have c:ag.wantsStandIn t=au:=by simpa using b
 exact c
end ceremonySignedClose
theorem ceremonySigned_card:Rows.CeremonySignedCardSaid:=
 Claim7.holds_tied_plain_at .later [] _ _ _ _ ceremonySignedClose.said (λ_ a=>by cases a) aB (λ_ a=>by cases a) ceremonySigned_row_tie O ⟨O,O⟩ aB O ceremonySignedClose.plain aB
end Go.Proofs.YtcbhpkjbiehcpaaGreatDoor
end
