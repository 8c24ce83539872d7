/-
  CeremonyTwice: the law answers true for every input. No condition beyond the row's own.
-/
import Derived.Test.YtcbhpkjbiehcpaaGreatDoorQG
import Derived.Test.YtcbhpkjbiehcpaaGreatDoorCards
import Derived.Test.YtcbhpkjbiehcpaaGreatDoorTie
import Derived.LaidMore
import Derived.Deep.DeepHandedRow
import Derived.Deep.DeepWitnessRowRef
import Derived.KernelRfl
open Go renaming Value->aG
open Option renaming none->ag,some->J,some.inj->abx
open Go.Proofs.Tryz renaming prog->aa,f7->o_,func7->Am,checked->wG
open List renaming all_eq_true->eJ
open Bool renaming true->V,false->ah
set_option maxHeartbeats 64000000
set_option maxRecDepth 100000
set_option linter.unusedSimpArgs false
set_option linter.unusedVariables false
set_option linter.constructorNameAsVariable false
set_option linter.defProp false
section
namespace Go.Proofs.YtcbhpkjbiehcpaaGreatDoor
open Go.AE Go.NT Go.ChangeShapes Go.WideShapes Go.RowKit
namespace ceremonyTwiceClose
def Z4:List aG:=[Value.int .i64 0,Value.int .i64 0,Value.int .i64 0,Value.int .i64 0,Value.int .i64 0,Value.int .i64 0,Value.slice ag 0 0,Value.slice ag 0 0,Value.slice ag 0 0]++List.replicate 32 (Value.int .u8 0)
def avX:aG:=.agg Z4.toArray
def P8:aG:=.agg ([Value.int .i64 0,Value.slice ag 0 0,Value.slice ag 0 0,Value.slice ag 0 0]++Z4++[Value.slice ag 0 0,Value.slice ag 0 0,Value.slice ag 0 0]).toArray
theorem akH{α:Type}{l:List α}(h:List.length l=5):∃a0 a b c d,l=[a0,a,b,c,d]:=by
 match l,h with
 | [a0,a,b,c,d],_=>exact⟨a0,a,b,c,d,O⟩
theorem facts:QC aa Wl 7 o_ 4:=⟨Am,am,am,by have:(o_.params.toList.all λa=>Wl.contains a&&aa.readableRec a&&decide (a<aa.types.size))=V:=am;intro a b;have:=eJ.1 this a b;simp only[Bool.and_eq_true,decide_eq_true_eq]at this;exact⟨this.1.1,this.1.2,this.2⟩,am,Tryz.underlying4⟩
theorem akq(a)(args):laidMetH aa Rows.ceremonyTwiceRow.laid ((World.doorLaid aa 400 a).forCall (λ_ _=>0) ⟨#[],args,[]⟩).memory:=
 laidMetH_of_parts3 (fuel:=8) (laidMet_of_run' 8 am am) am am
theorem reads(b){H}(Z:TypeId × aG->H):∃a,DataW.whole Z aa ((World.doorLaid aa 400 b).forCall (λ_ _=>0) ⟨#[],#[P8,.agg #[.int .i64 0,.int .i64 0,.int .i64 0,.int .i64 0],.agg #[.int .i64 0,.int .i64 0,.int .i64 0,.int .i64 0],.agg #[.int .i64 0,.int .i64 0],.agg #[.int .i64 0,.int .i64 0]],[]⟩).memory o_.params.toList Rows.ceremonyTwiceSpec.vars ah #[P8,.agg #[.int .i64 0,.int .i64 0,.int .i64 0,.int .i64 0],.agg #[.int .i64 0,.int .i64 0,.int .i64 0,.int .i64 0],.agg #[.int .i64 0,.int .i64 0],.agg #[.int .i64 0,.int .i64 0]].toList 8=J ([.agg [.agg [.lit (.int .i64 0),.agg [.nil,.nil],.nil],.agg [.lit (.int .i64 0),.lit (.int .i64 0),.lit (.int .i64 0),.lit (.int .i64 0),.lit (.int .i64 0),.lit (.int .i64 0),.nil,.nil,.nil,.agg [.lit (.int .u8 0),.lit (.int .u8 0),.lit (.int .u8 0),.lit (.int .u8 0),.lit (.int .u8 0),.lit (.int .u8 0),.lit (.int .u8 0),.lit (.int .u8 0),.lit (.int .u8 0),.lit (.int .u8 0),.lit (.int .u8 0),.lit (.int .u8 0),.lit (.int .u8 0),.lit (.int .u8 0),.lit (.int .u8 0),.lit (.int .u8 0),.lit (.int .u8 0),.lit (.int .u8 0),.lit (.int .u8 0),.lit (.int .u8 0),.lit (.int .u8 0),.lit (.int .u8 0),.lit (.int .u8 0),.lit (.int .u8 0),.lit (.int .u8 0),.lit (.int .u8 0),.lit (.int .u8 0),.lit (.int .u8 0),.lit (.int .u8 0),.lit (.int .u8 0),.lit (.int .u8 0),.lit (.int .u8 0)]],.nil,.nil,.nil],.agg [.lit (.int .i64 0),.lit (.int .i64 0),.lit (.int .i64 0),.lit (.int .i64 0)],.agg [.lit (.int .i64 0),.lit (.int .i64 0),.lit (.int .i64 0),.lit (.int .i64 0)],.agg [.lit (.int .i64 0),.lit (.int .i64 0)],.agg [.lit (.int .i64 0),.lit (.int .i64 0)]],[],a):=
 ⟨[],am⟩
theorem law{W0:World}{H:Type}(a:List (DataW H))(xs:List U)(h:qE aa o_.params.toList xs a):∃h',SH.call 7 xs Heap.init=J (.ret (.v (.bool V)),h'):=by have n:o_.params.toList=[35,46,46,48,48]:=am;rw[n]at h;obtain⟨p,xs,d0,a,rfl,rfl,g,h⟩:=h.cons_inv;obtain⟨q,xs,d1,a,rfl,rfl,i,h⟩:=h.cons_inv;obtain⟨r,xs,d2,a,rfl,rfl,j,h⟩:=h.cons_inv;obtain⟨x3,xs,d3,a,rfl,rfl,k,h⟩:=h.cons_inv;obtain⟨s,xs,d4,a,rfl,rfl,l,h⟩:=h.cons_inv;obtain rfl:=h.alO;obtain⟨c0,a0,rfl,f,o⟩:=ah4 g;obtain⟨b,rfl⟩:=Uz i;obtain⟨c,rfl⟩:=Uz j;obtain⟨d,rfl⟩:=Uy k;obtain⟨e,rfl⟩:=Uy l;obtain⟨_,h',m,rfl⟩:=aks Heap.init c0 a0 b c d e f o;exact⟨h',m⟩
theorem lifted(b:Os)(a:b.Started)(H:Type)(Z:TypeId × aG->H)(n:Stop.Interp):
 ReturnsInHanded {} wG b 7 .any ((OpenSpec.ofChange Rows.ceremonyTwiceSpec).preRow Z aa o_ Rows.ceremonyTwiceRow.domain ah Rows.ceremonyTwiceRow.laid) (((OpenSpec.ofChange Rows.ceremonyTwiceSpec).at n).post Z aa o_ ah V ah ah):=by
 obtain⟨f,m⟩:=reads b Z;refine returnsInHanded_of_row (C:=wG) (s:=OpenSpec.ofChange Rows.ceremonyTwiceSpec) arJ a am Am
  (witness_row_atRef (enc:=Z) (C:=wG) ah (World.doorLaid aa 400 b) #[P8,.agg #[.int .i64 0,.int .i64 0,.int .i64 0,.int .i64 0],.agg #[.int .i64 0,.int .i64 0,.int .i64 0,.int .i64 0],.agg #[.int .i64 0,.int .i64 0],.agg #[.int .i64 0,.int .i64 0]] O am am am
   (OpenSpec.preRow_of_cond 8 m am (λt k=>by cases k) am (akq b _))) ?_
 intro W h g e p d c j _ _ _ i _ _;refine akt nJ facts O (λe l=>?_) c j (ahM i) (λo r q=>ank _ o r q) (law (W0:=W) e);obtain⟨d0,d1,d2,d3,d4,rfl⟩:=akH l;exact⟨O,O,O⟩
theorem named:Tryz.pinned.checked.prog.funcNamed Rows.ceremonyTwiceRow.func=J 7:=am
theorem ae5:joinedFacts Tryz.pinned.checked.prog 7 o_ (OpenSpec.ofChange Rows.ceremonyTwiceSpec).bare Rows.ceremonyTwiceRow=V:=am
theorem ajG:o_.isInstance Tryz.pinned.checked.prog Rows.ceremonyTwiceRow.origin Rows.ceremonyTwiceRow.targs:=of_decide_eq_true am
theorem aux:o_.isWrapper Tryz.pinned.checked.prog Rows.ceremonyTwiceRow.wrapper Rows.ceremonyTwiceRow.mainSum:=by unfold Func.isWrapper;first|(rw[av (by decide+kernel)];kernel_rfl)|(rw[aL (by decide+kernel)];exact⟨O,O⟩)
theorem said:Rows.CeremonyTwiceSaid:=
 OpenClaim.holds_of_cond 7 o_ O O O O O O O ⟨O,O,O,O,O⟩ O O O O O named Am ae5 ajG aux
  (λc a e b _ d=>by rw[OpenClaim.pre_eq_preRow];exact lifted c a e b d)
theorem plain(f)(fn)(d:Tryz.pinned.checked.prog.funcNamed o_.name=J f)(a:Tryz.pinned.checked.prog.funcs[f]?=J fn):
 V=Tryz.pinned.checked.prog.looks []/\∀(j:Nat) t,fn.params[j]?=J t->Tryz.pinned.checked.prog.wantsStandIn t=ah:=by
 obtain rfl:f=7:=abx ((bD:aa.funcNamed o_.name=J 7).symm.trans d)|>.symm;obtain rfl:fn=o_:=(abx (Am.symm.trans a)).symm;refine⟨am,λj t e=>?_⟩;have:(o_.params.toList.all λt=> !Tryz.prog.wantsStandIn t)=V:=am;have b:=eJ.1 this t (Array.mem_toList_iff.2 (Array.mem_of_getElem? e));have c:aa.wantsStandIn t=ah:=by simpa using b
 exact c
end ceremonyTwiceClose
theorem ceremonyTwice_card:Rows.CeremonyTwiceCardSaid:=
 Claim7.holds_tied_plain_at .later [] _ _ _ _ ceremonyTwiceClose.said (λ_ a=>by cases a) am (λ_ a=>by cases a) ceremonyTwice_row_tie O ⟨O,O⟩ am O ceremonyTwiceClose.plain am
end Go.Proofs.YtcbhpkjbiehcpaaGreatDoor
end
