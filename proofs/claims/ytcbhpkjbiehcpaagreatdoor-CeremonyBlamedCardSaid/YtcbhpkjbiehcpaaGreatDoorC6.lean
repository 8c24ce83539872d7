/- CeremonyBlamed: the law answers true for every input. No condition beyond the row's own. -/
import Derived.Test.YtcbhpkjbiehcpaaGreatDoorTF
import Derived.Test.YtcbhpkjbiehcpaaGreatDoorCards
import Derived.Test.YtcbhpkjbiehcpaaGreatDoorTie
import Derived.Deep.DeepHandedRow
import Derived.Deep.DeepWitnessRowRef
open Go renaming Value->a_
open Option renaming none->ao,some->J,some.inj->aeo
open Go.Proofs.Tryz renaming prog->af,f6->nk,func6->MY,checked->EL
open List renaming all_eq_true->e8
open Bool renaming true->aa,false->ar
set_option maxHeartbeats 64000000
set_option maxRecDepth 100000
set_option linter.unusedVariables false
namespace Go.Proofs.YtcbhpkjbiehcpaaGreatDoor
open Go.AE Go.NT Go.ChangeShapes Go.WideShapes Go.RowKit
namespace zz6
def axs:List a_:=[Value.int .i64 0,Value.int .i64 0,Value.int .i64 0,Value.int .i64 0,Value.int .i64 0,Value.int .i64 0,Value.slice ao 0 0,Value.slice ao 0 0,Value.slice ao 0 0]++List.replicate 32 (Value.int .u8 0)
def SY:a_:=.agg ([Value.slice ao 0 0,Value.slice ao 0 0,Value.slice ao 0 0]++axs++[Value.slice ao 0 0,Value.slice ao 0 0]).toArray
theorem Qm{α:Type}{l:List α}(h:List.length l=2):∃a0 a,l=[a0,a]:=by
 match l,h with
 | [a0,a],_=>exact⟨a0,a,O⟩
theorem fc:Tn af Zb 6 nk 4:=⟨MY,ax,ax,by have:(nk.params.toList.all λa=>Zb.contains a&&af.readableRec a&&decide (a<af.types.size))=aa:=ax;intro a b;have:=e8.1 this a b;simp only[Bool.and_eq_true,decide_eq_true_eq]at this;exact⟨this.1.1,this.1.2,this.2⟩,ax,Tryz.underlying4⟩
theorem ang(a:Os)(args:Array a_):laidMetH af Rows.ceremonyBlamedRow.laid ((World.doorLaid af 400 a).forCall (λ_ _=>0) ⟨#[],args,[]⟩).memory:=
 laidMetH_of_parts3 (fuel:=8) (laidMet_of_run' 8 ax ax) ax ax
theorem rd(b:Os){H:Type}(Y:TypeId × a_->H):∃a,DataW.whole Y af ((World.doorLaid af 400 b).forCall (λ_ _=>0) ⟨#[],#[SY,.slice ao 0 0],[]⟩).memory nk.params.toList Rows.ceremonyBlamedSpec.vars ar #[SY,.slice ao 0 0].toList 8=J ([.agg [.agg [.nil,.nil],.nil,.agg [.lit (.int .i64 0),.lit (.int .i64 0),.lit (.int .i64 0),.lit (.int .i64 0),.lit (.int .i64 0),.lit (.int .i64 0),.nil,.nil,.nil,.agg [.lit (.int .u8 0),.lit (.int .u8 0),.lit (.int .u8 0),.lit (.int .u8 0),.lit (.int .u8 0),.lit (.int .u8 0),.lit (.int .u8 0),.lit (.int .u8 0),.lit (.int .u8 0),.lit (.int .u8 0),.lit (.int .u8 0),.lit (.int .u8 0),.lit (.int .u8 0),.lit (.int .u8 0),.lit (.int .u8 0),.lit (.int .u8 0),.lit (.int .u8 0),.lit (.int .u8 0),.lit (.int .u8 0),.lit (.int .u8 0),.lit (.int .u8 0),.lit (.int .u8 0),.lit (.int .u8 0),.lit (.int .u8 0),.lit (.int .u8 0),.lit (.int .u8 0),.lit (.int .u8 0),.lit (.int .u8 0),.lit (.int .u8 0),.lit (.int .u8 0),.lit (.int .u8 0),.lit (.int .u8 0)]],.nil,.nil],.nil],[],a):=
 ⟨[],ax⟩
theorem law{W0:World}{H:Type}(a:List (DataW H))(xs:List I)(h:sJ af nk.params.toList xs a):∃h',SH.call 6 xs am.init=J (.ret (.v (.bool aa)),h'):=by have g:nk.params.toList=[59,68]:=ax;rw[g]at h;obtain⟨m,xs,d0,a,rfl,rfl,d,h⟩:=h.cons_inv;obtain⟨l,xs,d1,a,rfl,rfl,e,h⟩:=h.cons_inv;obtain rfl:=h.aoO;obtain⟨k,a0,rfl,b,j⟩:=akN d;obtain⟨i,c⟩:=akQ e;obtain⟨_,h',f,rfl⟩:=anj am.init O k a0 b j i l c;exact⟨h',f⟩
theorem lf(b:Os)(a:b.Started)(H:Type)(Y:TypeId × a_->H)(n:Stop.Interp):
 ReturnsInHanded {} EL b 6 .any ((OpenSpec.ofChange Rows.ceremonyBlamedSpec).preRow Y af nk Rows.ceremonyBlamedRow.domain ar Rows.ceremonyBlamedRow.laid) (((OpenSpec.ofChange Rows.ceremonyBlamedSpec).at n).post Y af nk ar aa ar ar):=by
 obtain⟨f,m⟩:=rd b Y;refine returnsInHanded_of_row (C:=EL) (s:=OpenSpec.ofChange Rows.ceremonyBlamedSpec) auU a ax MY
  (witness_row_atRef (enc:=Y) (C:=EL) ar (World.doorLaid af 400 b) #[SY,.slice ao 0 0] O ax ax ax
   (OpenSpec.preRow_of_cond 8 m ax (λt k=>by cases k) ax (ang b _))) ?_
 intro W h g e p d c j _ _ _ i _ _;refine ank ol fc O (λe l=>?_) c j (aku i) (λo r q=>aqx _ o r q) (law (W0:=W) e);obtain⟨d0,d1,rfl⟩:=Qm l;exact⟨O,O,O⟩
theorem nd:Tryz.pinned.checked.prog.funcNamed Rows.ceremonyBlamedRow.func=J 6:=ax
theorem ahE:joinedFacts Tryz.pinned.checked.prog 6 nk (OpenSpec.ofChange Rows.ceremonyBlamedSpec).bare Rows.ceremonyBlamedRow=aa:=ax
theorem amD:nk.isInstance Tryz.pinned.checked.prog Rows.ceremonyBlamedRow.origin Rows.ceremonyBlamedRow.targs:=of_decide_eq_true ax
theorem axP:nk.isWrapper Tryz.pinned.checked.prog Rows.ceremonyBlamedRow.wrapper Rows.ceremonyBlamedRow.mainSum:=by unfold Func.isWrapper;first|(rw[aC (by decide+kernel)];kernel_rfl)|(rw[aL (by decide+kernel)];exact⟨O,O⟩)
theorem sd:Rows.CeremonyBlamedSaid:=
 OpenClaim.holds_of_cond 6 nk O O O O O O O ⟨O,O,O,O,O⟩ O O O O O nd MY ahE amD axP
  (λc a e b _ d=>by rw[OpenClaim.pre_eq_preRow];exact lf c a e b d)
theorem pn(f:FuncId)(fn:Func)(d:Tryz.pinned.checked.prog.funcNamed nk.name=J f)(a:Tryz.pinned.checked.prog.funcs[f]?=J fn):
 aa=Tryz.pinned.checked.prog.looks []/\∀(j:Nat) t,fn.params[j]?=J t->Tryz.pinned.checked.prog.wantsStandIn t=ar:=by
 obtain rfl:f=6:=aeo ((cD:af.funcNamed nk.name=J 6).symm.trans d)|>.symm;obtain rfl:fn=nk:=(aeo (MY.symm.trans a)).symm;refine⟨ax,λj t e=>?_⟩;have:(nk.params.toList.all λt=> !Tryz.prog.wantsStandIn t)=aa:=ax;have b:=e8.1 this t (Array.mem_toList_iff.2 (Array.mem_of_getElem? e));have c:af.wantsStandIn t=ar:=by simpa using b
 exact c
end zz6
theorem ceremonyBlamed_card:Rows.CeremonyBlamedCardSaid:=
 Claim7.holds_tied_plain_at .later [] _ _ _ _ zz6.sd (λ_ a=>by cases a) ax (λ_ a=>by cases a) ceremonyBlamed_row_tie O ⟨O,O⟩ ax O zz6.pn ax
end Go.Proofs.YtcbhpkjbiehcpaaGreatDoor
