/-
  CeremonySpec: the law answers true for every input. No condition beyond the row's own.
-/
import Derived.Test.YtcbhpkjbiehcpaaGreatDoorRG
import Derived.Test.YtcbhpkjbiehcpaaGreatDoorCards
import Derived.Test.YtcbhpkjbiehcpaaGreatDoorTie
import Derived.LaidMore
import Derived.Deep.DeepHandedRow
import Derived.Deep.DeepWitnessRowRef
import Derived.KernelRfl
open Go renaming Value->aG
open Option renaming none->af,some->J,some.inj->aaY
open Go.Proofs.Tryz renaming prog->aa,f3->oN,func3->Cw,checked->wg
open List renaming all_eq_true->eF
open Bool renaming true->V,false->ai
set_option maxHeartbeats 64000000
set_option maxRecDepth 100000
set_option linter.unusedSimpArgs false
set_option linter.unusedVariables false
set_option linter.constructorNameAsVariable false
set_option linter.defProp false
section
namespace Go.Proofs.YtcbhpkjbiehcpaaGreatDoor
open Go.AE Go.NT Go.ChangeShapes Go.WideShapes Go.RowKit
namespace ceremonySpecClose
def Y8:List aG:=[Value.int .i64 0,Value.int .i64 0,Value.int .i64 0,Value.int .i64 0,Value.int .i64 0,Value.int .i64 0,Value.slice af 0 0,Value.slice af 0 0,Value.slice af 0 0]++List.replicate 32 (Value.int .u8 0)
def Pq:aG:=.agg Y8.toArray
def Pp:aG:=.agg ([Value.int .i64 0,Value.slice af 0 0,Value.slice af 0 0,Value.slice af 0 0]++Y8++[Value.slice af 0 0,Value.slice af 0 0,Value.slice af 0 0]).toArray
theorem akb{α:Type}{l:List α}(h:List.length l=4):∃a0 a b c,l=[a0,a,b,c]:=by
 match l,h with
 | [a0,a,b,c],_=>exact⟨a0,a,b,c,O⟩
theorem facts:PZ aa Vy 3 oN 4:=⟨Cw,am,am,by have:(oN.params.toList.all λa=>Vy.contains a&&aa.readableRec a&&decide (a<aa.types.size))=V:=am;intro a b;have:=eF.1 this a b;simp only[Bool.and_eq_true,decide_eq_true_eq]at this;exact⟨this.1.1,this.1.2,this.2⟩,am,Tryz.underlying4⟩
theorem ajU(a)(args):laidMetH aa Rows.ceremonySpecRow.laid ((World.doorLaid aa 400 a).forCall (λ_ _=>0) ⟨#[],args,[]⟩).memory:=
 laidMetH_of_parts3 (fuel:=8) (laidMet_of_run' 8 am am) am am
theorem reads(b){H}(Z:TypeId × aG->H):∃a,DataW.whole Z aa ((World.doorLaid aa 400 b).forCall (λ_ _=>0) ⟨#[],#[.agg #[.int .i64 0,.slice af 0 0,.slice af 0 0,.slice af 0 0],Pq,.slice af 0 0,Pp],[]⟩).memory oN.params.toList Rows.ceremonySpecSpec.vars ai #[Value.agg #[.int .i64 0,.slice af 0 0,.slice af 0 0,.slice af 0 0],Pq,.slice af 0 0,Pp].toList 8=J ([.agg [.lit (.int .i64 0),.agg [.nil,.nil],.nil],.agg [.lit (.int .i64 0),.lit (.int .i64 0),.lit (.int .i64 0),.lit (.int .i64 0),.lit (.int .i64 0),.lit (.int .i64 0),.nil,.nil,.nil,.agg [.lit (.int .u8 0),.lit (.int .u8 0),.lit (.int .u8 0),.lit (.int .u8 0),.lit (.int .u8 0),.lit (.int .u8 0),.lit (.int .u8 0),.lit (.int .u8 0),.lit (.int .u8 0),.lit (.int .u8 0),.lit (.int .u8 0),.lit (.int .u8 0),.lit (.int .u8 0),.lit (.int .u8 0),.lit (.int .u8 0),.lit (.int .u8 0),.lit (.int .u8 0),.lit (.int .u8 0),.lit (.int .u8 0),.lit (.int .u8 0),.lit (.int .u8 0),.lit (.int .u8 0),.lit (.int .u8 0),.lit (.int .u8 0),.lit (.int .u8 0),.lit (.int .u8 0),.lit (.int .u8 0),.lit (.int .u8 0),.lit (.int .u8 0),.lit (.int .u8 0),.lit (.int .u8 0),.lit (.int .u8 0)]],.nil,.agg [.agg [.lit (.int .i64 0),.agg [.nil,.nil],.nil],.agg [.lit (.int .i64 0),.lit (.int .i64 0),.lit (.int .i64 0),.lit (.int .i64 0),.lit (.int .i64 0),.lit (.int .i64 0),.nil,.nil,.nil,.agg [.lit (.int .u8 0),.lit (.int .u8 0),.lit (.int .u8 0),.lit (.int .u8 0),.lit (.int .u8 0),.lit (.int .u8 0),.lit (.int .u8 0),.lit (.int .u8 0),.lit (.int .u8 0),.lit (.int .u8 0),.lit (.int .u8 0),.lit (.int .u8 0),.lit (.int .u8 0),.lit (.int .u8 0),.lit (.int .u8 0),.lit (.int .u8 0),.lit (.int .u8 0),.lit (.int .u8 0),.lit (.int .u8 0),.lit (.int .u8 0),.lit (.int .u8 0),.lit (.int .u8 0),.lit (.int .u8 0),.lit (.int .u8 0),.lit (.int .u8 0),.lit (.int .u8 0),.lit (.int .u8 0),.lit (.int .u8 0),.lit (.int .u8 0),.lit (.int .u8 0),.lit (.int .u8 0),.lit (.int .u8 0)]],.nil,.nil,.nil]],[],a):=
 ⟨[],am⟩
theorem law{W0:World}{H:Type}(a:List (DataW H))(xs:List U)(h:ql aa oN.params.toList xs a):∃h',SH.call 3 xs Heap.init=J (.ret (.v (.bool V)),h'):=by have p:oN.params.toList=[27,31,23,35]:=am;rw[p]at h;obtain⟨E,xs,d0,a,rfl,rfl,k,h⟩:=h.cons_inv;obtain⟨G,xs,d1,a,rfl,rfl,l,h⟩:=h.cons_inv;obtain⟨A,xs,d2,a,rfl,rfl,m,h⟩:=h.cons_inv;obtain⟨x3,xs,d3,a,rfl,rfl,n,h⟩:=h.cons_inv;obtain rfl:=h.ali;obtain⟨r,d,e,b,x,t,c0,rfl,u,w,z⟩:=ahE k;obtain⟨q,i,B⟩:=ahD m;obtain⟨c,v,y,s,rfl,g⟩:=ahC l;obtain⟨j,f,rfl,b3,C⟩:=ahB n;obtain⟨_,h',o,rfl⟩:=ajW Heap.init (kOf r x t c0 c q) j (aOf d e b v y s A) f ⟨u,w,z,g,i,fK.pa,fK.z⟩ b3 O O;exact⟨h',o⟩
theorem lifted(b:Os)(a:b.Started)(H:Type)(Z:TypeId × aG->H)(n:Stop.Interp):
 ReturnsInHanded {} wg b 3 .any ((OpenSpec.ofChange Rows.ceremonySpecSpec).preRow Z aa oN Rows.ceremonySpecRow.domain ai Rows.ceremonySpecRow.laid) (((OpenSpec.ofChange Rows.ceremonySpecSpec).at n).post Z aa oN ai V ai ai):=by
 obtain⟨f,m⟩:=reads b Z;refine returnsInHanded_of_row (C:=wg) (s:=OpenSpec.ofChange Rows.ceremonySpecSpec) aq6 a am Cw
  (witness_row_atRef (enc:=Z) (C:=wg) ai (World.doorLaid aa 400 b) #[.agg #[.int .i64 0,.slice af 0 0,.slice af 0 0,.slice af 0 0],Pq,.slice af 0 0,Pp] O am am am
   (OpenSpec.preRow_of_cond 8 m am (λt k=>by cases k) am (ajU b _))) ?_
 intro W h g e p d c j _ _ _ i _ _;refine ajX nt facts O (λe l=>?_) c j (ahi i) (λo r q=>amH _ o r q) (law (W0:=W) e);obtain⟨d0,d1,d2,d3,rfl⟩:=akb l;exact⟨O,O,O⟩
theorem named:Tryz.pinned.checked.prog.funcNamed Rows.ceremonySpecRow.func=J 3:=am
theorem aex:joinedFacts Tryz.pinned.checked.prog 3 oN (OpenSpec.ofChange Rows.ceremonySpecSpec).bare Rows.ceremonySpecRow=V:=am
theorem ajc:oN.isInstance Tryz.pinned.checked.prog Rows.ceremonySpecRow.origin Rows.ceremonySpecRow.targs:=of_decide_eq_true am
theorem atY:oN.isWrapper Tryz.pinned.checked.prog Rows.ceremonySpecRow.wrapper Rows.ceremonySpecRow.mainSum:=by unfold Func.isWrapper;first|(rw[av (by decide+kernel)];kernel_rfl)|(rw[aP (by decide+kernel)];exact⟨O,O⟩)
theorem said:Rows.CeremonySpecSaid:=
 OpenClaim.holds_of_cond 3 oN O O O O O O O ⟨O,O,O,O,O⟩ O O O O O named Cw aex ajc atY
  (λc a e b _ d=>by rw[OpenClaim.pre_eq_preRow];exact lifted c a e b d)
theorem plain(f)(fn)(d:Tryz.pinned.checked.prog.funcNamed oN.name=J f)(a:Tryz.pinned.checked.prog.funcs[f]?=J fn):
 V=Tryz.pinned.checked.prog.looks []/\∀(j:Nat) t,fn.params[j]?=J t->Tryz.pinned.checked.prog.wantsStandIn t=ai:=by
 obtain rfl:f=3:=aaY ((bD:aa.funcNamed oN.name=J 3).symm.trans d)|>.symm;obtain rfl:fn=oN:=(aaY (Cw.symm.trans a)).symm;refine⟨am,λj t e=>?_⟩;have:(oN.params.toList.all λt=> !Tryz.prog.wantsStandIn t)=V:=am;have b:=eF.1 this t (Array.mem_toList_iff.2 (Array.mem_of_getElem? e));have c:aa.wantsStandIn t=ai:=by simpa using b
 exact c
end ceremonySpecClose
theorem ceremonySpec_card:Rows.CeremonySpecCardSaid:=
 Claim7.holds_tied_plain_at .later [] _ _ _ _ ceremonySpecClose.said (λ_ a=>by cases a) am (λ_ a=>by cases a) ceremonySpec_row_tie O ⟨O,O⟩ am O ceremonySpecClose.plain am
end Go.Proofs.YtcbhpkjbiehcpaaGreatDoor
end
