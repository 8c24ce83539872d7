/-
  The engine, part 31: arguments of recursive types: a set of types, each made of others of the set.
-/
import Derived.Test.YtnfciiiohoafaaaGreatDoorYI
import Derived.Test.YtnfciiiohoafaaaGreatDoorYG
import Derived.Test.YtnfciiiohoafaaaGreatDoorYB
import Derived.LaidMore
import Derived.MakeChecks
import Derived.Stop.LaidErr
import Derived.Stop.Joined
import Derived.Lib.LaidTab
import Derived.Test.YtnfciiiohoafaaaGreatDoorRows
import Derived.Test.YtnfciiiohoafaaaGreatDoorYH
open Go.Proofs.Tryz renaming prog->aj,underlying23->eY,underlying3->CZ
open Option renaming some->aa,bind_some->oa,map_eq_some_iff->dt,map_some->eX,some.injEq->dE
open List renaming length_nil->jP,length_map->bJ,length_pos_iff->aat,getElem?_eq_some_iff->aQ,all_eq_true->eE,map_map->AL,getElem?_map->eR,getD_eq_getElem?_getD->eQ,mem_cons_self->ga,mem_cons_of_mem->fR,getElem?_eq_getElem->a9,all_append->AI,drop_drop->xD,drop_zero->iB,drop_left->aak,take_length->gM,append_nil->jv
open Nat renaming zero_add->nZ,reduceEqDiff->aY,le_refl->aJ,le_trans->fc,zero_le->df,add_mul->fW,lt_or_ge->dT,eq_of_beq_eq_true->jF,mul_le_mul_right->nX
open Bool renaming true->ai,false->ay,and_eq_true->bA
open Go renaming Value->aL,FuncId->bq,TypeId->aH,Program->bB
open Prod renaming mk.injEq->cW
open And renaming intro->ax
open Int renaming emod_nonneg->Ia,emod_lt_of_pos->HZ,tmod_eq_emod_of_nonneg->CM
open Array renaming all_eq_true'->K6,mem_of_getElem?->ZC,getElem?_eq_some_iff->CB
set_option maxHeartbeats 64000000
set_option maxRecDepth 100000
set_option linter.unusedSimpArgs false
set_option linter.unusedVariables false
set_option linter.constructorNameAsVariable false
set_option linter.defProp false
section
namespace Go.Proofs.YtnfciiiohoafaaaGreatDoor
open Go.AE Go.NT
def bl23n:gN aj 23 0 []=aa (.list .tight 1 []):=aw
def map_im(l):(ints l).flatten=l.map im:=by
 induction l with
 |nil=>rfl|cons a l ih=>show vq a++(ints l).flatten=_;rw[ih];rfl
def thaw_copy{H}{Z}{l}(hz:IL Z l)(bE:l≠[])(hl:l.length<=1000000):
 sI aj H #[23,23] (.list .tight 1 []) Z=aa (.arr H.boxes.length 0 l.length l.length,H.push (l.map im)):=by
 obtain⟨k,s,rfl,hs⟩:=hz;have cK:=hs bE;subst cK;obtain⟨i,q1,q2,q3,q4⟩:=Ca;have vg:=Nat.mul_le_mul (ah:l.length<=1000000) q3;have BJ:ints l≠[]:=λq=>bE (by have:=congrArg List.length q;rw[eT] at this;exact List.length_eq_zero_iff.1 this);have:=QM (h:=H) (k:=.tight) (sz:=1) (es:=[]) (new:=ints l) (x:=.list k 1 (ints l)) eY eY q1 ah (by rw[q2];exact q4) BJ (by rw[jP,nZ,eT];omega) (by rw[jP,nZ,eT];omega) (.inr rfl) (.inr rfl) (by rw[q2];show rowsOf H 1 (.list k 1 (ints l))=aa (ints l);simp[rowsOf]);rw[jP,nZ,eT,List.nil_append,map_im] at this;exact this
def afa(d)(a):fj aj (Op.equalIn (d+1) 3 (.int .i64 a) (.int .i64 a))=aa ai:=by unfold Op.equalIn;rw[uz,PI CZ,oa];simp[fj];rfl
def akJ{α}{P}(a):fj P (pure a:Sem α)=aa a:=rfl
abbrev aB(a b:Int):Array aL:=#[.int .i64 a,.int .i64 b]
def ae9(d)(a b):fj aj (Op.equalIn (d+2) 50 (.agg (aB a b)) (.agg (aB a b)))=aa ai:=by have h1:fj aj (part 3 (aB a b) 0)=aa (.int .i64 a):=aw;have h2:fj aj (part 3 (aB a b) 1)=aa (.int .i64 b):=aw;have hs:aj.stoodInHeld 50=ay:=aw;have hp:fj aj program=aa aj:=rfl;unfold Op.equalIn;rw[uz,PI Tryz.underlying50,oa];simp[uz,akJ,hp,hs,h1,h2,afa]
def ae8{x y}(a b):cQ aj .eql 50 x y (.agg [im a,im b]) (.agg [im a,im b])=aa (.v (.bool ai)):=by have hg:fj aj (eqGuard .eql 50 x y (.agg (aB a b)) (.agg (aB a b)))=aa ():=aw;show(fj aj (do eqGuard .eql 50 x y (.agg (aB a b)) (.agg (aB a b));binOp .eql 50 (.agg (aB a b)) (.agg (aB a b)))).bind nR=_;rw[uz,hg,oa];show(fj aj (do pure (.bool (<-Op.equal 50 (.agg (aB a b)) (.agg (aB a b)))))).bind nR=_;rw[uz];have:=ae9 9998 a b;unfold Op.equal Op.maxDepth;rw[this];rfl
def rs11:Tryz.f11.results.toList=[.tmp 18]:=aw
def bd50n:mF aj 50 []=aa (.agg [im 0,im 0]):=aw
def Code.tl:Nat->Code->Code
 |n+1,.seq _ b=>Code.tl n b
 |_,c=>c
def Code.repl:Nat->Code->Code->Code
 |n+1,.seq a c,b=>.seq a (Code.repl n c b)
 |0,_,b=>b
 |_,c,_=>c
def repl_tl:∀(n:Nat) (c:Code),Code.repl n c (Code.tl n c)=c:=by
 intro n
 induction n with
 |zero=>intro c;cases c<;>rfl
 |succ n ih=>intro c;cases c<;>first|rfl|(simp only[Code.repl,Code.tl,ih])
def run_mid(n:Nat){R:Rec}{c:Code}{e:Env}{h:ao}{Q:Xt->Env->ao->Prop}(M:Env->ao->Prop)(H1:∀b,(∀e h,M e h->bM R b e h Q)->bM R (Code.repl n c b) e h Q)(H2:∀e h,M e h->bM R (Code.tl n c) e h Q):bM R c e h Q:=by
 have:=H1 _ H2
 rwa [repl_tl] at this
def law11(h:ao)(bD:dj h=ai)(X Y R W NV T Z:AV)(ae:List (List Int))(ag:List Int)(bu:Int)(bC ar N:List Int)(text:List UInt8)(z:List Int)(which by_:Int)
 (hx:RL X ae) (hy:IL Y ag) (hr:IL R bC) (hw:IL W ar) (hn:IL NV N) (ht:BL T text) (hz:IL Z z) (hwh:0<=which/\which<256) (ej:bC.length<=9223372036854775807) (ji:ar.length<=9223372036854775807) (pE:N.length<=9223372036854775807):
 ∃r h',W7.call 11 [.agg [X,Y],im bu,R,W,NV,T,Z,.v (.int .u8 which),im by_] h=aa (r,h')/\r=.ret (.v (.bool ai)):=by
 have bx:=As hx hy;obtain⟨_,H1,c1,x1,rfl⟩:=aoo (h.push [X,Y]) bD;have oy:=x1.ok bD;have l1:aF aj Gt H1 25 (.ptr (.box h.boxes.length) 0)=aa (.agg [X,Y]):=vx (x1.box _ _ (bp _ _));have zc:=QY;have zg:=QX;have lnZ:=hz.dN;refine ec rfl Tryz.func11 rfl ?_;rcases SU X Y R W NV T ae ag bu bC ar N text hx hy hr hw hn ht ej ji pE with⟨hu,c2⟩|⟨hu,X2,Y2,C2,T2,L2,Z2,g1,g2,g3,g4,g5,g6,c2⟩
 ·have s1:b8 aj (H1.push (fe 0 nl nl nl nl nl nl)) 66 (.ptr (.box H1.boxes.length) 0) (.agg (fe 0 nl nl nl nl nl nl))=aa (H1.push (fe 0 nl nl nl nl nl nl)):=jt rfl HO rfl rfl;clear hx hy hr hw hn ht hz x1 bD oy hu;unfold im at *
  repeat' (first|simp(maxSteps:=9999999) (disch:=first|exact dZ|fail) only[gW,reduceIte,aY,aR,rs11,bK, *]|refine dX ?_ ?_<;>(intro _;try omega))
  exact⟨_,_,rfl,rfl⟩
 obtain⟨y,cr,q1,q2,q3,q4,q5,q6,q7⟩:=QR hu;have cells:=Mw (ep:=0) g1 g2 g3 g4 g5 g6;obtain⟨H2,il⟩:∃H2,H1.push (fe 0 X2 Y2 C2 T2 L2 Z2)=H2:=⟨_,rfl⟩;have s1:b8 aj (H1.push (fe 0 nl nl nl nl nl nl)) 66 (.ptr (.box H1.boxes.length) 0) (.agg (fe 0 X2 Y2 C2 T2 L2 Z2))=aa H2:=by rw[<-il];exact jt cells HO rfl rfl
 by_cases h80:z.length<=80;rotate_left 1
 ·have g:(80:Int)<((z.length:Nat):Int):=by omega
  clear hx hy hr hw hn ht hz x1 bD oy hu cr q1 q2 q3 q4 q5 q6 q7 cells il h80 ej ji pE;unfold im at *
  repeat' (first|simp(maxSteps:=9999999) (disch:=first|exact dZ|fail) only[gW,reduceIte,aY,aR,rs11,bK, *]|refine dX ?_ ?_<;>(intro _;try omega))
  exact⟨_,_,rfl,rfl⟩
 have cV:(bF (bu::bC)).length<=1000000:=by unfold bF;rw[bJ,cr.sl];omega
 have dy:(ft ar N).length<=1000000:=by rw[J9];omega
 have zE:(kQ ae ag (bu::bC) ar N (ft ar N) text).length=ar.length:=Co;have oC:(kQ ae ag (bu::bC) ar N (ft ar N) text).length<=1000000:=by omega
 have Oy:0<ar.length:=aat.2 cr.ne;have t2:H2.boxes[H1.boxes.length]?=aa (fe 0 X2 Y2 C2 T2 L2 Z2):=by rw[<-il];exact bp _ _
 have ok2:dj H2=ai:=by rw[<-il];exact oy
 have l2:=qF t2;obtain⟨_,H3,k3,e3,rfl⟩:=FE H2 0 X2 Y2 C2 T2 L2 Z ae ag (bF (bu::bC)) text (ft ar N) z g1 g2 g3 g4 g5 cV dy ah (.inl hz) ah;obtain⟨sE,sS,fine,e0,oq⟩:∃sE sS fine e0,oh ae ag 0 (bF (bu::bC)) text (ft ar N) z=((sE,sS),fine,e0):=⟨_,_,_,_,rfl⟩;rw[oq] at k3;obtain⟨H4,tf⟩:∃H4,H3.push [im sE,im sS]=H4:=⟨_,rfl⟩;have s4:=EB (H:=H3) sE sS;have e4:Ext H3 H4:=by rw[<-tf];exact .push _ _
 have t4:=e4.box _ _ (e3.box _ _ t2);have l4:=qF t4;obtain⟨_,H5,k5,e5,B5,rfl,zD⟩:=Fw H4 ((e3.trans e4).ok ok2) 0 X2 Y2 C2 T2 L2 Z ae ag (bF (bu::bC)) text (ft ar N) z g1 g2 g3 g4 g5 cV dy (.inl hz) ah;obtain⟨bad,e1,zJ⟩:∃bad e1,rD ae ag 0 (bF (bu::bC)) text (ft ar N) z=(bad,e1):=⟨_,_,rfl⟩;rw[zJ] at k5 zD;have lnB:dN aj 23 B5=aa (.v (.int .i64 (bad.length:Nat))):=zD.dN;have UO:(e0=1/\e1=1/\fine=ay/\bad=[])∨(e0=0/\e1=0/\fine=ai)∨(e0=0/\e1=0/\fine=ay/\bad≠[]):=by
  cases hk:jV (ft ar N) z with
  |false=>rw[cr.Td hk] at oq;rw[cr.Sw hk] at zJ;simp only[cW] at oq zJ;exact .inl ⟨oq.2.2.symm,zJ.2.symm,oq.2.1.symm,zJ.1.symm⟩|true=>
   have uf:e1=0:=(by have:=cr.IH hk;rw[zJ] at this;exact(Prod.mk.inj this).2);rw[cr.Te hk] at oq;cases hv:ny (al (bF (bu::bC)) 0) text ((dR (al (bF (bu::bC)) 0) text (ft ar N):Nat):Int) (z.foldl cS 0) with|true=>rw[hv,aD rfl] at oq;simp only[cW] at oq;exact .inr (.inl ⟨oq.2.2.symm,uf,oq.2.1.symm⟩)|false=>rw[hv,aG bG] at oq;simp only[cW] at oq;refine .inr (.inr ⟨oq.2.2.symm,uf,oq.2.1.symm,λq=>?_⟩);have hzp:=cr.aju hk (by rw[zJ];exact q);rw[hzp,cr.HB] at hv;cases hv
 have t5:=e5.box _ _ t4;have l5:=qF t5;have ok5:dj H5=ai:=((e3.trans e4).trans e5).ok ok2;have kB:=aq.mk zD;have kO:=aq.mk (ax hx (ax ht (ax hw hz)));clear oq zJ zD e3 e4 e5 t2 t4 hx hy hr hw hn ht hz x1 bD oy hu cells il ej ji pE ok2;refine run_mid 7 (λe2 K=>e2.get 3=W/\e2.get 5=T/\e2.get 7=.v (.int .u8 which)/\e2.get 8=im by_/\e2.get 19=.ptr (.box H1.boxes.length) 0/\e2.defers=[]/\H5=K) ?_ ?_
 ·intro b hm;have kb:=aq.mk hm;clear cr q1 q2 q3 q4 q5 q6 q7 g1 g2 g3 g4 g5 g6 cV dy zE oC Oy hm ok5 t5 l5 kO;rcases UO with⟨rfl,rfl,rfl,rfl⟩|⟨rfl,rfl,rfl⟩|⟨rfl,rfl,rfl,bE⟩
  ·have nL:((([]:List Int).length:Nat):Int)=0:=rfl;unfold im at *
   repeat' (first|simp(maxSteps:=9999999) (disch:=first|exact dZ|fail) only[gW,reduceIte,aY,aR,rs11,bK,sV,Code.repl, *]|refine dX ?_ ?_<;>(intro _;try omega))
   refine kb.out _ _ ⟨?_,?_,?_,?_,?_,?_,?_⟩<;>first|rfl|(simp only[gW,reduceIte,aY,aR];done)|(exact gA)
  ·unfold im at *
   repeat' (first|simp(maxSteps:=9999999) (disch:=first|exact dZ|fail) only[gW,reduceIte,aY,aR,rs11,bK,sV,Code.repl, *]|refine dX ?_ ?_<;>(intro _;try omega))
   refine kb.out _ _ ⟨?_,?_,?_,?_,?_,?_,?_⟩<;>first|rfl|(simp only[gW,reduceIte,aY,aR];done)|(exact gA)
  ·have jr:¬((bad.length:Nat):Int)=0:=(by have:=aat.2 bE;omega);clear bE;unfold im at *
   repeat' (first|simp(maxSteps:=9999999) (disch:=first|exact dZ|fail) only[gW,reduceIte,aY,aR,rs11,bK,sV,Code.repl, *]|refine dX ?_ ?_<;>(intro _;try omega))
   refine kb.out _ _ ⟨?_,?_,?_,?_,?_,?_,?_⟩<;>first|rfl|(simp only[gW,reduceIte,aY,aR];done)|(exact gA)
 rintro e2 _ ⟨d3,d5,d7,d8,d19,dd,rfl⟩;simp only[Code.tl];clear UO c1 c2 s1 l2 k3 s4 l4 k5 lnB kB lnZ;by_cases zI:1<=by_/\by_<1073741789;rotate_left 1
 ·have kg:aq (¬(1<=by_/\by_<1073741789)):=⟨zI⟩;clear zI;clear cr q1 q2 q3 q4 q5 q6 q7 g1 g2 g3 g4 g5 g6 cV dy zE oC Oy;by_cases h3:by_<1
  ·unfold im at *
   repeat' (first|simp(maxSteps:=9999999) (disch:=first|exact dZ|fail) only[gW,reduceIte,aY,aR,rs11, *]|refine dX ?_ ?_<;>(intro _;try omega))
   exact⟨_,_,rfl,rfl⟩
  ·have h4:1073741789<=by_:=(by have:=kg.out;omega);unfold im at *
   repeat' (first|simp(maxSteps:=9999999) (disch:=first|exact dZ|fail) only[gW,reduceIte,aY,aR,rs11, *]|refine dX ?_ ?_<;>(intro _;try omega))
   exact⟨_,_,rfl,rfl⟩
 obtain⟨jI,fG⟩:=zI;obtain⟨i,hi,hiw,DG⟩:∃i:Nat,i<ar.length/\which%(ar.length:Int)=(i:Int)/\which.tmod ((ar.length:Nat):Int)=(i:Int):=by have h0:=Ia which (show((ar.length:Nat):Int)≠0 by omega);have h1:=HZ which (show(0:Int)<((ar.length:Nat):Int) by omega);refine⟨(which%(ar.length:Int)).toNat,by omega,by omega,?_⟩;rw[CM hwh.1];omega
 have wwh:IntKind.i64.wrap which=which:=fh ah ah;have nz:¬((ar.length:Nat):Int)=0:=by omega
 have lnP:=g6.dN;rw[zE] at lnP;have eV:okF (qY ae ag (bu::bC) ar N (ft ar N) text i):=Pt i;have hQ:Qi=1073741789:=rfl;obtain⟨p0a,p0b⟩:=eV;have a0:al (kQ ae ag (bu::bC) ar N (ft ar N) text) i=qY ae ag (bu::bC) ar N (ft ar N) text i:=GV hi;obtain⟨jr,rQ⟩:=cr.Sx hi (v:=(qY ae ag (bu::bC) ar N (ft ar N) text i+by_)%1073741789) ⟨Ia _ aO,HZ _ aO⟩ ah;have oq:=cr.Te rQ;generalize Du:kQ ae ag (bu::bC) ar N (ft ar N) text=PU at *
 generalize iN:qY ae ag (bu::bC) ar N (ft ar N) text i=v0 at *
 have w0:IntKind.i64.wrap (v0+by_)=v0+by_:=fh ah ah;have r0:(v0+by_).tmod 1073741789=(v0+by_)%1073741789:=CM ah;generalize (v0+by_)%1073741789=u0 at *
 have th:=thaw_copy (H:=H5) g6 (by intro q;rw[q] at zE;simp at zE;omega) oC;obtain⟨H6,tg⟩:∃H6,H5.push (PU.map im)=H6:=⟨_,rfl⟩;rw[tg] at th;have e6:Ext H5 H6:=by rw[<-tg];exact .push _ _
 have z6:H6.boxes[H5.boxes.length]?=aa (PU.map im):=by rw[<-tg];exact bp _ _
 have ixP:dx aj 23 (.arr H5.boxes.length 0 PU.length PU.length) (.v (.int .i64 (i:Int)))=aa (.ptr (.box H5.boxes.length) i):=ur ah;have y0:aF aj Gt H6 3 (.ptr (.box H5.boxes.length) i)=aa (.v (.int .i64 v0)):=by rw[<-a0];exact yy z6 (wY ah)
 have st0:=Ez (x:=u0) z6 (k:=i) ah;obtain⟨H7,Jh⟩:∃H7,H6.put H5.boxes.length ((PU.set i u0).map im)=H7:=⟨_,rfl⟩;rw[Jh] at st0;have z6l:=(aQ.1 z6).1;have z7:H7.boxes[H5.boxes.length]?=aa ((PU.set i u0).map im):=by rw[<-Jh];exact ey z6l
 have e7:Ext H5 H7:=by rw[<-Jh];exact e6.fI (aJ _) _
 have Nh:IS H7 (.arr H5.boxes.length 0 PU.length PU.length) (PU.set i u0):=.inr ⟨_,by simp,z7⟩;have t6:=e6.box _ _ t5;have l6:=qF t6;have t7:=e7.box _ _ t5;have l7:=qF t7;obtain⟨_,H8,k8,e8,rfl⟩:=FE H7 0 X2 Y2 C2 T2 L2 _ ae ag (bF (bu::bC)) text (ft ar N) _ g1 g2 g3 g4 g5 cV dy ah Nh (by simp;omega);rw[oq] at k8;generalize uh:((dR (al (bF (bu::bC)) 0) text (ft ar N):Nat):Int)=ch at *
 generalize DS:(PU.set i u0).foldl cS 0=sm at *
 have mq:0<(bF (bu::bC)).length:=by unfold bF;simp
 have ixC:dx aj 23 C2 (.v (.int .i64 0))=aa (.elem 1 (ints (bF (bu::bC))) 0 0):=g3.ix (i:=0) mq;have ldC:∀K:ao,aF aj Gt K 3 (.elem 1 (ints (bF (bu::bC))) 0 0)=aa (.v (.int .i64 (al (bF (bu::bC)) 0))):=λK=>fP mq;have vf:=aoh (al (bF (bu::bC)) 0) ch sm T text kO.out.2.1 ah;generalize Ae:ny (al (bF (bu::bC)) 0) text ch sm=vv at *
 obtain⟨aE,aS,yc,Ni⟩:∃aE aS,(if vv=ai then ((ch,sm),ai,(0:Int)) else ((0,0),ay,0))=((aE,aS),vv,0)/\(vv=ai->aE=ch/\aS=sm)/\(vv=ay->aE=0/\aS=0):=by
  cases vv with|true=>exact⟨ch,sm,rfl,λ_=>⟨rfl,rfl⟩,λq=>by cases q⟩|false=>exact⟨0,0,rfl,(λq=>by cases q),λ_=>⟨rfl,rfl⟩⟩
 rw[yc] at k8;obtain⟨H9,Nf⟩:∃H9,H8.push [im aE,im aS]=H9:=⟨_,rfl⟩;have s9:=EB (H:=H8) aE aS;have e9:Ext H8 H9:=by rw[<-Nf];exact .push _ _
 have E9:=e8.trans e9;have t9:=E9.box _ _ t7;have l9:=qF t9;have f9:H9.boxes[H8.boxes.length]?=aa [im aE,im aS]:=by rw[<-Nf];exact bp _ _
 obtain⟨_,Ha,ka,ea,Ba,rfl,M8⟩:=Fw H9 ((e7.trans E9).ok ok5) 0 X2 Y2 C2 T2 L2 _ ae ag (bF (bu::bC)) text (ft ar N) _ g1 g2 g3 g4 g5 cV dy (Nh.mono λc cs q=>E9.box _ _ q) (by simp;omega);rw[jr] at ka M8;have la:=qF (ea.box _ _ t9);have lS:=Ce (ea.box _ _ f9);have vt:=kO.out.2.2.1.ix hi;have ldW:∀K:ao,aF aj Gt K 3 (.elem 1 (ints ar) i 0)=aa (.v (.int .i64 (al ar i))):=λK=>fP hi;have bw:=rC (al ar i);have sm7:=Yk Ba (.list .tight 1 (ints [al ar i])) [al ar i] [al ar i] M8 ⟨_,_,rfl,λ_=>rfl⟩ bG bG;rw[cz rfl] at sm7;change ∀h,W7.call 37 [Ba,.list .tight 1 [[.v (.int .i64 (al ar i))]]] h=_ at sm7;have hiI:0<=(i:Int):=by omega
 have BS:aq (vv=ai->aE=ch/\aS=sm):=⟨Ni.1⟩;have aho:aq (vv=ay->aE=0/\aS=0):=⟨Ni.2⟩;have bn:=bd50n;have eq0:=λ(x y:Operand)=>ae8 (x:=x) (y:=y) 0 0;clear yc Ni cr q1 q2 q3 q4 q5 q6 q7 cV dy zE oC Oy hi hiw p0a p0b jr rQ oq Du iN tg e6 z6 Jh z6l z7 e7 Nh t5 t6 t7 e8 uh DS mq Ae e9 E9 t9 f9 ea M8 g1 g2 g3 g4 g5 g6 a0 hQ ok5;generalize al (bF (bu::bC)) 0=key at *
 generalize ints (bF (bu::bC))=ic at *
 generalize al ar i=wi at *
 generalize ints ar=iw at *
 have nL:((([]:List Int).length:Nat):Int)=0:=rfl;cases vv with
 |true=>
  obtain⟨rfl,rfl⟩:=BS.out rfl;unfold im at *
  repeat' (first|simp(maxSteps:=9999999) (disch:=first|exact dZ|fail) only[gW,reduceIte,aY,aR,rs11,bK,sV,bl23n,FH, *]|refine dX ?_ ?_<;>(intro _;try omega))
  refine fQ A2 aw ?_
  repeat' (first|simp(maxSteps:=9999999) (disch:=first|exact dZ|fail) only[gW,reduceIte,aY,aR,rs11,sV,ml, *]|refine dX ?_ ?_<;>(intro _;try omega))
  exact⟨_,_,rfl,rfl⟩
 |false=>
  obtain⟨rfl,rfl⟩:=aho.out rfl;have s9b:b8 aj H9 50 (.ptr (.box H8.boxes.length) 0) (.agg [im 0,im 0])=aa H9:=by rw[<-Nf];exact EB 0 0
  unfold im at *
  repeat' (first|simp(maxSteps:=9999999) (disch:=first|exact dZ|fail) only[gW,reduceIte,aY,aR,rs11,bK,sV,bl23n,FH, *]|refine dX ?_ ?_<;>(intro _;try omega))
  exact⟨_,_,rfl,rfl⟩
end Go.Proofs.YtnfciiiohoafaaaGreatDoor
end
section
namespace Go.Proofs.YtnfciiiohoafaaaGreatDoor
open Go.AE Go.NT Go.RowKit
def aov:ownKnob aj.godebug=none:=aw
def aot:(aj.funcs.all λfn=>match fn.body with|some c=>codeOk fn.ntmps c|none=>ai)=ai:=aw
def aou : (aj.funcs.all λfn => !(fn.name == "runtime.NumGoroutine")) = ai := aw
def Ay:Prog aj:=⟨λg fn h=>by
 have:=K6.1 aou fn (ZC h);simpa using this,aw,λg fn c h hb=>by
 have:=K6.1 aot fn (ZC h);simpa [hb] using this⟩
def Bi:∀g cs,Gt g=aa cs->bg 0 0 0 cs=ai:=by
 intro g cs h;unfold Gt at h;split at h
 ·injection h with h;subst h;kernel_rfl
 ·split at h
  ·injection h with h;subst h;kernel_rfl
  ·split at h
   ·injection h with h;subst h;rfl
   ·cases h
noncomputable def ac9(L:List bq):Bool:=L.all λg=>match aj.funcs[g]? with|some fn=>fn.body.isSome|none=>ay
def xS{L}(h:ac9 L=ai):∀g∈L,∃fn,aj.funcs[g]?=aa fn/\fn.body.isSome=ai:=by
 intro g hg;have:=eE.1 h g hg;split at this
 ·rename_i fn hf;exact⟨fn,hf,this⟩
 ·cases this
def y5(p:bq->Option (List AV->ao->Option (AV × ao))):Prop:=∀V g q,p g=aa q->sP aj Gt V g q
def akh:y5 aK:=λV g q h=>by cases h
def aki:y5 PC:=C9 Ay Bi akh (xS aw)
def akj:y5 PD:=C9 Ay Bi aki (xS aw)
def akk:y5 Xo:=C9 Ay Bi akj (xS aw)
def akl:y5 Ei:=C9 Ay Bi akk (xS aw)
def akm:y5 Ej:=aiT Ay Bi akl (xS aw) (xS aw)
def akn:y5 PE:=C9 Ay Bi akm (xS aw)
def HH:List Int:=NT.start.map λv=>((v.toNat:Nat):Int)
def GP:List Int:=NT.D2.map λ(n:Nat)=>(n:Int)
def Zf{K}{l:List Int}:aM K (l.map λn=>AV.v (.int .u32 n)) (l.map λn=>Value.int .u32 n):=by
 induction l with
 |nil=>exact .nil|cons n l ih=>exact .cons _ _ _ _ (.v _ rfl) ih
def af7{W}(h:laidMetH aj Rows.partialSignsRow.laid W):∀g cs,Gt g=aa cs->∃cells,aM (aP.init W) cs cells/\∀(j:Nat) (c:aL),cells[j]?=aa c->W.cell? ⟨g,j,none⟩=aa c:=by
 rw[MakeChecks.laidMetH_plain _ _ _ aw] at h;have e1:(Lib.tabData .u32 HH:DataW Unit)=Rows.laid_signatory_digest_start:=aw;have e2:(Lib.tabData .u32 GP:DataW Unit)=Rows.laid_signatory_digest_numbers:=aw;intro g cs hg;unfold Gt at hg;split at hg
 ·rename_i h0;injection hg with hg;subst hg;subst h0;have t := Lib.tabIs_of_head (n := 8) (g := 0) (t := 229) (e := 42) (zs := HH) (k := .u32) (name := "signatory/digest.start") aw aw aw aw aw aw (by rw [e1]; exact h);refine⟨HH.map λn=>Value.int .u32 n,?_,λj c hc=>?_⟩
  ·have:Qy=HH.map λn=>AV.v (.int .u32 n):=(by unfold Qy HH aN;rw[AL];rfl);rw[this];exact Zf
  ·rw[eR,dt] at hc;obtain⟨n,hn,rfl⟩:=hc;have hl:=(aQ.1 hn).1;rw[t.cell aw j hl,eQ,hn];rfl
 ·split at hg
  ·rename_i _ h0;injection hg with hg;subst hg;subst h0;have t := Lib.tabIs_of_head (n := 64) (g := 1) (t := 242) (e := 42) (zs := GP) (k := .u32) (name := "signatory/digest.numbers") aw aw aw aw aw aw (by rw [e2]; exact h.tail);refine⟨GP.map λn=>Value.int .u32 n,?_,λj c hc=>?_⟩
   ·have:GO=GP.map λn=>AV.v (.int .u32 n):=(by unfold GO GP;rw[AL];rfl);rw[this];exact Zf
   ·rw[eR,dt] at hc;obtain⟨n,hn,rfl⟩:=hc;have hl:=(aQ.1 hn).1;rw[t.cell aw j hl,eQ,hn];rfl
  ·split at hg
   ·injection hg with hg;subst hg;exact⟨[],.nil,λj c hc=>by simp at hc⟩
   ·cases hg
section
variable {H:Type}
def SX:aj.cellsOf 3=1:=aw
def cc5:aj.cellsOf 5=1:=aw
def adN:aj.cellsOf 22=1:=aw
def SW:aj.cellsOf 23=1:=aw
def adO:aj.cellsOf 25=2:=aw
def apO:HK aj 25 [(22,0),(23,1)]=ai:=aw
def UF{cs:List AV}{d:DataW H}(h:Has aj 23 cs d):∃x l,cs=[x]/\IL x l:=by
 obtain⟨k,es,rfl,hl,-,-,he⟩:=h.Ey eY;obtain⟨l,rfl⟩:∃l:List Int,es=l.map vq:=PS λr hr=>by obtain⟨-,d,hd⟩:=he r hr;obtain⟨n,hn,-⟩:=hd.DY CZ;exact⟨n,hn⟩
 exact⟨_,l,rfl,k,_,rfl,λ_=>SX⟩
def agp{cs:List AV}{d:DataW H}(h:Has aj 22 cs d):∃x ae,cs=[x]/\RL x ae:=by
 obtain⟨k,es,rfl,hl,-,-,he⟩:=h.Ey Tryz.underlying22;have hh:∀r∈es,∃x l,r=[x]/\IL x l:=λr hr=>by obtain⟨-,d,hd⟩:=he r hr;exact UF hd
 clear hl he;have key:∀es:List (List AV),(∀r∈es,∃x l,r=[x]/\IL x l)->∃(xs:List AV) (ae:List (List Int)),es=xs.map (λa=>[a])/\xs.length=ae.length/\∀(i:Nat) (a:AV) (r:List Int),xs[i]?=aa a->ae[i]?=aa r->IL a r:=by
  intro es
  induction es with
  |nil=>intro _;exact⟨[],[],rfl,rfl,λi a r ha=>by simp at ha⟩|cons e es ih=>
   intro hh;obtain⟨x,l,rfl,hx⟩:=hh e ga;obtain⟨xs,ae,rfl,h1,h2⟩:=ih λr hr=>hh r (fR _ hr);refine⟨x::xs,l::ae,rfl,by simp[h1],λi a r ha hr=>?_⟩;cases i with|zero=>simp at ha hr;subst ha;subst hr;exact hx|succ i=>exact h2 i a r (by simpa using ha) (by simpa using hr)
 obtain⟨xs,ae,rfl,h1,h2⟩:=key es hh;exact⟨_,ae,rfl,k,_,xs,rfl,λ_=>SW,h1,h2⟩
def ago{x:AV}{d:DataW H}(h:lq aj 25 x d):∃X Y ae ag,x=.agg [X,Y]/\RL X ae/\IL Y ag:=by obtain⟨xs,rfl,hl,hg⟩:=h.fields apO;rw[adO] at hl;obtain⟨a,b,rfl⟩:=Wn hl;obtain⟨_,q0⟩:=hg 0 22 0 rfl;obtain⟨_,q1⟩:=hg 1 23 1 rfl;rw[adN] at q0;rw[SW] at q1;obtain⟨X,ae,e1,hx⟩:=agp q0;obtain⟨Y,ag,e2,hy⟩:=UF q1;simp at e1 e2;subst e1;subst e2;exact⟨_,_,ae,ag,rfl,hx,hy⟩
def agn{x:AV}{d:DataW H}(h:lq aj 28 x d):∃l:List UInt8,BL x l:=by
 obtain⟨k,es,rfl,h2,-,-,h4⟩:=h.Ey Tryz.underlying28;obtain⟨l,rfl⟩:=PS (f:=jQ) λr hr=>by obtain⟨-,d,h5⟩:=h4 r hr;exact h5.QN aw
 exact⟨l,k,_,rfl,λ_=>cc5⟩
end
def Wb:List aH:=[3,4,5,22,23,25,42,43,44,28]
def ako:y5 Kb:=C9 Ay Bi akn (xS aw)
section
variable {H:Type}
def Jj{x:AV}{d:DataW H}(h:lq aj 23 x d):∃l,IL x l/\l.length<=9223372036854775807:=by
 obtain⟨k,es,rfl,hl,-,-,he⟩:=h.Ey eY;obtain⟨l,rfl⟩:∃l:List Int,es=l.map vq:=PS λr hr=>by obtain⟨-,d,hd⟩:=he r hr;obtain⟨n,hn,-⟩:=hd.DY CZ;exact⟨n,hn⟩
 refine⟨l,⟨k,_,rfl,λ_=>SX⟩,?_⟩;rw[bJ] at hl;exact fc hl aO
def agm{x:AV}{d:DataW H}(h:lq aj 5 x d):∃n:Int,x=.v (.int .u8 n)/\0<=n/\n<256:=by have u5:aj.underlying 5=aa (.int .u8):=aw;obtain⟨n,h1,h2,h3⟩:=(h.plain (λ_ hq=>by rw[u5] at hq;cases hq) (λ_ _ hq=>by rw[u5] at hq;cases hq)).OF u5;injection h1 with h1;simp[IntKind.min,IntKind.max,IntKind.signed,IntKind.bits] at h2 h3;exact⟨n,h1,h2,by omega⟩
end
end Go.Proofs.YtnfciiiohoafaaaGreatDoor
end
section
namespace Go.AE
open Go.RowKit Go.WideShapes Go.ChangeShapes
def GQ(P:bB)(S:List aH)(t:aH):Bool:=
 match P.underlying t with
 |some .bool|some (.int _)|some .string=>ai
 |some (.slice e)=>S.contains e&&decide (0<P.cellsOf e)
 |some (.struct fs)=>Cv P 0 fs.toList (P.cellsOf t)&&fs.toList.all λf=>S.contains f.type
 |some (.array m e)=>Nat.beq (P.cellsOf t) (m * P.cellsOf e)&&S.contains e
 |_=>ay
def J4(P:bB)(S:List aH):Bool:=S.all (GQ P S)
section
variable {H:Type} {enc:aH × aL->H} {P:bB} {W:World}
def aqp{S:List aH}(hS:J4 P S=ai):∀(fuel:Nat) (t:aH) (cs:List aL) (x:DataW H × List MemPlace),DataW.trod enc P W 0 (λ_=>ai) ai fuel t cs=aa x->S.contains t=ai->
 ∃xs,aM (aP.init W) xs cs/\xs.all AV.dW=ai/\Has P t xs x.1:=by
 intro fuel
 induction fuel with
 |zero=>intro t cs x h;simp[DataW.trod] at h|succ fuel ih=>
  intro t cs x h lU;have bD:GQ P S t=ai:=eE.1 hS t (by simpa using lU);unfold GQ at bD;split at bD
  ·rename_i hu;obtain⟨b,rfl,rfl⟩:=DataW.trod_bool hu h;exact⟨_,.cons _ _ _ _ (.v _ rfl) .nil,rfl,.bool hu b⟩
  ·rename_i k hu;obtain⟨m,rfl,rfl,hw⟩:=DataW.trod_int hu h;exact⟨_,.cons _ _ _ _ (.v _ rfl) .nil,rfl,.int hu m hw⟩
  ·rename_i hu;obtain⟨s,rfl,rfl,hs⟩:=DataW.trod_string hu h;exact⟨_,.cons _ _ _ _ (.v _ rfl) .nil,rfl,.str hu s hs⟩
  ·rename_i e hu;rw[bA,decide_eq_true_eq] at bD;obtain⟨ahk,mq⟩:=bD;rcases DataW.trod_slice hu h with⟨rfl,rfl⟩|⟨a,len,aA,elems,rest,m,hm,rfl,rfl,-,NX,wJ,F8,agL,ahw,-⟩
   ·exact⟨_,.cons _ _ _ _ (.nil _) .nil,rfl,.none hu⟩
   ·have hm:m=fuel:=(by omega);subst hm;obtain⟨ej,BS⟩:=ahw rfl;have elemAt:∀i,i<len->∃vs r y,W.cells? 0 (a.add (i * P.cellsOf e)) (P.cellsOf e)=aa vs/\elems[i]?=aa y/\aM (aP.init W) r vs/\r.all AV.dW=ai/\Has P e r y.1:=by
     intro i hi;have h1:=agL i hi;rw[a9 (by omega:i<elems.length)] at h1;cases hc:W.cells? 0 (a.add (i * P.cellsOf e)) (P.cellsOf e) with
     |none=>rw[hc] at h1;cases h1
     |some vs=>rw[hc] at h1;obtain⟨r,g1,g2,g3⟩:=ih e vs _ h1 ahk;exact⟨vs,r,_,rfl,a9 _,g1,g2,g3⟩
    by_cases je:aA=0
    ·have bO:len=0:=(by omega);subst je;subst bO;have he:elems=[]:=List.eq_nil_of_length_eq_zero F8;subst he;refine⟨[.list .tight (P.cellsOf e) []],.cons _ _ _ _ (.iY _ _) .nil,rfl,?_⟩;show Has P t _ (.slice [] (rest.map (·.1)));exact .list hu .tight [] [] (rest.map (·.1)) (.inr ⟨rfl,rfl⟩) (df _) rfl bG bG
    ·-- the block is there
     have VH:a.spot=none:=by
      have:∃vs,W.cells? 0 (a.add 0) (P.cellsOf e)=aa vs:=by
       rcases Nat.eq_zero_or_pos len with h0|h0
       ·have h1:=BS 0 ah;rw[a9 (by omega:0<rest.length)] at h1;cases hc:W.cells? 0 (a.add ((len+0) * P.cellsOf e)) (P.cellsOf e) with
        |none=>rw[hc] at h1;cases h1
        |some vs=>rw[h0] at hc;exact⟨vs,by simpa using hc⟩
       ·obtain⟨vs,_,_,hc,_⟩:=elemAt 0 h0;exact⟨vs,by simpa using hc⟩
      obtain⟨vs,fH⟩:=this;obtain⟨hl,hg⟩:=SZ fH;have h0:=hg 0 mq;rw[a9 (by omega:0<vs.length)] at h0;have:(a.add 0).add 0=a:=(by simp[Addr.add]);rw[this] at h0;exact ao4 h0
     obtain⟨g,off,sp⟩:=a;simp only at VH;subst VH;have ae:∀k,k<=len->∃es:List (List AV),es.length=k/\(∀r∈es,r.length=P.cellsOf e/\r.all AV.dW=ai)/\(∀(i:Nat) (r:List AV) (d:DataW H),es[i]?=aa r->(elems.map (·.1))[i]?=aa d->Has P e r d)/\
      ∃cells:List aL,cells.length=k * P.cellsOf e/\aM (aP.init W) es.flatten cells/\∀(j:Nat) (c:aL),cells[j]?=aa c->W.cell? ⟨g,off+j,none⟩=aa c:=by
      intro k
      induction k with
      |zero=>intro _;exact⟨[],rfl,by simp,by simp,[],by simp,.nil,by simp⟩|succ k ihk=>
       intro hk;obtain⟨es,e1,e2,e3,cells,c1,c2,c3⟩:=ihk ah;obtain⟨vs,r,y,hc,hy,g1,g2,g3⟩:=elemAt k ah;obtain⟨pH,hvg⟩:=SZ hc;refine⟨es++[r],by simp[e1],λr' fN=>?_,λi r' d hi hd=>?_,cells++vs,by simp[c1,pH,fW],?_,λj c hj=>?_⟩
       ·rcases List.mem_append.1 fN with h1|h1
        ·exact e2 r' h1
        ·simp only[List.mem_singleton] at h1;subst h1;exact⟨by rw[g1.length,pH],g2⟩
       ·rcases rM hi with h1|⟨h1,rfl⟩
        ·exact e3 i r' d h1 hd
        ·rw[h1,e1,eR,hy] at hd;simp only[eX,dE] at hd;subst hd;exact g3
       ·rw[List.flatten_append];simpa using c2.append g1
       ·rcases dT j cells.length with h1|h1
        ·rw[List.getElem?_append_left h1] at hj;exact c3 j c hj
        ·rw[List.getElem?_append_right h1] at hj;have oW:j - cells.length<P.cellsOf e:=(by have:=(aQ.1 hj).1;omega);have h2:=hvg _ oW;rw[hj,Addr.mh,Addr.mh] at h2;rw[(ah:off+j=off+k * P.cellsOf e+(j - cells.length))];exact h2
     obtain⟨es,e1,e2,e3,cells,c1,c2,c3⟩:=ae len (aJ _);have eI:es.flatten.all AV.dW=ai:=(by rw[List.all_flatten];simp only[eE];intro r hr;have:=(e2 r hr).2;simpa using this);refine⟨[.list .held (P.cellsOf e) es],.cons _ _ _ _ (.list .held (P.cellsOf e) es g off len aA cells e1.symm (λr hr=>(e2 r hr).1) c2 c3 ⟨NX,trivial⟩ eI) .nil,rfl,?_⟩;exact .list hu .held es (elems.map (·.1)) (rest.map (·.1)) (.inl rfl) ah (by simp[e1,F8]) e3 (λr hr=>(e2 r hr).1)
  ·rename_i fs hu;rw[bA,eE] at bD;obtain⟨ahB,eI⟩:=bD;obtain⟨ys,m,hm,rfl,cV,yo,rN⟩:=DataW.trod_struct hu h;have hm:m=fuel:=(by omega);subst hm;have fld:∀(i:Nat) (f:Field),fs[i]?=aa f->∃r y,ys[i]?=aa y/\aM (aP.init W) r ((cs.drop f.offset).take (P.cellsOf f.type))/\r.all AV.dW=ai/\Has P f.type r y.1:=(by intro i f hf;have h1:=rN i f hf;have az:i<ys.length:=(by rw[yo];exact(CB.1 hf).1);rw[a9 az] at h1;obtain⟨r,g1,g2,g3⟩:=ih f.type _ _ h1 (eI f (by obtain⟨hi,rfl⟩:=CB.1 hf;exact Array.mem_toList_iff.2 (Array.getElem_mem hi)));exact⟨r,_,a9 az,g1,g2,g3⟩);have build:∀(l:List Field) (i off:Nat),(∀j f,l[j]?=aa f->fs[i+j]?=aa f)->Cv P off l (P.cellsOf t)=ai->off<=cs.length->
    ∃xs,aM (aP.init W) xs (cs.drop off)/\xs.all AV.dW=ai/\∀j f,l[j]?=aa f->off<=f.offset/\∃r y,ys[i+j]?=aa y/\(xs.drop (f.offset - off)).take (P.cellsOf f.type)=r/\Has P f.type r y.1:=by
    intro l
    induction l with
    |nil=>intro i off _ ht _;have zV:off=P.cellsOf t:=jF ht;refine⟨[],?_,rfl,λj f hj=>by simp at hj⟩;rw[zV,<-cV,List.drop_length];exact .nil|cons f l ihl=>
     intro i off hl ht eC;rw[Cv,bA] at ht;have ho:f.offset=off:=jF ht.1;obtain⟨r,y,hy,g1,g2,g3⟩:=fld i f (by simpa using hl 0 f rfl);have Js:off+P.cellsOf f.type<=cs.length:=by
      rw[cV];have:∀(l:List Field) (o:Nat),Cv P o l (P.cellsOf t)=ai->o<=P.cellsOf t:=by
       intro l
       induction l with
       |nil=>intro o h;exact Nat.le_of_eq (jF h)|cons f l ih=>intro o h;rw[Cv,bA] at h;exact fc (Nat.le_add_right _ _) (ih _ h.2)
      exact this l _ ht.2
     obtain⟨xs,x1,x2,x3⟩:=ihl (i+1) (off+P.cellsOf f.type) (λj f' hj=>by
      have:=hl (j+1) f' (by simpa using hj)
      rwa [(ah:i+(j+1)=i+1+j)] at this) ht.2 Js
     rw[ho] at g1;have ej:r.length=P.cellsOf f.type:=(by rw[g1.length];simp;omega);refine⟨r++xs,?_,by rw[AI,g2,x2];rfl,λj f' hj=>?_⟩
     ·have:=g1.append x1;rw[<-xD,List.take_append_drop] at this;exact this
     ·cases j with|zero=>simp only[List.getElem?_cons_zero,dE] at hj;subst hj;refine⟨ah,r,y,hy,?_,g3⟩;rw[ho,Nat.sub_self,iB,<-ej,List.take_left]|succ j=>obtain⟨eo,r',y',hy',fN,hh⟩:=x3 j f' (by simpa using hj);refine⟨ah,r',y',by rw[(ah:i+(j+1)=i+1+j)];exact hy',?_,hh⟩;rw[show f'.offset - off=r.length+(f'.offset - (off+P.cellsOf f.type)) by omega,<-xD,aak];exact fN
   obtain⟨xs,x1,x2,x3⟩:=build fs.toList 0 0 (λj f hj=>by simpa using hj) ahB (df _);rw[iB] at x1;refine⟨xs,x1,x2,.struct hu xs (ys.map (·.1)) (by rw[x1.length,cV]) (by simp[yo]) λi f d hf hd=>?_⟩;obtain⟨-,r,y,hy,hr,hh⟩:=x3 i f (by simpa using hf);rw[nZ] at hy;rw[eR,hy] at hd;simp only[eX,dE] at hd;subst hd;rw[Nat.sub_zero] at hr;rw[hr];exact hh
  ·rename_i m e hu;rw[bA] at bD;have dV:P.cellsOf t=m * P.cellsOf e:=jF bD.1;obtain⟨ys,fu,U2,rfl,cV,yo,rN⟩:=DataW.trod_array hu h;have U2:fu=fuel:=(by omega);subst U2;have ae:∀k,k<=m->∃xs,aM (aP.init W) xs (cs.take (k * P.cellsOf e))/\xs.all AV.dW=ai/\∀i,i<k->∃y,ys[i]?=aa y/\Has P e ((xs.drop (i * P.cellsOf e)).take (P.cellsOf e)) y.1:=by
    intro k
    induction k with
    |zero=>intro _;exact⟨[],by simp;exact .nil,rfl,λi hi=>absurd hi (Nat.not_lt_zero i)⟩
    |succ k ihk=>
     intro hk;obtain⟨xs,x1,x2,x3⟩:=ihk ah;have h1:=rN k ah;rw[a9 (by omega:k<ys.length)] at h1;obtain⟨r,g1,g2,g3⟩:=ih e _ _ h1 bD.2;have bO:(k+1) * P.cellsOf e<=cs.length:=(by rw[cV,dV];exact nX _ hk);have ff:xs.length=k * P.cellsOf e:=(by rw[x1.length,List.length_take];rw[fW] at bO;omega);have ej:r.length=P.cellsOf e:=(by rw[g1.length];simp;rw[fW] at bO;omega);refine⟨xs++r,?_,by rw[AI,x2,g2];rfl,λi hi=>?_⟩
     ·have:=x1.append g1
      rwa [<-List.take_add,<-Nat.succ_mul] at this
     ·rcases dT i k with h2|h2
      ·obtain⟨y,hy,hh⟩:=x3 i h2;refine⟨y,hy,?_⟩;have h3:(i+1) * P.cellsOf e<=k * P.cellsOf e:=nX _ h2;rw[fW] at h3;rw[List.drop_append_of_le_length ah,List.take_append_of_le_length (by simp;omega)];exact hh
      ·have:i=k:=(by omega);subst this;refine⟨_,a9 ah,?_⟩;rw[<-ff,aak,<-ej,gM];exact g3
   obtain⟨xs,x1,x2,x3⟩:=ae m (aJ _);rw[<-dV,<-cV,gM] at x1;refine⟨xs,x1,x2,.array hu xs (ys.map (·.1)) (by rw[x1.length,cV]) (by simp[yo]) λi d hd=>?_⟩;have hi:i<m:=(by have:=(aQ.1 hd).1;simpa [yo] using this);obtain⟨y,hy,hh⟩:=x3 i hi;rw[eR,hy] at hd;simp only[eX,dE] at hd;subst hd;exact hh
  ·cases bD
def ab2{S:List aH}(hS:J4 P S=ai){t:aH}{v:aL}{d:DataW H}{p:List MemPlace}{base:Nat}(h:DataW.Trod enc P W 0 (λ_=>ai) ai t v d p)(hv:Value.okWide P W .any base t v)(lU:S.contains t=ai):
 ∃x,aU (aP.init W) x v/\lq P t x d:=by
 obtain⟨fuel,hf⟩:=h;obtain⟨xs,h1,h2,h3⟩:=aqp hS fuel t _ _ hf lU;have single:∀c,v.cells.toList=[c]->v=c->(∀cs,P.underlying t≠aa (.struct cs))->(∀m e,P.underlying t≠aa (.array m e))->∃x,aU (aP.init W) x v/\lq P t x d:=by
  intro c hc hvc hns hna;rw[hc] at h1;cases h1 with
  |cons x _ _ _ hx hs=>
   cases hs;refine⟨x,hvc ▸ hx,?_⟩;unfold lq;split
   ·rename_i hu;exact absurd hu (hns _)
   ·rename_i hu;exact absurd hu (hna _ _)
   ·exact h3
 have bD:GQ P S t=ai:=eE.1 hS t (by simpa using lU);unfold GQ at bD;unfold Value.okWide at hv;split at bD
 ·rename_i hu;rw[hu] at hv;simp only[Cell.okWide,Cell.ok,hu] at hv;cases v<;>simp at hv;exact single _ rfl rfl (by rw[hu];simp) (by rw[hu];simp)
 ·rename_i k hu;rw[hu] at hv;simp only[Cell.okWide,Cell.ok,hu] at hv;cases v<;>simp at hv;exact single _ rfl rfl (by rw[hu];simp) (by rw[hu];simp)
 ·rename_i hu;rw[hu] at hv;simp only[Cell.okWide,Cell.ok,hu] at hv;cases v<;>simp at hv;exact single _ rfl rfl (by rw[hu];simp) (by rw[hu];simp)
 ·rename_i e hu;rw[hu] at hv;simp only[Cell.okWide,Cell.ok,hu] at hv;cases v<;>simp at hv;exact single _ rfl rfl (by rw[hu];simp) (by rw[hu];simp)
 ·rename_i fs hu;rw[hu] at hv;obtain⟨cs,rfl,-,-⟩:=hv;exact⟨.agg xs,.agg _ _ h1,by unfold lq;rw[hu];exact⟨xs,rfl,h3⟩⟩
 ·rename_i m e hu;rw[hu] at hv;obtain⟨cs,rfl,-,-⟩:=hv;exact⟨.agg xs,.agg _ _ h1,by unfold lq;rw[hu];exact⟨xs,rfl,h3⟩⟩
 ·cases bD
def ab3{S:List aH}(hS:J4 P S=ai){base:Nat}:∀{ts:List aH} {vs:List aL} {ds:List (DataW H)} {p:List MemPlace},DataW.TrodAll enc P W 0 (λ_=>ai) ai ts vs ds p->
 (∀(j:Nat) t v,ts[j]?=aa t->vs[j]?=aa v->Value.okWide P W .any base t v)->(∀t∈ts,S.contains t=ai)->∃xs,aM (aP.init W) xs vs/\tT P ts xs ds:=by
 intro ts
 induction ts with
 |nil=>intro vs ds p h _ _;obtain⟨rfl,rfl,rfl⟩:=trodAll_nil h;exact⟨[],.nil,trivial⟩
 |cons t ts ih=>intro vs ds p h hv bD;obtain⟨v,vs',d,ds',p1,q1,rfl,rfl,rfl,h1,h2⟩:=trodAll_cons h;obtain⟨x,g1,g2⟩:=ab2 hS h1 (hv 0 t v rfl rfl) (bD t ga);obtain⟨xs,g3,g4⟩:=ih h2 (λj t v ht qi=>hv (j+1) t v (by simpa using ht) (by simpa using qi)) (λt ht=>bD t (fR _ ht));exact⟨x::xs,.cons _ _ _ _ g1 g3,g2,g4⟩
structure Rd(P:bB)(S:List aH)(f:bq)(fn:Func)(tb:aH):Prop where
 func:P.funcs[f]?=aa fn
 laid:laidOutB P=ai
 set:J4 P S=ai
 pO:∀t∈fn.params.toList,S.contains t=ai/\P.readableRec t=ai/\t<P.types.size
 res:fn.resultTypes=#[tb]
 bool:P.underlying tb=aa .bool
variable {G:Nat->Option (List AV)} {aK:bq->Option (List AV->ao->Option (AV × ao))}
def ah5{S:List aH}(hp:Prog P){f:bq}{fn:Func}{tb:aH}(F:Rd P S f fn tb){s:ChangeSpec}{apart fresh handsOn again:Bool}{base:Nat}{args:Array aL}{ds gs:List (DataW H)}{before:List MemPlace}
 (Gz:s.vars=[]) (ahx:∀ds:List (DataW H),ds.length=fn.params.size->(s.fn H ds).results=[.lit (.bool ai)]/\(s.fn H ds).args=ds/\(s.fn H ds).vars=[])
 (Ox:∀(j:Nat) t v,fn.params[j]?=aa t->args[j]?=aa v->Value.okWide P W .any base t v)
 (hW:DataW.Whole enc P fn.params.toList s.vars apart W args.toList ds gs before)
 (hG:∀g cs,G g=aa cs->∃cells,aM (aP.init W) cs cells/\∀(j:Nat) (c:aL),cells[j]?=aa c->W.cell? ⟨g,j,none⟩=aa c)
 (oA:∀g p,aK g=aa p->sP P G W g p)
 (agY:∀xs:List AV,tT P fn.params.toList xs ds->∃h',(whole P G aK).call f xs ao.init=aa (.ret (.v (.bool ai)),h')):
 Calls P f args W λe W'=>∃v,e=.returned v/\s.post enc P fn apart fresh handsOn again W args v W':=by
 have UC:=hW;obtain⟨p,q,hA,hV,UJ,Bv,N6⟩:=hW;have hV0:DataW.TrodVars enc P W (λ_=>ai) [] gs q:=Gz ▸ hV;obtain⟨rfl,rfl⟩:=trodVars_none hV0;rw[jv] at UJ;subst UJ;obtain⟨xs,Oz,eI⟩:=ab3 F.set hA (λj t v ht hv=>Ox j t v (by simpa using ht) (by simpa using hv)) (λt ht=>(F.pO t ht).1);obtain⟨h',tu⟩:=agY xs eI;have Gw:ki P G W (aP.init W) ao.init W:=aoN W hG;obtain⟨-,hc⟩:=(QV hp oA).call f xs ao.init _ _ tu;intro cs;obtain⟨K',w',fr,le,s',cd,wP,v,hx,hl⟩:=hc (aP.init W) W args Oz Gw cs;have hv:=hx.iA.1;subst hv;have hb:Below W.heap.size W w':=by have:=s'.cZ;rw[le.base] at this;exact this
 have bO:ds.length=fn.params.size:=by
  have:∀{ts:List aH} {xs:List AV} {ds:List (DataW H)},tT P ts xs ds->ds.length=ts.length:=by
   intro ts
   induction ts with
   |nil=>intro xs ds h;cases xs<;>cases ds<;>simp[tT] at h ⊢
   |cons t ts ih=>intro xs ds h;cases xs<;>cases ds<;>simp[tT] at h ⊢;exact ih h.2
  simpa using this eI
 obtain⟨r1,r2,r3⟩:=ahx ds bO;refine⟨.returned (.bool ai),w',fr,⟨_,rfl,?_⟩,cd,wP,hl⟩;refine akp (pa:=before) (pv:=[]) UC (λb sp hd=>?_) (λsp uo=>?_) (λsp _=>?_) bG hb (ok_one F.res rfl (okWide_bool_mk F.bool _))
 ·rw[F.res,jv,r1];exact trodAll_cons_mk (shut_bool F.bool _) trodAll_mk0
 ·rw[jv,r2];exact ab4 F.laid hA (λt ht=>(F.pO t ht).2) (λx hx=>hb.same (UC.lt x hx)) uo
 ·rw[Gz,jv,r3];exact rfl
end
end Go.AE
end
