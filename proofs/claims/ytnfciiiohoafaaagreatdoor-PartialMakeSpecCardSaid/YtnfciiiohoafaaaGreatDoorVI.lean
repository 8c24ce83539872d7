/-
  The engine, part 31: arguments of recursive types: a set of types, each made of others of the set.
-/
import Derived.Test.YtnfciiiohoafaaaGreatDoorVH
import Derived.Test.YtnfciiiohoafaaaGreatDoorVG
import Derived.Test.YtnfciiiohoafaaaGreatDoorVB
import Derived.LaidMore
import Derived.MakeChecks
import Derived.Stop.LaidErr
import Derived.Stop.Joined
import Derived.Lib.LaidTab
import Derived.Test.YtnfciiiohoafaaaGreatDoorRows
open Option renaming some->aa,none->ar,map_eq_some_iff->dy,map_some->eW,some.injEq->dM
open Bool renaming true->ai,false->az,and_self->abt,and_eq_true->bL,true_and->oc
open List renaming getD_eq_getElem?_getD->dS,getElem?_eq_getElem->aT,length_map->bE,all_eq_true->ej,getElem_mem->iG,all_eq_false->C8,mem_of_getElem?->dn,all_append->AW,take_length->fI,getElem?_map->ev,getElem?_eq_some_iff->aV,mem_map->ju,mem_singleton->lu,take_succ_cons->gl,take_zero->fm,foldl_cons->uJ,map_map->AZ,mem_cons_self->gj,mem_cons_of_mem->fN,drop_drop->xO,drop_zero->iX,drop_left->abV,append_nil->jX
open Go.Proofs.Tryz renaming underlying23->dN,underlying22->ir,underlying36->Dl,prog->aq,func170->acS,func131->acN,underlying29->uO,func4->Dk,underlying3->sV
open And renaming intro->av
open Nat renaming zero_le->cG,reduceEqDiff->aZ,le_refl->aM,le_of_ble_eq_true->jZ,not_lt_zero->qO,add_mul->gI,lt_or_ge->dV,eq_of_beq_eq_true->jP,mul_le_mul_right->om
open Int renaming toNat_natCast->dK
open Go renaming FuncId->bm,Value->aR,TypeId->aK,Program->bK
open Prod renaming fst->rM,mk.injEq->dj
open Array renaming all_eq_true'->LZ,mem_of_getElem?->abk,getElem?_eq_some_iff->CI
set_option maxHeartbeats 64000000
set_option maxRecDepth 100000
set_option linter.unusedSimpArgs false
set_option linter.unusedVariables false
set_option linter.constructorNameAsVariable false
set_option linter.defProp false
section
namespace Go.Proofs.YtnfciiiohoafaaaGreatDoor
open Go.AE Go.NT
def Lc:Tryz.f142.results.toList=[.tmp 6]:=by kernel_rfl
def AK:Tryz.f169.results.toList=[.tmp 4]:=by kernel_rfl
def aoq(a b):∀h,W7.call 140 [im a,im b] h=aa (.ret (.tuple [im (jx a b),im (me a b)]),h):=br (L:=L7) rfl rfl rfl (Zu a b _) rfl rfl
def aai(x y)(ae)(ag)(a v)(hx:RL x ae)(hy:IL y ag):∀h,W7.call 191 [.agg [x,y],.agg [im a,im v]] h=aa (.ret (.v (.bool (jm ae (a,v)))),h):=by obtain⟨h1,h2⟩:=hx.fb;obtain⟨h3,h4⟩:=hy.hold;obtain⟨r,h',c,rfl⟩:=arN ⟨[],[],0,[]⟩ _ _ ae ag a v h1 h3;exact br (L:=L7) (cA:=[.agg [aD x,aD y],.agg [im a,im v]]) rfl rfl (by simp[aW,aL,h2,h4,im]) c rfl rfl
def anw(h:ao)(x y z:AV)(ae:List (List Int))(ag aj:List Int)(hx:RL x ae)(hy:IL y ag)(hz:IL z aj)(row:Nat)(dJ:row<ae.length)(ub:(ae.getD row []).length=aj.length)(Ad:aj.all bN=ai)(dF:aj.length<=1000000):
 ∃r h',W7.call 142 [.agg [x,y],z,im (row:Nat)] h=aa (r,h')/\r=.ret (im (gN aj (ae.getD row []):Nat)):=by
 have bx:=pQ hx hy;have b0:=bh h [x,y];have l1:=pO b0;have hv:ae[row]?=aa (ae.getD row []):=by rw[dS,aT dJ];rfl
 generalize ae.getD row []=R at *
 obtain⟨k,s,xs,rfl,hs,dB,eg⟩:=hx;obtain⟨kz,sz,rfl,dm⟩:=hz;have bF:s=1:=hs (by intro q;rw[q] at dJ;simp at dJ);subst bF;obtain⟨a,fE⟩:∃a,xs[row]?=aa a:=⟨_,aT ah⟩;obtain⟨ka,sa,rfl,iT⟩:=eg _ a R fE hv;have ld:=λH=>lh (H:=H) (s:=1) fE;have cK:(xs.map λa=>[a]).length=ae.length:=by rw[bE];exact dB
 have Pe:(row:Int)<(ae.length:Int):=by omega
 have tw:=dp R;have OD:=dp aj;have u23:=dN;have u22:=ir;have z23:=iW;have z3:=fH;obtain⟨H0,hH⟩:∃H0,h.push [.list k 1 (xs.map λa=>[a]),y]=H0:=⟨_,rfl⟩;rw[hH] at l1;have kk:=al.mk (av dm (av iT Ad));have kRL:=al.mk ub;clear hs eg dm iT fE hv dJ Ad b0 hy dB ub;unfold im;refine da rfl Tryz.func142 rfl ?_;refine cR @Lc @bB @hH ?_;refine bM.gen λe0 aF bD cN cH=>?_;have f1:e0.get 1=.list kz sz (ints aj):=by rw[aF];exact gS
 have f2:e0.get 2=.v (.int .i64 (row:Nat)):=by rw[aF];exact gR
 have f3:e0.get 3=.ptr (.box h.boxes.length) 0:=by rw[aF];exact gS
 have f7:e0.get 7=.v (.int .i64 (1:Nat)):=by rw[aF];exact gR
 have f8:e0.get 8=.v (.int .i64 (0:Nat)):=by rw[aF];exact gR
 have fd:e0.defers=[]:=by rw[bD];exact gS
 clear aF bD cN cH bx hH;refine cE (λm e H=>∃j:Nat,j<=aj.length/\m=aj.length - j/\e.get 1=.list kz sz (ints aj)/\e.get 2=.v (.int .i64 (row:Nat))/\e.get 3=.ptr (.box h.boxes.length) 0/\e.get 7=.v (.int .i64 (qE aj R j:Nat))/\e.get 8=.v (.int .i64 (j:Nat))/\e.defers=[]/\H=H0) ?_ aj.length _ _ ?_;rotate_left 1
 ·exact⟨0,cG _,rfl,f1,f2,f3,f7,f8,fd,rfl⟩
 clear f1 f2 f3 f7 f8 fd;rintro m e H ⟨j,hj,rfl,g1,g2,g3,g7,g8,hd,rfl⟩;by_cases aB:j<aj.length
 ·have jk:sz=1:=kk.out.1 (by intro q;rw[q] at aB;simp at aB);subst jk;have uc:sa=1:=kk.out.2.1 (by intro q;have:=kRL.out;rw[q] at this;simp at this;omega);subst uc;have fA:(j:Int)<(aj.length:Int):=by omega
  have ajA:(j:Int)<(R.length:Int):=by have:=kRL.out;omega
  have lc:=λH=>e7 (H:=H) (l:=aj) (i:=j) (s:=1) aB;have lr:=λH=>e7 (H:=H) (l:=R) (i:=j) (s:=1) ah;have he:bN (ak aj j)=ai:=by have:=kk.out.2.2;rw[ej] at this;exact this _ (by rw[ga aB];exact iG _)
  have c2:=YZ (ak aj j) (ak R j);have c3:=aoq ((qE aj R j:Nat):Int) (ft (ak aj j) (ak R j));have hK:=qi (KP (row:=R) kk.out.2.2 j hj);have e3:jx ((qE aj R j:Nat):Int) (ft (ak aj j) (ak R j))=((qE aj R (j+1):Nat):Int):=by rw[yg hK (uX he _),ox he,QH,dK,dK]
  have e5:me ((qE aj R j:Nat):Int) (ft (ak aj j) (ak R j))=0:=by unfold me;rw[aG ⟨hK,uX he _⟩]
  rw[e3,e5] at c3;clear he hK e3 e5;generalize ft (ak aj j) (ak R j)=pw at *
  generalize ak aj j=cj at *
  generalize ak R j=rj at *
  unfold im at *
  refine cR @Lc @dw @a9 ?_
  repeat' (first|simp(maxSteps:=999999)(disch:=first|exact dZ|fail)only[gW,reduceIte,aZ,aQ,Lc,dw,a9, *]|(refine dX ?_ ?_<;>(intro _;try omega))|refine dR Gb fg ?_)
  exact⟨aj.length - (j+1),by omega,j+1,by omega,rfl,by simp⟩
 ·have:j=aj.length:=by omega
  subst this;have e:qE aj R aj.length=gN aj R:=rfl;refine bI @Lc ?_;exact⟨_,_,rfl,by rw[<-e]⟩
def adz{ae}{s:List (Int × Int)}{i:Nat}{p}(hp:s[i]?=aa p)(hq:jm ae p=az):s.all (jm ae)=az:=by rw[C8];exact⟨p,dn hp,by simp[hq]⟩
def adA{ae}{s:List (Int × Int)}{i}{p}(h:(s.take i).all (jm ae)=ai)(hp:s[i]?=aa p)(hq:jm ae p=ai):(s.take (i+1)).all (jm ae)=ai:=by rw[fW hp,AW,h];simp[hq]
def arQ(h:ao)(x y z:AV)(ae:List (List Int))(ag:List Int)(s:List (Int × Int))(hx:RL x ae)(hy:IL y ag)(hz:SL z s)(hl:s.length<=1000000)(vf:∀i p q,s[i]?=aa p->s[i+1]?=aa q->p.1<q.1):
 ∃r h',W7.call 169 [.agg [x,y],z] h=aa (r,h')/\r=.ret (.v (.bool (s.all (jm ae)))):=by
 have bx:=pQ hx hy;have l0:=rk (bh h [x,y]);have kr:=al.mk λ(p:Int × Int)=>aai x y ae ag p.1 p.2 hx hy;have lS:=hz.dW;obtain⟨k,sz,rfl,dm⟩:=hz;have u36:=Dl;have z81:=Ff;have cK:=Fa s;obtain⟨H0,hH⟩:∃H0,h.push [x,y]=H0:=⟨_,rfl⟩;rw[hH] at l0;have ks:=al.mk (av dm vf);clear dm vf hx hy;refine da rfl Tryz.func169 rfl ?_;refine cR @AK @bB @hH ?_;refine bM.gen λe0 aF bD cN cH=>?_;have f1:e0.get 1=.list k sz (fV s):=by rw[aF];exact gS
 have f2:e0.get 2=.ptr (.box h.boxes.length) 0:=by rw[aF];exact gS
 have f5:e0.get 5=.v (.int .i64 (0:Nat)):=by rw[aF];exact gR
 have fd:e0.defers=[]:=by rw[bD];exact gS
 clear aF bD cN cH bx hH;refine cE (λm e H=>∃i:Nat,i<=s.length/\m=s.length - i/\al ((s.take i).all (jm ae)=ai)/\e.get 1=.list k sz (fV s)/\e.get 2=.ptr (.box h.boxes.length) 0/\e.get 5=.v (.int .i64 (i:Nat))/\e.defers=[]/\H=H0) ?_ s.length _ _ ?_;rotate_left 1
 ·exact⟨0,cG _,rfl,⟨rfl⟩,f1,f2,f5,fd,rfl⟩
 clear f1 f2 f5 fd;rintro m e H ⟨i,hi,rfl,kP,g1,g2,g5,hd,rfl⟩;by_cases aB:i<s.length;rotate_left 1
 ·have:i=s.length:=by omega
  subst this;have kf:al (s.all (jm ae)=ai):=⟨by have:=kP.out;rwa [fI] at this⟩;clear kP;refine bI @AK ?_;exact⟨_,_,rfl,by rw[kf.out]⟩
 have jr:sz=2:=ks.out.1 (by intro q;rw[q] at aB;simp at aB);subst jr;obtain⟨p,hp⟩:∃p,s[i]?=aa p:=⟨_,aT aB⟩;have ld:=λH=>PK (H:=H) (s:=2) hp;have cp:∀h,W7.call 191 [.agg [x,y],.agg [.v (.int .i64 p.1),.v (.int .i64 p.2)]] h=aa (.ret (.v (.bool (jm ae p))),h):=kr.out p;have fA:(i:Int)<(s.length:Int):=by omega
 cases hq:jm ae p with
 |false=>
  rw[hq] at cp;have kf:=al.mk (adz hp hq);clear hq kP hp;refine cR @AK @na @a9 ?_
  repeat' (first|simp(maxSteps:=999999)(disch:=first|exact dZ|fail)only[gW,reduceIte,aZ,aQ,AK,na,a9, *]|(refine dX ?_ ?_<;>(intro _;try omega))|refine dR Gb fg ?_)
  exact⟨_,_,rfl,by rw[kf.out]⟩
 |true=>
 rw[hq] at cp;have kP2:=al.mk (adA kP.out hp hq);clear hq kP;by_cases GH:i=0
 ·subst GH;clear hp;refine cR @AK @na @a9 ?_
  repeat' (first|simp(maxSteps:=999999)(disch:=first|exact dZ|fail)only[gW,reduceIte,aZ,aQ,AK,na,a9, *]|(refine dX ?_ ?_<;>(intro _;try omega))|refine dR Gb fg ?_)
  exact⟨s.length - 1,by omega,0+1,by omega,rfl,(by first|exact kP2|trivial),by simp⟩
 ·obtain⟨q,o5⟩:∃q,s[i - 1]?=aa q:=⟨_,aT ah⟩;have c3:¬p.1<=q.1:=by have:=ks.out.2 (i - 1) q p o5 (by rw[(ah:i - 1+1=i)];exact hp);omega
  have lq0:=λH=>Hu (H:=H) (s:=2) o5;have lp0:=λH=>Hu (H:=H) (s:=2) hp;have G8:(0:Int)<(i:Int):=by omega
  have jB:(i:Int) - 1=((i - 1:Nat):Int):=by omega
  have Wp:((i - 1:Nat):Int)<(s.length:Int):=by omega
  clear o5 hp;refine cR @AK @na @a9 ?_
  repeat' (first|simp(maxSteps:=999999)(disch:=first|exact dZ|fail)only[gW,reduceIte,aZ,aQ,AK,na,a9, *]|(refine dX ?_ ?_<;>(intro _;try omega))|refine dR Gb fg ?_)
  exact⟨s.length - (i+1),by omega,i+1,by omega,rfl,(by first|exact kP2|trivial),by simp⟩
def QY:Tryz.f170.results.toList=[.tmp 6,.tmp 7]:=by kernel_rfl
def Cx:Tryz.f131.results.toList=[.tmp 6]:=by kernel_rfl
section
variable (R:Rec)
structure rI(x y z:AV)(ae:List (List Int))(ag aj:List Int):Prop where
 x:RL x ae
 y:IL y ag
 z:IL z aj
 pe:de ae ag=0
 cl:aj.length=b9 ae
 el:aj.all bN=ai
 rl:ae.length<=1000000
 cb:aj.length<=1000000
def Fu:Prop:=∀x y ae ag a v,RL x ae->IL y ag->∀h,R.call 191 [.agg [x,y],.agg [im a,im v]] h=aa (.ret (.v (.bool (jm ae (a,v)))),h)
def IJ:Prop:=∀x y z ae ag aj (row:Nat),rI x y z ae ag aj->row<ae.length->∀h,R.call 142 [.agg [x,y],z,im (row:Nat)] h=aa (.ret (im (gN aj (ae.getD row []):Nat)),h)
def Fv:Prop:=∀x y z ae ag (s:List (Int × Int)),RL x ae->IL y ag->SL z s->s.length<=1000000->(∀i p q,s[i]?=aa p->s[i+1]?=aa q->p.1<q.1)->∀h,R.call 169 [.agg [x,y],z] h=aa (.ret (.v (.bool (s.all (jm ae)))),h)
end
section
variable {x y z:AV} {ae:List (List Int)} {ag aj:List Int}
def rI.hold(g:rI x y z ae ag aj):rI (aD x) (aD y) (aD z) ae ag aj/\aL 0 0 0 (aD x)=ai/\aL 0 0 0 (aD y)=ai/\aL 0 0 0 (aD z)=ai:=by obtain⟨h1,h2⟩:=g.x.fb;obtain⟨h3,h4⟩:=g.y.hold;obtain⟨h5,h6⟩:=g.z.hold;exact⟨⟨h1,h3,h5,g.pe,g.cl,g.el,g.rl,g.cb⟩,h2,h4,h6⟩
def rI.row(g:rI x y z ae ag aj){row:Nat}(hr:row<ae.length):(ae.getD row []).length=aj.length:=by obtain⟨w1,w2,w3,w4⟩:=o9 g.pe;have:=w3 _ (iG hr);rw[ki hr,this.1,g.cl]
end
section
variable {R:Rec} {L:List bm}
def Fu.up(hg:L.contains 191=ai)(c:Fu R):Fu (up R L):=λx y ae ag a v hx hy=>by obtain⟨h1,h2⟩:=hx.fb;obtain⟨h3,h4⟩:=hy.hold;exact br (cA:=[.agg [aD x,aD y],.agg [im a,im v]]) hg rfl (by simp[aW,aL,h2,h4,im]) (c _ _ ae ag a v h1 h3 _) rfl rfl
def IJ.up(hg:L.contains 142=ai)(c:IJ R):IJ (up R L):=λx y z ae ag aj row g hr=>by obtain⟨g2,f1,f2,f3⟩:=g.hold;exact br (cA:=[.agg [aD x,aD y],aD z,im (row:Nat)]) hg rfl (by simp[aW,aL,f1,f2,f3,im]) (c _ _ _ ae ag aj row g2 hr _) rfl rfl
def Fv.up(hg:L.contains 169=ai)(c:Fv R):Fv (up R L):=λx y z ae ag s hx hy hz hl ha=>by obtain⟨h1,h2⟩:=hx.fb;obtain⟨h3,h4⟩:=hy.hold;obtain⟨h5,h6⟩:=hz.hold;exact br (cA:=[.agg [aD x,aD y],aD z]) hg rfl (by simp[aW,aL,h2,h4,h6]) (c _ _ _ ae ag s h1 h3 h5 hl ha _) rfl rfl
end
def agz:Fu W7:=λx y ae ag a v hx hy=>aai x y ae ag a v hx hy
def agA:Fu W8:=agz.up rfl
def Zc:IJ W8:=λx y z ae ag aj row g hr=>by obtain⟨g2,f1,f2,f3⟩:=g.hold;obtain⟨r,h',c,rfl⟩:=anw ⟨[],[],0,[]⟩ _ _ _ ae ag aj g2.x g2.y g2.z row hr (g.row hr) g.el g.cb;exact br (L:=L8) (cA:=[.agg [aD x,aD y],aD z,im (row:Nat)]) rfl rfl (by simp[aW,aL,f1,f2,f3,im]) c rfl rfl
def arR:Fv W8:=λx y z ae ag s hx hy hz hl ha=>by obtain⟨h1,h2⟩:=hx.fb;obtain⟨h3,h4⟩:=hy.hold;obtain⟨h5,h6⟩:=hz.hold;obtain⟨r,h',c,rfl⟩:=arQ ⟨[],[],0,[]⟩ _ _ _ ae ag s h1 h3 h5 hl ha;exact br (L:=L8) (cA:=[.agg [aD x,aD y],aD z]) rfl rfl (by simp[aW,aL,h2,h4,h6]) c rfl rfl
def Ut:Fm W8:=Us.up rfl
def am8:uI W8 175:=YZ.up rfl
def lZ(ae:List (List Int))(aj:List Int)(p:Int × Int):Bool:=jm ae p&&decide (bC Gn p.2=gN aj (ae.getD p.1.toNat []))
def ahD(h:ao)(x y z:AV)(ae:List (List Int))(ag aj:List Int)(g:rI x y z ae ag aj)(a v:Int):
 ∃r h',W8.call 170 [.agg [x,y],z,.agg [im a,im v]] h=aa (r,h')/\∃e,r=.ret (.tuple [.v (.bool (lZ ae aj (a,v))),im e]):=by
 have bx:=pQ g.x g.y;have b2:(AV.agg [im a,im v]).cD=aa [im a,im v]:=rfl;have c1:=Nt x y ae ag g.x g.y g.rl;rw[g.pe] at c1;have c2:=Ut x y z ae ag aj g.x g.y g.z g.cb;rw[cz g.cl,g.el,abt] at c2;have c3:=agA x y ae ag a v g.x g.y;have q1:((h.push [x,y]).push [im a,im v]).boxes[h.boxes.length]?=aa [x,y]:=bA (bh h [x,y]);have l0:=rk q1;have nP:(h.push [x,y]).boxes.length=h.boxes.length+1:=cX _ _;have q2:((h.push [x,y]).push [im a,im v]).boxes[h.boxes.length+1]?=aa [im a,im v]:=by rw[<-nP];exact bh _ _
 have l1:aI aq Gt ((h.push [x,y]).push [im a,im v]) 81 (.ptr (.box (h.boxes.length+1)) 0)=aa (.agg [im a,im v]):=by rw[iC fg (by kernel_rfl:dC aq 81=aa 2) q2 (aM 2)];rfl
 have l2:=Hs q2;have l3:=Ht q2;obtain⟨H0,hH⟩:∃H0,(h.push [x,y]).push [im a,im v]=H0:=⟨_,rfl⟩;rw[hH] at l0 l1 l2 l3;have kr:al (lZ ae aj (a,v)=(jm ae (a,v)&&decide (bC Gn v=gN aj (ae.getD a.toNat [])))):=⟨rfl⟩;have kg:=al.mk g;clear q1 q2 g;generalize lZ ae aj (a,v)=res at *
 cases h1:jm ae (a,v) with
 |false=>
  rw[h1] at c3;have kf:al (res=az):=⟨by rw[kr.out,h1];rfl⟩;clear h1 kr;unfold im at *
  refine da rfl acS rfl ?_;refine bG @QY @bB @nP @hH ?_;exact⟨_,_,rfl,_,by rw[kf.out]⟩
 |true=>
  rw[h1] at c3;have ha:0<=a/\a<(ae.length:Int):=by unfold jm at h1;simp only[bL,decide_eq_true_eq] at h1;exact⟨h1.1.1,h1.1.2⟩
  have c4:=Zc x y z ae ag aj a.toNat kg.out ah;rw[show((a.toNat:Nat):Int)=a by omega] at c4;have c5:=am8 4 v;rw[ox r9,show(4:Int).toNat=Gn from rfl] at c5;have kf:al (res=decide (((bC Gn v:Nat):Int)=((gN aj (ae.getD a.toNat []):Nat):Int))):=⟨by rw[kr.out,h1,oc,decide_eq_decide];omega⟩;clear h1 kr ha;generalize ((bC Gn v:Nat):Int)=p1 at *
  generalize ((gN aj (ae.getD a.toNat []):Nat):Int)=p2 at *
  unfold im at *
  refine da rfl acS rfl ?_;refine bG @QY @bB @nP (av @hH (av @na (av @yb @yc))) ?_
  repeat' (first|simp(maxSteps:=999999)(disch:=first|exact dZ|fail)only[gW,reduceIte,aZ,aQ,QY,bB,nP,hH,na,yb,yc, *]|(refine dX ?_ ?_<;>(intro _;try omega))|refine dR zN fg ?_)
  exact⟨_,_,rfl,_,by rw[kf.out]⟩
def abA(R:Rec):Prop:=∀x y z ae ag aj,rI x y z ae ag aj->∀p:Int × Int,∃e,∀h,R.call 170 [.agg [x,y],z,.agg [.v (.int .i64 p.1),.v (.int .i64 p.2)]] h=aa (.ret (.tuple [.v (.bool (lZ ae aj p)),.v (.int .i64 e)]),h)
def afE:abA W9:=λx y z ae ag aj g p=>by obtain⟨g2,f1,f2,f3⟩:=g.hold;obtain⟨r,h',c,e,rfl⟩:=ahD ⟨[],[],0,[]⟩ _ _ _ ae ag aj g2 p.1 p.2;exact⟨e,br (L:=L9) (cA:=[.agg [aD x,aD y],aD z,.agg [im p.1,im p.2]]) rfl rfl (by simp[aW,aL,f1,f2,f3,im]) c rfl rfl⟩
def arS:Fv W9:=arR.up rfl
def arO{ae}{aj}{s:List (Int × Int)}{i:Nat}{p}(hp:s[i]?=aa p)(hq:lZ ae aj p=az):s.all (lZ ae aj)=az:=by rw[C8];exact⟨p,dn hp,by simp[hq]⟩
def arP{ae}{aj}{s:List (Int × Int)}{i}{p}(h:(s.take i).all (lZ ae aj)=ai)(hp:s[i]?=aa p)(hq:lZ ae aj p=ai):(s.take (i+1)).all (lZ ae aj)=ai:=by rw[fW hp,AW,h];simp[hq]
def ahC(h:ao)(x y z S:AV)(ae:List (List Int))(ag aj:List Int)(g:rI x y z ae ag aj)(s:List (Int × Int))(hz:SL S s)(hl:s.length<=1000000)(vf:∀i p q,s[i]?=aa p->s[i+1]?=aa q->p.1<q.1):
 ∃r h',W9.call 131 [.agg [x,y],z,S] h=aa (r,h')/\r=.ret (.v (.bool (s.all (lZ ae aj)))):=by
 have bx:=pQ g.x g.y;have l0:=rk (bh h [x,y]);have c1:=arS x y S ae ag s g.x g.y hz hl vf;have kc:=al.mk (afE x y z ae ag aj g);have lS:=hz.dW;obtain⟨k,sz,rfl,dm⟩:=hz;have u36:=Dl;have z81:=Ff;have cK:=Fa s;obtain⟨H0,hH⟩:∃H0,h.push [x,y]=H0:=⟨_,rfl⟩;rw[hH] at l0;have ks:=al.mk dm;clear dm vf g;cases h1:s.all (jm ae) with
 |false=>rw[h1] at c1;have kf:al (s.all (lZ ae aj)=az):=⟨by rw[C8] at h1 ⊢;obtain⟨p,hp,hq⟩:=h1;exact⟨p,hp,by unfold lZ;simp[hq]⟩⟩;clear h1;refine da rfl acN rfl ?_;refine cR @Cx @bB @hH ?_;exact⟨_,_,rfl,by rw[kf.out]⟩
 |true=>
 rw[h1] at c1;clear h1;refine da rfl acN rfl ?_;refine cR @Cx @bB @hH ?_;refine bM.gen λe0 aF bD cN cH=>?_;have f1:e0.get 1=z:=by rw[aF];exact gS
 have f2:e0.get 2=.list k sz (fV s):=by rw[aF];exact gS
 have f3:e0.get 3=.ptr (.box h.boxes.length) 0:=by rw[aF];exact gS
 have f7:e0.get 7=.v (.int .i64 (0:Nat)):=by rw[aF];exact gR
 have fd:e0.defers=[]:=by rw[bD];exact gS
 clear aF bD cN cH bx hH c1;refine cE (λm e H=>∃i:Nat,i<=s.length/\m=s.length - i/\al ((s.take i).all (lZ ae aj)=ai)/\e.get 1=z/\e.get 2=.list k sz (fV s)/\e.get 3=.ptr (.box h.boxes.length) 0/\e.get 7=.v (.int .i64 (i:Nat))/\e.defers=[]/\H=H0) ?_ s.length _ _ ?_;rotate_left 1
 ·exact⟨0,cG _,rfl,⟨rfl⟩,f1,f2,f3,f7,fd,rfl⟩
 clear f1 f2 f3 f7 fd;rintro m e H ⟨i,hi,rfl,kP,g1,g2,g3,g7,hd,rfl⟩;by_cases aB:i<s.length;rotate_left 1
 ·have:i=s.length:=by omega
  subst this;have kf:al (s.all (lZ ae aj)=ai):=⟨by have:=kP.out;rwa [fI] at this⟩;clear kP;refine bI @Cx ?_;exact⟨_,_,rfl,by rw[kf.out]⟩
 have jr:sz=2:=ks.out (by intro q;rw[q] at aB;simp at aB);subst jr;obtain⟨p,hp⟩:∃p,s[i]?=aa p:=⟨_,aT aB⟩;have ld:=λH=>PK (H:=H) (s:=2) hp;obtain⟨er,cp⟩:=kc.out p;have fA:(i:Int)<(s.length:Int):=by omega
 cases hq:lZ ae aj p with
 |false=>
  rw[hq] at cp;have kf:=al.mk (arO hp hq);clear hq kP hp;refine bV @Cx @a9 ?_
  repeat' (first|simp(maxSteps:=999999)(disch:=first|exact dZ|fail)only[gW,reduceIte,aZ,aQ,Cx,a9, *]|(refine dX ?_ ?_<;>(intro _;try omega))|refine dR Jj fg ?_)
  exact⟨_,_,rfl,by rw[kf.out]⟩
 |true=>
 rw[hq] at cp;have kP2:=al.mk (arP kP.out hp hq);clear hq kP hp;refine bV @Cx @a9 ?_
 repeat' (first|simp(maxSteps:=999999)(disch:=first|exact dZ|fail)only[gW,reduceIte,aZ,aQ,Cx,a9, *]|(refine dX ?_ ?_<;>(intro _;try omega))|refine dR Jj fg ?_)
 exact⟨s.length - (i+1),by omega,i+1,by omega,rfl,(by first|exact kP2|trivial),by simp⟩
def abz(R:Rec):Prop:=∀x y z S ae ag aj,rI x y z ae ag aj->∀s:List (Int × Int),SL S s->s.length<=1000000->(∀i p q,s[i]?=aa p->s[i+1]?=aa q->p.1<q.1)->∀h,R.call 131 [.agg [x,y],z,S] h=aa (.ret (.v (.bool (s.all (lZ ae aj)))),h)
def afD:abz mE:=λx y z S ae ag aj g s hs hl ha=>by obtain⟨g2,f1,f2,f3⟩:=g.hold;obtain⟨h1,h2⟩:=hs.hold;obtain⟨r,h',c,rfl⟩:=ahC ⟨[],[],0,[]⟩ _ _ _ _ ae ag aj g2 s h1 hl ha;exact br (L:=rJ) (cA:=[.agg [aD x,aD y],aD z,aD S]) rfl rfl (by simp[aW,aL,f1,f2,f3,h2]) c rfl rfl
def Cz:Tryz.f61.results.toList=[.tmp 6]:=by kernel_rfl
def M3{s:List (Int × Int)}{i}{p}(hp:s[i]?=aa p):ak (s.map rM) i=p.1:=by unfold ak;rw[dS,ev,hp];rfl
def amk(h:ao)(ep:Int)(X Y C W S:AV)(ae:List (List Int))(ag aj w:List Int)(s:List (Int × Int))(g:rI X Y C ae ag aj)(hw:IL W w)(hs:SL S s)(Xj:∀i,i+1<w.length->ak w i<ak w (i+1))(hl:s.length<=1000000):
 ∃r h',mE.call 61 [.agg (aP ep X Y C),W,S] h=aa (r,h')/\Ext h h'/\r=.ret (.v (.bool (decide (s.map rM=w)&&s.all (lZ ae aj)))):=by
 have bx:=vv (ep:=ep) g.x g.y g.z;have b0:=bh h (aP ep X Y C);have l1:aI aq Gt (h.push (aP ep X Y C)) 25 (.ptr (.box h.boxes.length) 1)=aa (.agg [X,Y]):=by rw[iC sW y9 b0 (jZ rfl)];rfl
 have l3:aI aq Gt (h.push (aP ep X Y C)) 23 (.ptr (.box h.boxes.length) 3)=aa C:=ri b0 rfl;have c1:=λha=>afD X Y C S ae ag aj g s hs hl ha;have lS:=hs.dW;have lW:=hw.dW;obtain⟨k,sz,rfl,dm⟩:=hs;obtain⟨kw,sw,rfl,Ej⟩:=hw;have u36:=Dl;have u23:=dN;have z81:=Ff;have z3:=fH;have cK:=Fa s;have tw:=dp w;have kX:=al.mk (Ext.push h (aP ep X Y C));obtain⟨H0,hH⟩:∃H0,h.push (aP ep X Y C)=H0:=⟨_,rfl⟩;rw[hH] at l1 l3 kX;have kc:=al.mk (av c1 (av dm (av Ej Xj)));have kv:al ((decide (s.map rM=w)&&s.all (lZ ae aj))=(decide (s.map rM=w)&&s.all (lZ ae aj))):=⟨rfl⟩;clear c1 dm Ej Xj b0 g;generalize aP ep X Y C=K at *
 generalize gG:(decide (s.map rM=w)&&s.all (lZ ae aj))=res at kv;clear kv;have kres:=al.mk gG;clear gG;refine da rfl Tryz.func61 rfl ?_;by_cases hn:s.length=w.length;rotate_left 1
 ·have Ka:¬((s.length:Nat):Int)=((w.length:Nat):Int):=by omega
  have kf:al (res=az):=⟨by rw[<-kres.out,cT (λq=>hn (by rw[<-q,bE]))];rfl⟩;clear hn;refine cR @Cz @bB @hH ?_;exact⟨_,_,rfl,kX.out,by rw[kf.out]⟩
 have Ka:((s.length:Nat):Int)=((w.length:Nat):Int):=by omega
 have kn:=al.mk hn;clear hn;refine cR @Cz @bB @hH ?_;refine bM.gen λe0 aF bD cN cH=>?_;have f1:e0.get 1=.list kw sw (ints w):=by rw[aF];exact gS
 have f2:e0.get 2=.list k sz (fV s):=by rw[aF];exact gS
 have f3:e0.get 3=.ptr (.box h.boxes.length) 0:=by rw[aF];exact gS
 have f7:e0.get 7=.v (.int .i64 (0:Nat)):=by rw[aF];exact gR
 have fd:e0.defers=[]:=by rw[bD];exact gS
 clear aF bD cN cH bx hH Ka;refine cE (λm e H=>∃i:Nat,i<=s.length/\m=s.length - i/\al (∀j p,j<i->s[j]?=aa p->p.1=ak w j)/\e.get 1=.list kw sw (ints w)/\e.get 2=.list k sz (fV s)/\e.get 3=.ptr (.box h.boxes.length) 0/\e.get 7=.v (.int .i64 (i:Nat))/\e.defers=[]/\H=H0) ?_ s.length _ _ ?_;rotate_left 1
 ·exact⟨0,cG _,rfl,⟨λj p q=>absurd q (qO _)⟩,f1,f2,f3,f7,fd,rfl⟩
 clear f1 f2 f3 f7 fd;rintro m e H ⟨i,hi,rfl,kP,g1,g2,g3,g7,hd,rfl⟩;by_cases aB:i<s.length;rotate_left 1
 ·have:i=s.length:=by omega
  subst this;have iJ:s.map rM=w:=by refine List.ext_getElem (by rw[bE];exact kn.out) λj h1 h2=>?_;have hj:j<s.length:=(by simpa using h1);rw[List.getElem_map,kP.out j s[j] hj (aT hj),ga h2]
  have c1:=kc.out.1 λj p q hp hq=>by have h1:=(aV.1 hq).1;rw[kP.out j p ah hp,kP.out (j+1) q h1 hq];exact kc.out.2.2.2 j (by have:=kn.out;omega)
  have kf:al (res=s.all (lZ ae aj)):=⟨by rw[<-kres.out,cz iJ,oc]⟩;clear iJ kP;generalize s.all (lZ ae aj)=bb at *
  refine cR @Cz @eD @iP ?_;exact⟨_,_,rfl,kX.out,by rw[kf.out]⟩
 have jr:sz=2:=kc.out.2.1 (by intro q;rw[q] at aB;simp at aB);have Xi:sw=1:=kc.out.2.2.1 (by intro q;have h1:=kn.out;rw[q,List.length_nil] at h1;omega);subst jr;subst Xi;have hlw:i<w.length:=by have:=kn.out;omega
 obtain⟨p,hp⟩:∃p,s[i]?=aa p:=⟨_,aT aB⟩;have lp0:=λH=>Hu (H:=H) (s:=2) hp;have lw:=λH=>e7 (H:=H) (l:=w) (i:=i) (s:=1) hlw;have fA:(i:Int)<(s.length:Int):=by omega
 have avb:(i:Int)<(w.length:Int):=by omega
 by_cases hq:p.1=ak w i;rotate_left 1
 ·have kf:al (res=az):=⟨by rw[<-kres.out,cT,Bool.false_and];intro q;exact hq (by rw[<-q];exact(M3 hp).symm)⟩;clear hp kP;generalize ak w i=wi at *
  refine cR @Cz @na @a9 ?_
  repeat' (first|simp(maxSteps:=999999)(disch:=first|exact dZ|fail)only[gW,reduceIte,aZ,aQ,Cz,na,a9, *]|(refine dX ?_ ?_<;>(intro _;try omega))|refine dR xV fg ?_)
  exact⟨_,_,rfl,kX.out,by rw[kf.out]⟩
 ·have kP2:al (∀j p,j<i+1->s[j]?=aa p->p.1=ak w j):=⟨λj p' hj Cb=>by
   by_cases GI:j=i
   ·subst GI;rw[hp] at Cb;injection Cb with Cb;rw[<-Cb];exact hq
   ·exact kP.out j p' ah Cb⟩
  rw[hq] at lp0;clear hp kP hq;generalize ak w i=wi at *
  refine cR @Cz @na @a9 ?_
  repeat' (first|simp(maxSteps:=999999)(disch:=first|exact dZ|fail)only[gW,reduceIte,aZ,aQ,Cz,na,a9, *]|(refine dX ?_ ?_<;>(intro _;try omega))|refine dR xV fg ?_)
  exact⟨s.length - (i+1),by omega,i+1,by omega,rfl,(by first|exact kP2|trivial),by simp⟩
section
variable (R:Rec)
def zr:Prop:=∀n h,R.call 59 [im n] h=aa (.ret (.v (.bool (cU n))),h)
def zq:Prop:=∀x l au,PL x l->l.length<=1000000->∃i,IN l au i/\∀h,R.call 58 [x,im au] h=aa (.ret (im i),h)
def zv:Prop:=∀x y ae ag au,RL x ae->IL y ag->ag.length<=1000000->∃X,IL X (bP (eu ag au))/\∀h,R.call 60 [.agg [x,y],im au] h=aa (.ret X,h)
end
section
variable {R:Rec} {L:List bm}
def zr.up(hg:L.contains 59=ai)(c:zr R):zr (up R L):=λn=>br hg rfl rfl (c n _) rfl rfl
def zq.up(hg:L.contains 58=ai)(c:zq R):zq (up R L):=λx l au hx hl=>by obtain⟨h1,h2⟩:=hx.fb;obtain⟨i,hi,c⟩:=c _ l au h1 hl;exact⟨i,hi,br (cA:=[aD x,im au]) hg rfl (by simp[aW,aL,h2,im]) (c _) rfl rfl⟩
def zv.up(hg:L.contains 60=ai)(c:zv R):zv (up R L):=λx y ae ag au hx hy hl=>by obtain⟨h1,h2⟩:=hx.fb;obtain⟨h3,h4⟩:=hy.hold;obtain⟨X,hX,c⟩:=c _ _ ae ag au h1 h3 hl;obtain⟨h5,h6⟩:=hX.Hn ⟨[],[],0,[]⟩;exact⟨_,h5,br (cA:=[.agg [aD x,aD y],im au]) hg rfl (by simp[aW,aL,h2,h4,im]) (c _) rfl h6⟩
end
def Nu:zr mE:=zr.up (L:=rJ) rfl (zr.up (L:=L9) rfl (zr.up (L:=L8) rfl (zr.up (L:=L7) rfl λn h=>Yv n h)))
def afN:zq W7:=λx l au hx hl=>by obtain⟨h1,h2⟩:=hx.fb;obtain⟨r,h',c,-,i,rfl,hi⟩:=aj9 ⟨[],[],0,[]⟩ _ l au h1 hl;exact⟨i,hi,br (L:=L7) (cA:=[aD x,im au]) rfl rfl (by simp[aW,aL,h2,im]) c rfl rfl⟩
def Um:zq mE:=zq.up (L:=rJ) rfl (zq.up (L:=L9) rfl (zq.up (L:=L8) rfl afN))
def agw:zv W7:=λx y ae ag au hx hy hl=>by obtain⟨h1,h2⟩:=hx.fb;obtain⟨h3,h4⟩:=hy.hold;obtain⟨r,h',c,t,rfl⟩:=apW ⟨[],[],0,[]⟩ rfl _ _ ae ag au h1 h3 hl;obtain⟨h5,h6⟩:=IL.Hn (x:=.list t 1 (ints (bP (eu ag au)))) ⟨_,_,rfl,λ_=>rfl⟩ h';exact⟨_,h5,br (L:=L7) (cA:=[.agg [aD x,aD y],im au]) rfl rfl (by simp[aW,aL,h2,h4,im]) c rfl h6⟩
def Uy:zv mE:=zv.up (L:=rJ) rfl (zv.up (L:=L9) rfl (zv.up (L:=L8) rfl agw))
def EK:uI mE 62:=Y1.up rfl
def XG:zt mE:=zt.up (L:=rJ) rfl (zt.up (L:=L9) rfl XH)
def S6:vV mE:=vV.up (L:=rJ) rfl (vV.up (L:=L9) rfl S7)
def NU:xI mE 66:=xI.up (L:=rJ) rfl (xI.up (L:=L9) rfl (xI.up (L:=L8) rfl ahS))
def ap5(ag)(au):∀i,i+1<(bP (eu ag au)).length->ak (bP (eu ag au)) i<ak (bP (eu ag au)) (i+1):=by
 intro i hi;have hs:(eu ag au).Pairwise (·<·):=List.Pairwise.filter _ List.pairwise_lt_range;have hl:(bP (eu ag au)).length=(eu ag au).length:=by unfold bP;rw[bE]
 have e:∀j (hj:j<(eu ag au).length),ak (bP (eu ag au)) j=(((eu ag au)[j]:Nat):Int):=λj hj=>by unfold bP ak;rw[dS,ev,aT hj];rfl
 rw[e i ah,e (i+1) ah];have:=List.pairwise_iff_getElem.1 hs i (i+1) ah ah ah;omega
def ZD{ag}{au}{r}(h:r∈eu ag au):r<ag.length:=by unfold eu at h;exact List.mem_range.1 (List.mem_filter.1 h).1
def YE{ag}{au}{s:List (Int × Int)}(h:s.map rM=bP (eu ag au)){p}(hp:p∈s):0<=p.1/\p.1<(ag.length:Int):=by
 have:p.1∈bP (eu ag au):=by rw[<-h];exact ju.2 ⟨p,hp,rfl⟩
 obtain⟨r,hr,e⟩:=ju.1 this;have:=ZD hr;omega
def amm{ae}{ag aj}{au}{s}(hl:ae.length=ag.length):(decide (s.map rM=bP (eu ag au))&&s.all (lZ ae aj))=lj ae ag aj au s:=by
 unfold lj;have e:(eu ag au).map (λ(i:Nat)=>(i:Int))=bP (eu ag au):=rfl;rw[e];by_cases h:s.map rM=bP (eu ag au);rotate_left 1
 ·rw[cT h];rfl
 rw[cz h,oc,oc,Bool.eq_iff_iff,ej,ej];have hp:∀p∈s,lZ ae aj p=y6 ae aj p:=λp hp=>by obtain⟨h1,h2⟩:=YE h hp;unfold lZ y6 jm;rw[cz h1,cz (ah:p.1<(ae.length:Int))];simp
 exact⟨λq p h=>by rw[<-hp p h];exact q p h,λq p h=>by rw[hp p h];exact q p h⟩
def oK.UG{X Y C T L}{ae}{ag aj}{ep}{text}{l}(g:oK X Y C T L ae ag aj text l)(h:dA ae ag ep aj text l=0)(hr:ae.length<=1000000)(hc:aj.length<=1000000):rI X Y C ae ag aj:=by obtain⟨h1,h2,h3,-⟩:=Dt h;exact⟨g.x,g.y,g.c,h1,h2,h3,hr,hc⟩
def nY:Tryz.f21.results.toList=[.tmp 14,.tmp 15]:=by kernel_rfl
def ali(h:ao)(ep:Int)(X Y C T L S:AV)(ae:List (List Int))(ag aj:List Int)(text:List UInt8)(l:List Pr)(s:List (Int × Int))(au d f:Int)(g:oK X Y C T L ae ag aj text l)(hs:SL S s)(cS:ae.length<=1000000)(oY:ag.length<=1000000)(dF:aj.length<=1000000)(eO:l.length<=1000000)(kK:s.length<=1000000):
 ∃r h',mE.call 21 [.agg (aP ep X Y C),T,L,im au,S,im d,im f] h=aa (r,h')/\Ext h h'/\r=.ret (.tuple [im (lq ae ag ep aj text l au s d f).1,im (lq ae ag ep aj text l au s d f).2]):=by
 have bx:=g.cells ep;have c1:=Ug ep X Y C T L ae ag aj text l g cS dF eO;have b0:=bh h (aP ep X Y C);have kX:=al.mk (Ext.push h (aP ep X Y C));have l0:aI aq Gt (h.push (aP ep X Y C)) 27 (.ptr (.box h.boxes.length) 0)=aa (.agg (aP ep X Y C)):=Av b0 rfl;have l1:aI aq Gt (h.push (aP ep X Y C)) 25 (.ptr (.box h.boxes.length) 1)=aa (.agg [X,Y]):=by rw[iC sW y9 b0 (jZ rfl)];rfl
 have kE1:al (dA ae ag ep aj text l≠0->lq ae ag ep aj text l au s d f=(0,dA ae ag ep aj text l)):=⟨λq=>by unfold lq;rw[aG q]⟩;have kE2:al (dA ae ag ep aj text l=0->lq ae ag ep aj text l au s d f=xc ae ag aj text l au s d f):=⟨λq=>by unfold lq;rw[aH (by simp[q])]⟩;generalize lq ae ag ep aj text l au s d f=res at *
 unfold im at c1;refine da rfl Tryz.func21 rfl ?_;by_cases q1:dA ae ag ep aj text l=0;rotate_left 1
 ·have kf:=al.mk (kE1.out q1);have bD:decide (dA ae ag ep aj text l=0)=az:=cT q1;obtain⟨H0,hH⟩:∃H0,h.push (aP ep X Y C)=H0:=⟨_,rfl⟩;rw[hH] at l0 l1 kX;generalize dA ae ag ep aj text l=be at *
  clear q1 b0 g kE1 kE2 hs;generalize aP ep X Y C=K at *
  unfold im;refine cR @nY @bB @hH ?_;exact⟨_,_,rfl,kX.out,by rw[kf.out]⟩
 have fi:=UZ q1;have gd:=g.UG q1 cS dF;have km:=al.mk (kE2.out q1);obtain⟨yw,w1,w2,w3⟩:=LR q1;rw[q1] at c1;obtain⟨i,hi,c2⟩:=Um L l au g.p eO;have c3:=Nu d;have c4:=Nu f;clear kE1 kE2;rcases hi with⟨hn,rfl⟩|⟨j,q,rfl,hj,vm⟩
 ·have kf:al (res=(0,1)):=⟨by rw[km.out];exact Kz (.inl hn)⟩;obtain⟨H0,hH⟩:∃H0,h.push (aP ep X Y C)=H0:=⟨_,rfl⟩;rw[hH] at l0 l1 kX;clear hn km b0 g gd fi hs w1 w2 w3 c3 c4 q1;generalize aP ep X Y C=K at *
  unfold im at *
  refine cR @nY @bB @hH ?_;exact⟨_,_,rfl,kX.out,by rw[kf.out]⟩
 have lF:j<l.length:=(aV.1 hj).1;have D2:(j:Int)<(l.length:Int):=by omega
 cases hd:cU d with
 |false=>
  have kf:al (res=(0,1)):=⟨by rw[km.out];exact Kz (.inr (by simp[hd]))⟩;rw[hd] at c3;obtain⟨H0,hH⟩:∃H0,h.push (aP ep X Y C)=H0:=⟨_,rfl⟩;rw[hH] at l0 l1 kX;clear hd km b0 g gd fi hs w1 w2 w3 c4 q1 hj vm lF;generalize aP ep X Y C=K at *
  unfold im at *
  refine cR @nY @bB @hH ?_;exact⟨_,_,rfl,kX.out,by rw[kf.out]⟩
 |true=>
 rw[hd] at c3;cases hf:cU f with
 |false=>
  have kf:al (res=(0,1)):=⟨by rw[km.out];exact Kz (.inr (by simp[hf]))⟩;rw[hf] at c4;obtain⟨H0,hH⟩:∃H0,h.push (aP ep X Y C)=H0:=⟨_,rfl⟩;rw[hH] at l0 l1 kX;clear hd hf km b0 g gd fi hs w1 w2 w3 q1 hj vm lF;generalize aP ep X Y C=K at *
  unfold im at *
  refine cR @nY @bB @hH ?_;exact⟨_,_,rfl,kX.out,by rw[kf.out]⟩
 |true=>
 rw[hf] at c4;have km2:=al.mk (km.out.trans (Ye vm (by simp[hd,hf])));obtain⟨W,hW,c5⟩:=Uy X Y ae ag au g.x g.y oY;obtain⟨w5,-⟩:=o9 gd.pe;obtain⟨_,H2,c6,x6,rfl⟩:=amk (h.push (aP ep X Y C)) ep X Y C W S ae ag aj (bP (eu ag au)) s gd hW hs (ap5 ag au) kK;rw[amm w5] at c6;have b2:=x6.box _ _ b0;have kX2:=al.mk (kX.out.trans x6);clear kX;have l2:aI aq Gt H2 27 (.ptr (.box h.boxes.length) 0)=aa (.agg (aP ep X Y C)):=Av b2 rfl;have l3:aI aq Gt H2 25 (.ptr (.box h.boxes.length) 1)=aa (.agg [X,Y]):=by rw[iC sW y9 b2 (jZ rfl)];rfl
 obtain⟨H0,hH⟩:∃H0,h.push (aP ep X Y C)=H0:=⟨_,rfl⟩;rw[hH] at l0 l1 c6;have kq:=al.mk q1;clear hd hf b0 b2 x6 hW km q1;cases ho:lj ae ag aj au s with
 |false=>
  have kf:al (res=(0,340)):=⟨by rw[km2.out,aG ho]⟩;rw[ho] at c6;clear ho km2 g gd fi hs w1 w2 w3 hj vm lF;generalize aP ep X Y C=K at *
  unfold im at *
  refine bG @nY @bB @hH @eD ?_;exact⟨_,_,rfl,kX2.out,by rw[kf.out]⟩
 |true=>
 have km3:al (res=if ¬((bC Gn d:Nat):Int)=q.d∨¬((bC Gn f:Nat):Int)=q.e then (0,420)
  else (cQ (cQ d (bX f (eY (ak aj 0) text l au))) (bX (eZ (ak aj 0) text l) (gZ (eF ae ag l) s)),0)):=⟨by rw[km2.out,aH (by simp[ho])]⟩
 have kown:=al.mk ho;rw[ho] at c6;have c7:=EK 4 d;have c8:=EK 4 f;rw[ox r9,show(4:Int).toNat=Gn from rfl] at c7 c8;obtain⟨-,-,ld2,jN⟩:=Aw (s:=4) hj;have kqk:al (q∈l/\q.au=au):=⟨KM vm⟩;have N7:dG aq 29 L (.v (.int .i64 (j:Nat)))=aa (.elem 4 (eS l) j 0):=by obtain⟨kp,sp,rfl,lH⟩:=g.p;have bF:sp=4:=lH fi.ne;subst bF;have:=a9 (k:=kp) (kk:=.i64) (es:=eS l) (a:=((j:Nat):Int)) uO rE ah (by rw[vG];omega);rw[this,dK]
 clear km2 ho hj vm lF;by_cases e1:((bC Gn d:Nat):Int)=q.d/\((bC Gn f:Nat):Int)=q.e;rotate_left 1
 ·have kf:al (res=(0,420)):=⟨by rw[km3.out,aG (by
   by_cases q1:((bC Gn d:Nat):Int)=q.d
   ·exact .inr (λq2=>e1 ⟨q1,q2⟩)
   ·exact .inl q1)]⟩
  clear km3 g gd fi hs w1 w2 w3 kown kqk;generalize aP ep X Y C=K at *
  generalize ((bC Gn d:Nat):Int)=pd at *
  generalize ((bC Gn f:Nat):Int)=pf at *
  generalize q.d=qd at *
  generalize q.e=qe at *
  by_cases e2:pd=qd
  ·have e3:¬pf=qe:=λq=>e1 ⟨e2,q⟩;subst e2;clear e1;unfold im at *
   refine bG @nY @bB @hH (av @eD @jH) ?_;refine my [(10,15)] xV fg (λp hp=>?_) ?_
   ·simp only[lu] at hp;subst hp;refine LA (x:=.elem 4 (eS l) j 3) (v:=.v (.int .i64 qe)) fg rfl rfl fg (by simp[fe,lY]) ?_ ?_
    ·simp only[gl,fm];refine bG @nY @bB @hH (av @eD @jH) ?_;refine⟨by trivial,?_,by trivial,by trivial⟩;simp[ff,CC]
    ·simp only[gl,fm];exact mf @nY @bB @hH (av @eD (av @jH @and_self))
   refine bG @nY @bB @hH (av @eD @jH) ?_;exact⟨_,_,rfl,kX2.out,by rw[kf.out]⟩
  ·clear e1;unfold im at *
   refine bG @nY @bB @hH (av @eD @jH) ?_;refine my [(10,15)] xV fg (λp hp=>?_) ?_
   ·simp only[lu] at hp;subst hp;refine aaC fg rfl rfl fg ?_ ?_
    ·simp only[gl,fm];refine bG @nY @bB @hH (av @eD @jH) ?_;refine⟨by trivial,?_⟩;simp[ff,CC]
    ·simp only[gl,fm];exact mf @nY @bB @hH (av @eD @jH)
   refine bG @nY @bB @hH (av @eD @jH) ?_;exact⟨_,_,rfl,kX2.out,by rw[kf.out]⟩
 obtain⟨e1,e2⟩:=e1;rw[e1] at c7;rw[e2] at c8;have km4:=al.mk (km3.out.trans (aH (by simp[e1,e2])));rw[w2] at km4;obtain⟨Z,hZ,c9⟩:=XG L l g.p eO;have c10:=S6 X Y Z ae ag (l.map Pr.au) g.x g.y hZ cS (by rw[bE];omega);rw[w1] at c10;rcases c10 with⟨_,e,-⟩|⟨y',e,-,c10⟩
 ·simp at e
 simp only[dj] at e;obtain rfl:=e.1;have c11:=T9 ep X Y C T L ae ag aj text l au g fi (by rw[<-kqk.out.2];exact fi.ok q kqk.out.1 q.au bH);have c12:=Ud ep X Y C T L ae ag aj text l g fi;have lS:=hs.dW;obtain⟨k,sz,rfl,dm⟩:=hs;have u36:=Dl;have u23:=dN;have z81:=Ff;have z3:=fH;have cK:=Fa s;have tw:=dp yw;have kS:al (∀p∈s,0<=p.1/\p.1<(yw.length:Int)):=⟨λp hp=>by have h1:=kown.out;unfold lj at h1;rw[bL,decide_eq_true_eq] at h1;have:=YE h1.1 hp;omega⟩;have ksz:=al.mk dm;generalize ((eY (ak aj 0) text l au:Nat):Int)=bi at *
 generalize ((eZ (ak aj 0) text l:Nat):Int)=ch at *
 have m1:=NU f bi;have a1:=Nm d (bX f bi);have m2:=NU ch (gZ yw s);have a2:=Nm (cQ d (bX f bi)) (bX ch (gZ yw s));clear km3 g gd fi w1 w2 w3 kown kqk dm e1 e2 hZ e;generalize cQ (cQ d (bX f bi)) (bX ch (gZ yw s))=r4 at *
 generalize bX ch (gZ yw s)=r3 at *
 generalize cQ d (bX f bi)=r2 at *
 generalize bX f bi=r1 at *
 have ka:=al.mk (av m1 (av a1 (av m2 a2)));clear m1 a1 m2 a2;have kb:=al.mk (av c11 c12);clear c11 c12;generalize aP ep X Y C=K at *
 unfold im at *
 refine bG @nY @bB @hH (av @eD @jH) ?_;refine my [(10,15)] xV fg (λp hp=>?_) ?_
 ·simp only[lu] at hp;subst hp;refine LA (x:=.elem 4 (eS l) j 3) (v:=.v (.int .i64 q.e)) fg rfl rfl fg (by simp[fe,lY]) ?_ ?_
  ·simp only[gl,fm];refine bG @nY @bB @hH (av @eD @jH) ?_;refine⟨by trivial,?_,by trivial,by trivial⟩;simp[ff,CC]
  ·simp only[gl,fm];exact mf @nY @bB @hH (av @eD (av @jH @and_self))
 repeat' (first|simp(maxSteps:=999999)(disch:=first|exact dZ|fail)only[gW,reduceIte,aZ,aQ,nY,bB,hH,eD,jH, *]|(refine dX ?_ ?_<;>(intro _;try omega))|refine dR xV fg ?_)
 refine bM.gen λe0 aF bD cN cH=>?_;have f1:e0.get 1=T:=by rw[aF];exact gS
 have f2:e0.get 2=L:=by rw[aF];exact gS
 have f3:e0.get 3=.v (.int .i64 au):=by rw[aF];exact gS
 have f4:e0.get 4=.list k sz (fV s):=by rw[aF];exact gS
 have f5:e0.get 5=.v (.int .i64 d):=by rw[aF];exact gS
 have f6:e0.get 6=.v (.int .i64 f):=by rw[aF];exact gS
 have f7:e0.get 7=.ptr (.box h.boxes.length) 0:=by rw[aF];exact gS
 have f19:e0.get 19=.list .held 1 (ints yw):=by rw[aF];exact gS
 have f22:e0.get 22=.v (.int .i64 (gZ yw (s.take 0))):=by rw[aF];exact gR
 have f23:e0.get 23=.v (.int .i64 (0:Nat)):=by rw[aF];exact gR
 have fd:e0.defers=[]:=by rw[bD];exact gS
 clear aF bD cN cH bx hH;clear c1 c2 c3 c4 c5 c6 c7 c8 c9 c10 l0 l1 ld2 jN N7 D2;refine cE (λm e H=>∃i:Nat,i<=s.length/\m=s.length - i/\e.get 1=T/\e.get 2=L/\e.get 3=.v (.int .i64 au)/\e.get 4=.list k sz (fV s)/\e.get 5=.v (.int .i64 d)/\e.get 6=.v (.int .i64 f)/\e.get 7=.ptr (.box h.boxes.length) 0/\e.get 19=.list .held 1 (ints yw)/\e.get 22=.v (.int .i64 (gZ yw (s.take i)))/\e.get 23=.v (.int .i64 (i:Nat))/\e.defers=[]/\H=H2) ?_ s.length _ _ ?_;rotate_left 1
 ·exact⟨0,cG _,rfl,f1,f2,f3,f4,f5,f6,f7,f19,f22,f23,fd,rfl⟩
 clear f1 f2 f3 f4 f5 f6 f7 f19 f22 f23 fd;rintro m e H ⟨i,hi,rfl,g1,g2,g3,g4,g5,g6,g7,g19,g22,g23,hd,rfl⟩;by_cases aB:i<s.length;rotate_left 1
 ·have:i=s.length:=by omega
  subst this;rw[fI] at g22;obtain⟨m1,a1,m2,a2⟩:=ka.out;obtain⟨c11,c12⟩:=kb.out;clear ka kb;generalize gZ yw s=ws at *
  unfold im at *
  refine bI @nY ?_;exact⟨_,_,rfl,kX2.out,by rw[km4.out]⟩
 have jr:sz=2:=ksz.out (by intro q;rw[q] at aB;simp at aB);subst jr;obtain⟨p,hp⟩:∃p,s[i]?=aa p:=⟨_,aT aB⟩;have lp0:=λH=>Hu (H:=H) (s:=2) hp;have lp1:=λH=>XR (H:=H) (s:=2) hp;obtain⟨p0,p1⟩:=kS.out p (dn hp);have fA:(i:Int)<(s.length:Int):=by omega
 have ly:=λH=>e7 (H:=H) (l:=yw) (i:=p.1.toNat) (s:=1) ah;have kw:=al.mk (abc (y:=yw) hp);have m3:=NU (ak yw p.1.toNat) p.2;have a3:=Nm (gZ yw (s.take i)) (bX (ak yw p.1.toNat) p.2);rw[<-kw.out] at a3;clear hp kw ka kb;obtain⟨ws2,Px⟩:∃w,gZ yw (s.take (i+1))=w:=⟨_,rfl⟩;rw[Px] at a3;have kws:=al.mk Px;clear Px;generalize gZ yw (s.take i)=ws at *
 generalize bX (ak yw p.1.toNat) p.2=ml at *
 generalize ak yw p.1.toNat=yv at *
 unfold im at *
 refine bG @nY @na @Jz @a9 ?_
 repeat' (first|simp(maxSteps:=999999)(disch:=first|exact dZ|fail)only[gW,reduceIte,aZ,aQ,nY,na,Jz,a9, *]|(refine dX ?_ ?_<;>(intro _;try omega))|refine dR xV fg ?_)
 exact⟨s.length - (i+1),by omega,i+1,by omega,rfl,by simp[kws.out]⟩
def aqR:Tryz.f74.results.toList=[.tmp 6,.tmp 7]:=by kernel_rfl
def anx(h:ao)(x y z:AV)(ae:List (List Int))(ag aj:List Int)(g:rI x y z ae ag aj)(row:Nat)(hr:row<ae.length):
 ∃r h',W8.call 74 [.agg [x,y],z,im (row:Nat)] h=aa (r,h')/\r=.ret (.tuple [im (gN aj (ae.getD row []):Nat),im 0]):=by
 have bx:=pQ g.x g.y;have c1:=Nt x y ae ag g.x g.y g.rl;rw[g.pe] at c1;have c2:=Ut x y z ae ag aj g.x g.y g.z g.cb;rw[cz g.cl,g.el,abt] at c2;have c4:=Zc x y z ae ag aj row g hr;have l0:=rk (bh h [x,y]);have l1:=pO (bh h [x,y]);have lx:=g.x.dW;have yi:¬((row:Nat):Int)<0:=by omega
 have Pe:¬((ae.length:Nat):Int)<=((row:Nat):Int):=by omega
 obtain⟨H0,hH⟩:∃H0,h.push [x,y]=H0:=⟨_,rfl⟩;rw[hH] at l0 l1;clear g hr;generalize ((gN aj (ae.getD row []):Nat):Int)=p2 at *
 unfold im at *
 refine da rfl Tryz.func74 rfl ?_;refine bG @aqR @bB @hH @dw ?_;exact⟨_,_,rfl,rfl⟩
def CV(R:Rec):Prop:=∀x y z ae ag aj,rI x y z ae ag aj->∀row:Nat,row<ae.length->∀h,R.call 74 [.agg [x,y],z,im (row:Nat)] h=aa (.ret (.tuple [im (gN aj (ae.getD row []):Nat),im 0]),h)
def CV.up{R}{L}(hg:L.contains 74=ai)(c:CV R):CV (up R L):=λx y z ae ag aj g row hr=>by obtain⟨g2,f1,f2,f3⟩:=g.hold;exact br (cA:=[.agg [aD x,aD y],aD z,im (row:Nat)]) hg rfl (by simp[aW,aL,f1,f2,f3,im]) (c _ _ _ ae ag aj g2 row hr _) rfl rfl
def agt:CV W9:=λx y z ae ag aj g row hr=>by obtain⟨g2,f1,f2,f3⟩:=g.hold;obtain⟨r,h',c,rfl⟩:=anx ⟨[],[],0,[]⟩ _ _ _ ae ag aj g2 row hr;exact br (L:=L9) (cA:=[.agg [aD x,aD y],aD z,im (row:Nat)]) rfl rfl (by simp[aW,aL,f1,f2,f3,im]) c rfl rfl
def ags:CV mE:=CV.up (L:=rJ) rfl agt
def Yl:zu mE 73:=P7.up rfl
def Vd{α:Type}(f:α->Nat):∀(l:List α) (n k:Nat),n * (l.foldl (λx p=>x * f p%P) k)%P=l.foldl (λx p=>x * f p%P) (n * k%P)
 | [],_,_=>rfl
 |a::l,n,k=>by rw[uJ,uJ,Vd f l n,Nat.mul_mod_mod,Nat.mod_mul_mod,Nat.mul_assoc]
def alN(c0)(text)(l)(p):iL c0 text l p * 1%P=iL c0 text l p:=by unfold iL;rw[Nat.mul_one,Nat.mod_mod]
def tM(ae:List (List Int))(aj W:List Int)(ch:Int)(n:Nat)(l:List Nat):Nat:=l.foldl (λa i=>a * bC (gN aj (ae.getD i [])) (ak W i * ch)%P) n
def U7{ae}{ag aj}{text}{l}{au z}(h:mN l au=ar∨cU z=az):tc ae ag aj text l au z=(az,1):=by
 unfold tc;cases uj:mN l au with
 |none=>rfl|some x=>
  rcases h with q|q
  ·rw[uj] at q;cases q
  ·simp only[q];rfl
def ahM{ae}{ag aj}{text}{l}{au z}{x}(h:mN l au=aa x)(hz:cU z=ai)(hk:x.au=au):tc ae ag aj text l au z=(decide (((bC Gn z:Nat):Int)=((tM ae aj (eF ae ag l) ((eZ (ak aj 0) text l:Nat):Int) (iL (ak aj 0) text l x) (eu ag au):Nat):Int)),0):=by
 unfold tc;rw[h];simp only[hz];have e:uD ae ag aj text l x=tM ae aj (eF ae ag l) ((eZ (ak aj 0) text l:Nat):Int) (iL (ak aj 0) text l x) (eu ag au):=by unfold uD tM;rw[Vd,alN,hk]
 rw[e];have e2:∀a b:Nat,decide (a=b)=decide ((a:Int)=(b:Int)):=λa b=>by rw[decide_eq_decide];omega
 rw[e2];rfl
def aug{ae}{aj W}{ch}{n}{l:List Nat}{i r}(h:l[i]?=aa r):tM ae aj W ch n (l.take (i+1))=tM ae aj W ch n (l.take i) * bC (gN aj (ae.getD r [])) (ak W r * ch)%P:=by unfold tM;rw[fW h,List.foldl_append];rfl
def auf{ae}{aj W}{ch}{n}{l}(hc:aj.all bN=ai)(hn:elem n=ai):elem (tM ae aj W ch n l)=ai:=AG (λi _=>vI (HL hc) _) hn
def adX{l}{i r:Nat}(h:l[i]?=aa r):ak (bP l) i=(r:Int):=by unfold bP ak;rw[dS,ev,h];rfl
def AN:Tryz.f23.results.toList=[.tmp 10,.tmp 11]:=by kernel_rfl
def ahF(h:ao)(ep:Int)(X Y C T L:AV)(ae:List (List Int))(ag aj:List Int)(text:List UInt8)(l:List Pr)(au z:Int)(g:oK X Y C T L ae ag aj text l)(cS:ae.length<=1000000)(oY:ag.length<=1000000)(dF:aj.length<=1000000)(eO:l.length<=1000000):
 ∃r h',mE.call 23 [.agg (aP ep X Y C),T,L,im au,im z] h=aa (r,h')/\Ext h h'/\r=.ret (.tuple [.v (.bool (lU ae ag ep aj text l au z).1),im (lU ae ag ep aj text l au z).2]):=by
 have bx:=g.cells ep;have c1:=Ug ep X Y C T L ae ag aj text l g cS dF eO;have b0:=bh h (aP ep X Y C);have kX:=al.mk (Ext.push h (aP ep X Y C));have l0:aI aq Gt (h.push (aP ep X Y C)) 27 (.ptr (.box h.boxes.length) 0)=aa (.agg (aP ep X Y C)):=Av b0 rfl;have l1:aI aq Gt (h.push (aP ep X Y C)) 25 (.ptr (.box h.boxes.length) 1)=aa (.agg [X,Y]):=by rw[iC sW y9 b0 (jZ rfl)];rfl
 have l3:aI aq Gt (h.push (aP ep X Y C)) 23 (.ptr (.box h.boxes.length) 3)=aa C:=ri b0 rfl;obtain⟨H0,hH⟩:∃H0,h.push (aP ep X Y C)=H0:=⟨_,rfl⟩;rw[hH] at l0 l1 l3 kX;have kE1:al (dA ae ag ep aj text l≠0->lU ae ag ep aj text l au z=(az,dA ae ag ep aj text l)):=⟨λq=>by unfold lU;rw[aG q]⟩;have kE2:al (dA ae ag ep aj text l=0->lU ae ag ep aj text l au z=tc ae ag aj text l au z):=⟨λq=>by unfold lU;rw[aH (by simp[q])]⟩;generalize lU ae ag ep aj text l au z=res at *
 clear b0;unfold im at c1;refine da rfl Tryz.func23 rfl ?_;by_cases q1:dA ae ag ep aj text l=0;rotate_left 1
 ·have kf:=al.mk (kE1.out q1);have bD:decide (dA ae ag ep aj text l=0)=az:=cT q1;generalize dA ae ag ep aj text l=be at *
  clear q1 g kE1 kE2;generalize aP ep X Y C=K at *
  unfold im;refine cR @AN @bB @hH ?_;exact⟨_,_,rfl,kX.out,by rw[kf.out]⟩
 have fi:=UZ q1;have gd:=g.UG q1 cS dF;have km:=al.mk (kE2.out q1);obtain⟨yw,w1,w2,w3⟩:=LR q1;rw[q1] at c1;obtain⟨i,hi,c2⟩:=Um L l au g.p eO;have c3:=Nu z;clear kE1 kE2 q1;rcases hi with⟨hn,rfl⟩|⟨j,q,rfl,hj,vm⟩
 ·have kf:al (res=(az,1)):=⟨by rw[km.out];exact U7 (.inl hn)⟩;clear hn km g gd fi w1 w2 w3 c3;generalize aP ep X Y C=K at *
  unfold im at *
  refine cR @AN @bB @hH ?_;exact⟨_,_,rfl,kX.out,by rw[kf.out]⟩
 have lF:j<l.length:=(aV.1 hj).1;have D2:(j:Int)<(l.length:Int):=by omega
 cases hz:cU z with
 |false=>
  have kf:al (res=(az,1)):=⟨by rw[km.out];exact U7 (.inr hz)⟩;rw[hz] at c3;clear hz km g gd fi w1 w2 w3 hj vm lF;generalize aP ep X Y C=K at *
  unfold im at *
  refine cR @AN @bB @hH ?_;exact⟨_,_,rfl,kX.out,by rw[kf.out]⟩
 |true=>
 rw[hz] at c3;obtain⟨oZ,nQ⟩:=KM vm;have km2:=al.mk (km.out.trans (ahM vm hz nQ));rw[w2] at km2;obtain⟨Wo,hW,c5⟩:=Uy X Y ae ag au g.x g.y oY;obtain⟨w5,-⟩:=o9 gd.pe;obtain⟨-,-,ld2,jN⟩:=Aw (s:=4) hj;have N7:dG aq 29 L (.v (.int .i64 (j:Nat)))=aa (.elem 4 (eS l) j 0):=by obtain⟨kp,sp,rfl,lH⟩:=g.p;have bF:sp=4:=lH fi.ne;subst bF;have:=a9 (k:=kp) (kk:=.i64) (es:=eS l) (a:=((j:Nat):Int)) uO rE ah (by rw[vG];omega);rw[this,dK]
 obtain⟨Z,hZ,c9⟩:=XG L l g.p eO;have c10:=S6 X Y Z ae ag (l.map Pr.au) g.x g.y hZ cS (by rw[bE];omega);rw[w1] at c10;rcases c10 with⟨_,e,-⟩|⟨y',e,-,c10⟩
 ·simp at e
 simp only[dj] at e;obtain rfl:=e.1;have ug:=fi.ok q oZ q.au bH;rw[nQ] at ug;have c11:=T9 ep X Y C T L ae ag aj text l au g fi ug;have c12:=Ud ep X Y C T L ae ag aj text l g fi;obtain⟨fF,yq⟩:=fi.el q oZ;have c13:=EK q.e ((eY (ak aj 0) text l au:Nat):Int);have c14:=Yl q.d (ft q.e ((eY (ak aj 0) text l au:Nat):Int));have hN:jx q.d (ft q.e ((eY (ak aj 0) text l au:Nat):Int))=((iL (ak aj 0) text l q:Nat):Int):=by rw[yg fF (uX yq _),ox yq];unfold iL;rw[dK,nQ];unfold eY;rw[HJ]
 rw[hN] at c14;have bO:=Cr (c0:=ak aj 0) (text:=text) (l:=l) fF yq;have c15:=EK 4 z;rw[ox r9,show(4:Int).toNat=Gn from rfl] at c15;have kg:=al.mk (av gd (av bO (av w3 w5)));obtain⟨kw,sw,rfl,Ej⟩:=hW;have ksw:=al.mk Ej;have cK:=dp (bP (eu ag au));have wU:(bP (eu ag au)).length=(eu ag au).length:=by unfold bP;rw[bE]
 rw[wU] at cK;have O7:=al.mk wU;have lW:=IL.dW (x:=.list kw sw (ints (bP (eu ag au)))) ⟨_,_,rfl,Ej⟩;rw[wU] at lW;have u23:=dN;have z3:=fH;have tw:=dp yw;have vn:(eu ag au).length<=1000000:=by have:=List.length_filter_le (λi=>decide (ak ag i=au)) (List.range ag.length);rw[List.length_range] at this;unfold eu;omega
 have kS:al (∀r∈eu ag au,r<ae.length):=⟨λr hr=>by have:=ZD hr;omega⟩;have k15:=al.mk c15;generalize ((eY (ak aj 0) text l au:Nat):Int)=bi at *
 generalize ((eZ (ak aj 0) text l:Nat):Int)=ch at *
 generalize iL (ak aj 0) text l q=no at *
 generalize ft q.e bi=pw at *
 generalize eu ag au=R at *
 clear km g fi w1 w2 hj vm lF hz oZ nQ gd w3 hZ e ug fF yq hN bO Ej wU c15 w5;have k12:=al.mk c12;clear c12;generalize aP ep X Y C=K at *
 unfold im at *
 refine bG @AN @bB @hH (av @eD (av @iP @jH)) ?_
 repeat' (first|simp(maxSteps:=999999)(disch:=first|exact dZ|fail)only[gW,reduceIte,aZ,aQ,AN,bB,hH,eD,iP,jH, *]|(refine dX ?_ ?_<;>(intro _;try omega))|refine dR xV fg ?_)
 refine bM.gen λe0 aF bD cN cH=>?_;have f1:e0.get 1=T:=by rw[aF];exact gS
 have f2:e0.get 2=L:=by rw[aF];exact gS
 have f4:e0.get 4=.v (.int .i64 z):=by rw[aF];exact gS
 have f5:e0.get 5=.ptr (.box h.boxes.length) 0:=by rw[aF];exact gS
 have f14:e0.get 14=.list .held 1 (ints yw):=by rw[aF];exact gS
 have f17:e0.get 17=.v (.int .i64 (tM ae aj yw ch no (R.take 0):Nat)):=by rw[aF];exact gR
 have f18:e0.get 18=.list kw sw (ints (bP R)):=by rw[aF];exact gS
 have f19:e0.get 19=.v (.int .i64 (0:Nat)):=by rw[aF];exact gR
 have fd:e0.defers=[]:=by rw[bD];exact gS
 clear aF bD cN cH bx hH;clear c1 c2 c3 c5 c9 c10 c11 c13 c14 ld2 jN N7 D2;refine cE (λm e H=>∃i:Nat,i<=R.length/\m=R.length - i/\e.get 1=T/\e.get 2=L/\e.get 4=.v (.int .i64 z)/\e.get 5=.ptr (.box h.boxes.length) 0/\e.get 14=.list .held 1 (ints yw)/\e.get 17=.v (.int .i64 (tM ae aj yw ch no (R.take i):Nat))/\e.get 18=.list kw sw (ints (bP R))/\e.get 19=.v (.int .i64 (i:Nat))/\e.defers=[]/\H=H0) ?_ R.length _ _ ?_;rotate_left 1
 ·exact⟨0,cG _,rfl,f1,f2,f4,f5,f14,f17,f18,f19,fd,rfl⟩
 clear f1 f2 f4 f5 f14 f17 f18 f19 fd;rintro m e H ⟨i,hi,rfl,g1,g2,g4,g5,g14,g17,g18,g19,hd,rfl⟩;by_cases aB:i<R.length;rotate_left 1
 ·have:i=R.length:=by omega
  subst this;rw[fI] at g17;have c15:=k15.out;generalize ((tM ae aj yw ch no R:Nat):Int)=wv at *
  generalize ((bC Gn z:Nat):Int)=pz at *
  clear k15 k12;unfold im at *
  refine bI @AN ?_;exact⟨_,_,rfl,kX.out,by rw[km2.out]⟩
 have bF:sw=1:=ksw.out (by intro q;have:=O7.out;rw[q] at this;simp at this;omega);subst bF;obtain⟨r,hr⟩:∃r,R[i]?=aa r:=⟨_,aT aB⟩;have Ed:=kS.out r (dn hr);obtain⟨gd,bO,w3,w5⟩:=kg.out;have lw:=λH=>e7 (H:=H) (l:=bP R) (i:=i) (s:=1) (by have:=O7.out;omega);rw[adX hr] at lw;have ly:=λH=>e7 (H:=H) (l:=yw) (i:=r) (s:=1) ah;have cp:=ags X Y C ae ag aj gd r Ed;have tz:=HL (row:=ae.getD r []) gd.el;have p1:=EK ((gN aj (ae.getD r []):Nat):Int) (ak yw r);rw[ox (qi tz),dK] at p1;have p2:=EK ((bC (gN aj (ae.getD r [])) (ak yw r):Nat):Int) ch;rw[ox (qi (vI tz _)),dK,<-EM tz] at p2;have p3:=Yl ((tM ae aj yw ch no (R.take i):Nat):Int) ((bC (gN aj (ae.getD r [])) (ak yw r * ch):Nat):Int);rw[JK (auf gd.el bO) (vI tz _),<-aug hr] at p3;obtain⟨wn,Pw⟩:∃w,((tM ae aj yw ch no (R.take (i+1)):Nat):Int)=w:=⟨_,rfl⟩;rw[Pw] at p3;have kwn:=al.mk Pw;have c12:=k12.out;have fA:(i:Int)<(R.length:Int):=by omega
 have Pe:(r:Int)<(yw.length:Int):=by omega
 clear Pw hr Ed gd bO w3 w5 tz k12 k15;generalize ((tM ae aj yw ch no (R.take i):Nat):Int)=wo at *
 generalize ((bC (gN aj (ae.getD r [])) (ak yw r * ch):Nat):Int)=pa at *
 generalize ((bC (gN aj (ae.getD r [])) (ak yw r):Nat):Int)=pb at *
 generalize ((gN aj (ae.getD r []):Nat):Int)=pc at *
 generalize ak yw r=yr at *
 unfold im at *
 refine bG @AN @eD @iP @a9 ?_
 repeat' (first|simp(maxSteps:=999999)(disch:=first|exact dZ|fail)only[gW,reduceIte,aZ,aQ,AN,eD,iP,a9, *]|(refine dX ?_ ?_<;>(intro _;try omega))|refine dR xV fg ?_)
 exact⟨R.length - (i+1),by omega,i+1,by omega,rfl,by simp[kwn.out]⟩
section
variable (R:Rec)
def CW:Prop:=∀h,R.call 15 [] h=aa (.ret (.v (.bool ai)),h)
def Mc:Prop:=∀ep X Y C T L ae ag aj text l,oK X Y C T L ae ag aj text l->aj.length<=1000000->l.length<=1000000->
 (dA ae ag ep aj text l≠0/\∀h,R.call 17 [.agg (aP ep X Y C),T,L] h=aa (.ret (.tuple [.list .nil 0 [],im 0,im 0,im (dA ae ag ep aj text l)]),h))∨
  (dA ae ag ep aj text l=0/\∃Z,IL Z (wk (ak aj 0) text l)/\∀h,R.call 17 [.agg (aP ep X Y C),T,L] h=aa (.ret (.tuple [Z,im ((gV (ak aj 0) text l:Nat):Int),im ((eZ (ak aj 0) text l:Nat):Int),im 0]),h))
end
section
variable {R:Rec} {L:List bm}
def CW.up(hg:L.contains 15=ai)(c:CW R):CW (up R L):=br hg rfl rfl (c _) rfl rfl
def Mc.up(hg:L.contains 17=ai)(c:Mc R):Mc (up R L):=λep X Y C T L' ae ag aj text l g q1 q2=>by
 obtain⟨g2,f1,f2,f3,f4,f5⟩:=g.hold;rcases c ep _ _ _ _ _ ae ag aj text l g2 q1 q2 with⟨q,c⟩|⟨q,Z,hZ,c⟩
 ·exact .inl ⟨q,br (cA:=[.agg (aP ep (aD X) (aD Y) (aD C)),aD T,aD L']) hg rfl (by simp[aP,aW,aL,f1,f2,f3,f4,f5]) (c _) rfl rfl⟩
 ·obtain⟨z1,z2⟩:=hZ.Hn ⟨[],[],0,[]⟩;exact .inr ⟨q,_,z1,br (cA:=[.agg (aP ep (aD X) (aD Y) (aD C)),aD T,aD L']) hg rfl (by simp[aP,aW,aL,f1,f2,f3,f4,f5]) (c _) rfl (by simp[im,tE,aL,aW,z2,jM])⟩
end
def agy:CW W7:=by obtain⟨r,h',c,-,rfl⟩:=ary ⟨[],[],0,[]⟩ rfl;exact br (L:=L7) rfl rfl rfl c rfl rfl
def agx:CW mE:=((agy.up (L:=L8) rfl).up (L:=L9) rfl).up (L:=rJ) rfl
section
variable (R:Rec)
def Fs:Prop:=∀ep X Y C T L ae ag aj text l S s au d f,oK X Y C T L ae ag aj text l->SL S s->aj.length<=1000000->l.length<=1000000->s.length<=1000000->∀h,R.call 20 [.agg (aP ep X Y C),T,L,im au,S,im d,im f] h=aa (.ret (.tuple [im (lq ae ag ep aj text l au s d f).1,im (lq ae ag ep aj text l au s d f).2]),h)
def Fp:Prop:=∀ep X Y C T L ae ag aj text l au z,oK X Y C T L ae ag aj text l->aj.length<=1000000->l.length<=1000000->∀h,R.call 22 [.agg (aP ep X Y C),T,L,im au,im z] h=aa (.ret (.tuple [.v (.bool (lU ae ag ep aj text l au z).1),im (lU ae ag ep aj text l au z).2]),h)
end
section
variable {R:Rec} {L:List bm}
def Fs.up(hg:L.contains 20=ai)(c:Fs R):Fs (up R L):=λep X Y C T L' ae ag aj text l S s au d f g hs q1 q2 q3=>by obtain⟨g2,f1,f2,f3,f4,f5⟩:=g.hold;obtain⟨h1,h2⟩:=hs.hold;exact br (cA:=[.agg (aP ep (aD X) (aD Y) (aD C)),aD T,aD L',im au,aD S,im d,im f]) hg rfl (by simp[aP,im,aW,aL,f1,f2,f3,f4,f5,h2]) (c ep _ _ _ _ _ ae ag aj text l _ s au d f g2 h1 q1 q2 q3 _) rfl rfl
def Fp.up(hg:L.contains 22=ai)(c:Fp R):Fp (up R L):=λep X Y C T L' ae ag aj text l au z g q1 q2=>by obtain⟨g2,f1,f2,f3,f4,f5⟩:=g.hold;exact br (cA:=[.agg (aP ep (aD X) (aD Y) (aD C)),aD T,aD L',im au,im z]) hg rfl (by simp[aP,im,aW,aL,f1,f2,f3,f4,f5]) (c ep _ _ _ _ _ ae ag aj text l au z g2 q1 q2 _) rfl rfl
end
def afX:Fs mE:=(((Fs.up (R:=W6) (L:=L7) rfl λep X Y C T L ae ag aj text l S s au d f g hs q1 q2 q3=>Yc ep X Y C T L ae ag aj text l g.x g.y g.c g.t g.p q1 q2 S s au d f hs q3).up (L:=L8) rfl).up (L:=L9) rfl).up (L:=rJ) rfl
def afF:Fp mE:=(((Fp.up (R:=W6) (L:=L7) rfl λep X Y C T L ae ag aj text l au z g q1 q2=>NJ ep X Y C T L ae ag aj text l g.x g.y g.c g.t g.p q1 q2 au z).up (L:=L8) rfl).up (L:=L9) rfl).up (L:=rJ) rfl
def Q9:Tryz.f4.results.toList=[.tmp 16]:=by kernel_rfl
def aky(h:ao)(ep:Int)(X Y C T L S:AV)(ae:List (List Int))(ag aj:List Int)(text:List UInt8)(l:List Pr)(s:List (Int × Int))(au d f z:Int)(g:oK X Y C T L ae ag aj text l)(hs:SL S s):
 ∃r h',mE.call 4 [.agg (aP ep X Y C),T,L,im au,S,im d,im f,im z] h=aa (r,h')/\r=.ret (.v (.bool ai)):=by
 have bx:=g.cells ep;have cs:=agx;obtain⟨b,hb,cf⟩:=afB ep X Y C T L ae ag aj text l g.x g.y g.c g.t g.p;have b0:=bh h (aP ep X Y C);have l0:=Av b0 rfl;have lS:=hs.dW;unfold CW at cs;cases b with
 |false=>
  clear g hb hs b0;obtain⟨H0,hH⟩:∃H0,h.push (aP ep X Y C)=H0:=⟨_,rfl⟩;rw[hH] at l0;generalize aP ep X Y C=K at *
  unfold im;refine da rfl Dk rfl ?_
  repeat' (first|simp(maxSteps:=999999)(disch:=first|exact dZ|fail)only[gW,reduceIte,aZ,aQ,Q9,bB,hH, *]|refine dX ?_ ?_<;>(intro _;try omega))
  exact⟨_,_,rfl,rfl⟩
 |true=>
 obtain⟨b1,b2,b3,b4,b5⟩:=hb rfl;by_cases kK:80<s.length
 ·have hsI:(80:Int)<((s.length:Nat):Int):=by omega
  clear g hb hs b0 kK;obtain⟨H0,hH⟩:∃H0,h.push (aP ep X Y C)=H0:=⟨_,rfl⟩;rw[hH] at l0;generalize aP ep X Y C=K at *
  unfold im;refine da rfl Dk rfl ?_
  repeat' (first|simp(maxSteps:=999999)(disch:=first|exact dZ|fail)only[gW,reduceIte,aZ,aQ,Q9,bB,hH, *]|refine dX ?_ ?_<;>(intro _;try omega))
  exact⟨_,_,rfl,rfl⟩
 have hsI:¬(80:Int)<((s.length:Nat):Int):=by omega
 have c20:=afX ep X Y C T L ae ag aj text l S s au d f g hs ah ah ah;have c22:=afF ep X Y C T L ae ag aj text l au z g ah ah;obtain⟨_,H2,c21,x2,rfl⟩:=ali (h.push (aP ep X Y C)) ep X Y C T L S ae ag aj text l s au d f g hs ah ah ah ah ah;obtain⟨_,H3,c23,x3,rfl⟩:=ahF H2 ep X Y C T L ae ag aj text l au z g ah ah ah ah;have l2:=Av (x2.box _ _ b0) rfl;obtain⟨H0,hH⟩:∃H0,h.push (aP ep X Y C)=H0:=⟨_,rfl⟩;rw[hH] at l0 c21;clear g hb hs b0 x2 x3 kK b1 b2 b3 b4 b5;generalize lq ae ag ep aj text l au s d f=pm at *
 generalize lU ae ag ep aj text l au z=pf at *
 generalize pm.1=m1 at *
 generalize pm.2=m2 at *
 generalize pf.1=p1 at *
 generalize pf.2=p2 at *
 generalize aP ep X Y C=K at *
 unfold im at *
 refine da rfl Dk rfl ?_;have u4:=Tryz.underlying4;cases p1<;>(
  repeat' (first|simp(maxSteps:=999999)(disch:=first|exact dZ|fail)only[gW,reduceIte,aZ,aQ,Q9,bB,hH,aeg, *]|refine dX ?_ ?_<;>(intro _;try omega))
  exact⟨_,_,rfl,by simp⟩)
end Go.Proofs.YtnfciiiohoafaaaGreatDoor
end
section
namespace Go.Proofs.YtnfciiiohoafaaaGreatDoor
open Go.AE Go.NT Go.RowKit
def arF:ownKnob aq.godebug=ar:=aw
def arD:(aq.funcs.all λfn=>match fn.body with|some c=>codeOk fn.ntmps c|none=>ai)=ai:=aw
def arE : (aq.funcs.all λfn => !(fn.name == "runtime.NumGoroutine")) = ai := aw
def vQ:Prog aq:=⟨λg fn h=>by
 have:=LZ.1 arE fn (abk h);simpa using this,aw,λg fn c h hb=>by
 have:=LZ.1 arD fn (abk h);simpa [hb] using this⟩
def wC:∀g cs,Gt g=aa cs->aW 0 0 0 cs=ai:=by
 intro g cs h;unfold Gt at h;split at h
 ·injection h with h;subst h;kernel_rfl
 ·split at h
  ·injection h with h;subst h;kernel_rfl
  ·split at h
   ·injection h with h;subst h;rfl
   ·cases h
noncomputable def aeS(L:List bm):Bool:=L.all λg=>match aq.funcs[g]? with|some fn=>fn.body.isSome|none=>az
def tW{L}(h:aeS L=ai):∀g∈L,∃fn,aq.funcs[g]?=aa fn/\fn.body.isSome=ai:=by
 intro g hg;have:=ej.1 h g hg;split at this
 ·rename_i fn hf;exact⟨fn,hf,this⟩
 ·cases this
def uN(p:bm->Option (List AV->ao->Option (AV × ao))):Prop:=∀V g q,p g=aa q->sT aq Gt V g q
def amW:uN aN:=λV g q h=>by cases h
def amX:uN Qy:=xW vQ wC amW (tW aw)
def amZ:uN QA:=xW vQ wC amX (tW aw)
def am0:uN QB:=xW vQ wC amZ (tW aw)
def am1:uN EN:=xW vQ wC am0 (tW aw)
def am2:uN EO:=alv vQ wC am1 (tW aw) (tW aw)
def am3:uN QC:=xW vQ wC am2 (tW aw)
def It:List Int:=NT.start.map λv=>((v.toNat:Nat):Int)
def HD:List Int:=NT.Ev.map λ(n:Nat)=>(n:Int)
def aa2{K}{l:List Int}:aS K (l.map λn=>AV.v (.int .u32 n)) (l.map λn=>Value.int .u32 n):=by
 induction l with
 |nil=>exact .nil|cons n l ih=>exact .cons _ _ _ _ (.v _ rfl) ih
def ait{W}(h:laidMetH aq Rows.partialSignsRow.laid W):∀g cs,Gt g=aa cs->∃cells,aS (aY.init W) cs cells/\∀(j:Nat) (c:aR),cells[j]?=aa c->W.cell? ⟨g,j,ar⟩=aa c:=by
 rw[MakeChecks.laidMetH_plain _ _ _ aw] at h;have e1:(Lib.tabData .u32 It:DataW Unit)=Rows.laid_signatory_digest_start:=aw;have e2:(Lib.tabData .u32 HD:DataW Unit)=Rows.laid_signatory_digest_numbers:=aw;intro g cs hg;unfold Gt at hg;split at hg
 ·rename_i h0;injection hg with hg;subst hg;subst h0;have t := Lib.tabIs_of_head (n := 8) (g := 0) (t := 229) (e := 42) (zs := It) (k := .u32) (name := "signatory/digest.start") aw aw aw aw aw aw (by rw [e1]; exact h);refine⟨It.map λn=>Value.int .u32 n,?_,λj c hc=>?_⟩
  ·have:Rw=It.map λn=>AV.v (.int .u32 n):=(by unfold Rw It aU;rw[AZ];rfl);rw[this];exact aa2
  ·rw[ev,dy] at hc;obtain⟨n,hn,rfl⟩:=hc;have hl:=(aV.1 hn).1;rw[t.cell aw j hl,dS,hn];rfl
 ·split at hg
  ·rename_i _ h0;injection hg with hg;subst hg;subst h0;have t := Lib.tabIs_of_head (n := 64) (g := 1) (t := 242) (e := 42) (zs := HD) (k := .u32) (name := "signatory/digest.numbers") aw aw aw aw aw aw (by rw [e2]; exact h.tail);refine⟨HD.map λn=>Value.int .u32 n,?_,λj c hc=>?_⟩
   ·have:HC=HD.map λn=>AV.v (.int .u32 n):=(by unfold HC HD;rw[AZ];rfl);rw[this];exact aa2
   ·rw[ev,dy] at hc;obtain⟨n,hn,rfl⟩:=hc;have hl:=(aV.1 hn).1;rw[t.cell aw j hl,dS,hn];rfl
  ·split at hg
   ·injection hg with hg;subst hg;exact⟨[],.nil,λj c hc=>by simp at hc⟩
   ·cases hg
section
variable {H:Type}
def Jn:aq.cellsOf 3=1:=aw
def cc5:aq.cellsOf 5=1:=aw
def afv:aq.cellsOf 22=1:=aw
def Ns:aq.cellsOf 23=1:=aw
def afw:aq.cellsOf 25=2:=aw
def as0:AQ aq 25 [(22,0),(23,1)]=ai:=aw
def Oa{cs:List AV}{d:DataW H}(h:Has aq 23 cs d):∃x l,cs=[x]/\IL x l:=by
 obtain⟨k,es,rfl,hl,-,-,he⟩:=h.CB dN;obtain⟨l,rfl⟩:∃l:List Int,es=l.map yL:=K5 λr hr=>by obtain⟨-,d,hd⟩:=he r hr;obtain⟨n,hn,-⟩:=hd.sF sV;exact⟨n,hn⟩
 exact⟨_,l,rfl,k,_,rfl,λ_=>Jn⟩
def aiO{cs:List AV}{d:DataW H}(h:Has aq 22 cs d):∃x ae,cs=[x]/\RL x ae:=by
 obtain⟨k,es,rfl,hl,-,-,he⟩:=h.CB ir;have hh:∀r∈es,∃x l,r=[x]/\IL x l:=λr hr=>by obtain⟨-,d,hd⟩:=he r hr;exact Oa hd
 clear hl he;have key:∀es:List (List AV),(∀r∈es,∃x l,r=[x]/\IL x l)->∃(xs:List AV) (ae:List (List Int)),es=xs.map (λa=>[a])/\xs.length=ae.length/\∀(i:Nat) (a:AV) (r:List Int),xs[i]?=aa a->ae[i]?=aa r->IL a r:=by
  intro es
  induction es with
  |nil=>intro _;exact⟨[],[],rfl,rfl,λi a r ha=>by simp at ha⟩|cons e es ih=>
   intro hh;obtain⟨x,l,rfl,hx⟩:=hh e gj;obtain⟨xs,ae,rfl,h1,h2⟩:=ih λr hr=>hh r (fN _ hr);refine⟨x::xs,l::ae,rfl,by simp[h1],λi a r ha hr=>?_⟩;cases i with|zero=>simp at ha hr;subst ha;subst hr;exact hx|succ i=>exact h2 i a r (by simpa using ha) (by simpa using hr)
 obtain⟨xs,ae,rfl,h1,h2⟩:=key es hh;exact⟨_,ae,rfl,k,_,xs,rfl,λ_=>Ns,h1,h2⟩
def aiL{x:AV}{d:DataW H}(h:lM aq 28 x d):∃l:List UInt8,BL x l:=by
 obtain⟨k,es,rfl,h2,-,-,h4⟩:=h.CB Tryz.underlying28;obtain⟨l,rfl⟩:=K5 (f:=j8) λr hr=>by obtain⟨-,d,h5⟩:=h4 r hr;exact h5.RP aw
 exact⟨l,k,_,rfl,λ_=>cc5⟩
end
def am4:uN QD:=xW vQ wC am3 (tW aw)
def am5:uN QE:=xW vQ wC am4 (tW aw)
def am6:uN QF:=xW vQ wC am5 (tW aw)
def amY:uN Qz:=xW vQ wC am6 (tW aw)
section
variable {H:Type}
def afx:aq.cellsOf 27=4:=aw
def Uc:aq.cellsOf 85=4:=aw
def as1:AQ aq 27 [(3,0),(25,1),(23,3)]=ai:=aw
def as3:AQ aq 85 [(3,0),(3,1),(3,2),(3,3)]=ai:=aw
def PU{l:List AV}(h:l.length=4):∃a b c d,l=[a,b,c,d]:=by
 match l,h with
 | [a,b,c,d],_=>exact⟨a,b,c,d,rfl⟩
def aiM{x:AV}{d:DataW H}(h:lM aq 27 x d):∃ep X Y C ae ag aj,x=.agg (aP ep X Y C)/\RL X ae/\IL Y ag/\IL C aj:=by obtain⟨xs,rfl,hl,hg⟩:=h.fields as1;rw[afx] at hl;obtain⟨a,b,c,e,rfl⟩:=PU hl;obtain⟨_,q0⟩:=hg 0 3 0 rfl;obtain⟨_,q1⟩:=hg 1 25 1 rfl;obtain⟨_,q2⟩:=hg 2 23 3 rfl;rw[Jn] at q0;rw[afw] at q1;rw[Ns] at q2;obtain⟨ku,DX⟩:=q1.fields as0;obtain⟨_,p0⟩:=DX 0 22 0 rfl;obtain⟨_,p1⟩:=DX 1 23 1 rfl;rw[afv] at p0;rw[Ns] at p1;obtain⟨n,e0,-⟩:=q0.sF sV;obtain⟨X,ae,e1,hx⟩:=aiO p0;obtain⟨Y,ag,e2,hy⟩:=Oa p1;obtain⟨C,aj,e3,hc⟩:=Oa q2;simp at e0 e1 e2 e3;subst e0;subst e1;subst e2;subst e3;exact⟨n,_,_,_,ae,ag,aj,rfl,hx,hy,hc⟩
def aiN{x:AV}{d:DataW H}(h:lM aq 29 x d):∃l,PL x l:=by
 obtain⟨k,es,rfl,hl,-,-,he⟩:=h.CB uO;obtain⟨l,rfl⟩:∃l:List Pr,es=l.map bQ:=K5 λr hr=>by obtain⟨-,d,hd⟩:=he r hr;obtain⟨hl,hg⟩:=hd.fields as3;rw[Uc] at hl;obtain⟨a,b,c,e,rfl⟩:=PU hl;obtain⟨_,q0⟩:=hg 0 3 0 rfl;obtain⟨_,q1⟩:=hg 1 3 1 rfl;obtain⟨_,q2⟩:=hg 2 3 2 rfl;obtain⟨_,q3⟩:=hg 3 3 3 rfl;rw[Jn] at q0 q1 q2 q3;obtain⟨n0,e0,-⟩:=q0.sF sV;obtain⟨n1,e1,-⟩:=q1.sF sV;obtain⟨n2,e2,-⟩:=q2.sF sV;obtain⟨n3,e3,-⟩:=q3.sF sV;simp at e0 e1 e2 e3;subst e0;subst e1;subst e2;subst e3;exact⟨⟨n0,n1,n2,n3⟩,rfl⟩
 exact⟨l,k,_,rfl,λ_=>Uc⟩
def XI:List aK:=[3,4,5,22,23,25,27,28,29,36,81,85]
end
section
variable {H:Type}
def Ub:aq.cellsOf 81=2:=aw
def as2:AQ aq 81 [(3,0),(3,1)]=ai:=aw
def aiP{x:AV}{d:DataW H}(h:lM aq 36 x d):∃l,SL x l:=by
 obtain⟨k,es,rfl,hl,-,-,he⟩:=h.CB Dl;obtain⟨l,rfl⟩:∃l:List (Int × Int),es=l.map λp=>[im p.1,im p.2]:=K5 λr hr=>by
  obtain⟨-,d,hd⟩:=he r hr;obtain⟨hl,hg⟩:=hd.fields as2;rw[Ub] at hl;obtain⟨a,b,rfl⟩:∃a b,r=[a,b]:=by
   match r,hl with
   | [a,b],_=>exact⟨a,b,rfl⟩
  obtain⟨_,q0⟩:=hg 0 3 0 rfl;obtain⟨_,q1⟩:=hg 1 3 1 rfl;rw[Jn] at q0 q1;obtain⟨n0,e0,-⟩:=q0.sF sV;obtain⟨n1,e1,-⟩:=q1.sF sV;simp at e0 e1;subst e0;subst e1;exact⟨(n0,n1),rfl⟩
 exact⟨l,k,_,rfl,λ_=>Ub⟩
end
end Go.Proofs.YtnfciiiohoafaaaGreatDoor
end
section
namespace Go.AE
open Go.RowKit Go.WideShapes Go.ChangeShapes
def HE(P:bK)(S:List aK)(t:aK):Bool:=
 match P.underlying t with
 |some .bool|some (.int _)|some .string=>ai
 |some (.slice e)=>S.contains e&&decide (0<P.cellsOf e)
 |some (.struct fs)=>CE P 0 fs.toList (P.cellsOf t)&&fs.toList.all λf=>S.contains f.type
 |some (.array m e)=>Nat.beq (P.cellsOf t) (m * P.cellsOf e)&&S.contains e
 |_=>az
def KH(P:bK)(S:List aK):Bool:=S.all (HE P S)
section
variable {H:Type} {enc:aK × aR->H} {P:bK} {W:World}
def atH{S:List aK}(hS:KH P S=ai):∀(fuel:Nat) (t:aK) (cs:List aR) (x:DataW H × List MemPlace),DataW.trod enc P W 0 (λ_=>ai) ai fuel t cs=aa x->S.contains t=ai->
 ∃xs,aS (aY.init W) xs cs/\xs.all AV.ek=ai/\Has P t xs x.1:=by
 intro fuel
 induction fuel with
 |zero=>intro t cs x h;simp[DataW.trod] at h|succ fuel ih=>
  intro t cs x h iR;have bJ:HE P S t=ai:=ej.1 hS t (by simpa using iR);unfold HE at bJ;split at bJ
  ·rename_i hu;obtain⟨b,rfl,rfl⟩:=DataW.trod_bool hu h;exact⟨_,.cons _ _ _ _ (.v _ rfl) .nil,rfl,.bool hu b⟩
  ·rename_i k hu;obtain⟨m,rfl,rfl,hw⟩:=DataW.trod_int hu h;exact⟨_,.cons _ _ _ _ (.v _ rfl) .nil,rfl,.int hu m hw⟩
  ·rename_i hu;obtain⟨s,rfl,rfl,hs⟩:=DataW.trod_string hu h;exact⟨_,.cons _ _ _ _ (.v _ rfl) .nil,rfl,.str hu s hs⟩
  ·rename_i e hu;rw[bL,decide_eq_true_eq] at bJ;obtain⟨ajK,lG⟩:=bJ;rcases DataW.trod_slice hu h with⟨rfl,rfl⟩|⟨a,len,aC,elems,rest,m,hm,rfl,rfl,-,OI,vi,Ad,ajd,ajT,-⟩
   ·exact⟨_,.cons _ _ _ _ (.nil _) .nil,rfl,.none hu⟩
   ·have hm:m=fuel:=(by omega);subst hm;obtain⟨cS,Hd⟩:=ajT rfl;have elemAt:∀i,i<len->∃vs r y,W.cells? 0 (a.add (i * P.cellsOf e)) (P.cellsOf e)=aa vs/\elems[i]?=aa y/\aS (aY.init W) r vs/\r.all AV.ek=ai/\Has P e r y.1:=by
     intro i hi;have h1:=ajd i hi;rw[aT (by omega:i<elems.length)] at h1;cases hc:W.cells? 0 (a.add (i * P.cellsOf e)) (P.cellsOf e) with
     |none=>rw[hc] at h1;cases h1
     |some vs=>rw[hc] at h1;obtain⟨r,g1,g2,g3⟩:=ih e vs _ h1 ajK;exact⟨vs,r,_,rfl,aT _,g1,g2,g3⟩
    by_cases jy:aC=0
    ·have bZ:len=0:=(by omega);subst jy;subst bZ;have he:elems=[]:=List.eq_nil_of_length_eq_zero Ad;subst he;refine⟨[.list .tight (P.cellsOf e) []],.cons _ _ _ _ (.js _ _) .nil,rfl,?_⟩;show Has P t _ (.slice [] (rest.map (·.1)));exact .list hu .tight [] [] (rest.map (·.1)) (.inr ⟨rfl,rfl⟩) (cG _) rfl bH bH
    ·-- the block is there
     have WY:a.spot=ar:=by
      have:∃vs,W.cells? 0 (a.add 0) (P.cellsOf e)=aa vs:=by
       rcases Nat.eq_zero_or_pos len with h0|h0
       ·have h1:=Hd 0 ah;rw[aT (by omega:0<rest.length)] at h1;cases hc:W.cells? 0 (a.add ((len+0) * P.cellsOf e)) (P.cellsOf e) with
        |none=>rw[hc] at h1;cases h1
        |some vs=>rw[h0] at hc;exact⟨vs,by simpa using hc⟩
       ·obtain⟨vs,_,_,hc,_⟩:=elemAt 0 h0;exact⟨vs,by simpa using hc⟩
      obtain⟨vs,fU⟩:=this;obtain⟨hl,hg⟩:=Uf fU;have h0:=hg 0 lG;rw[aT (by omega:0<vs.length)] at h0;have:(a.add 0).add 0=a:=(by simp[Addr.add]);rw[this] at h0;exact aso h0
     obtain⟨g,off,sp⟩:=a;simp only at WY;subst WY;have ae:∀k,k<=len->∃es:List (List AV),es.length=k/\(∀r∈es,r.length=P.cellsOf e/\r.all AV.ek=ai)/\(∀(i:Nat) (r:List AV) (d:DataW H),es[i]?=aa r->(elems.map (·.1))[i]?=aa d->Has P e r d)/\
      ∃cells:List aR,cells.length=k * P.cellsOf e/\aS (aY.init W) es.flatten cells/\∀(j:Nat) (c:aR),cells[j]?=aa c->W.cell? ⟨g,off+j,ar⟩=aa c:=by
      intro k
      induction k with
      |zero=>intro _;exact⟨[],rfl,by simp,by simp,[],by simp,.nil,by simp⟩|succ k ihk=>
       intro hk;obtain⟨es,e1,e2,e3,cells,c1,c2,c3⟩:=ihk ah;obtain⟨vs,r,y,hc,hy,g1,g2,g3⟩:=elemAt k ah;obtain⟨pN,hvg⟩:=Uf hc;refine⟨es++[r],by simp[e1],λr' fY=>?_,λi r' d hi hd=>?_,cells++vs,by simp[c1,pN,gI],?_,λj c hj=>?_⟩
       ·rcases List.mem_append.1 fY with h1|h1
        ·exact e2 r' h1
        ·simp only[lu] at h1;subst h1;exact⟨by rw[g1.length,pN],g2⟩
       ·rcases sf hi with h1|⟨h1,rfl⟩
        ·exact e3 i r' d h1 hd
        ·rw[h1,e1,ev,hy] at hd;simp only[eW,dM] at hd;subst hd;exact g3
       ·rw[List.flatten_append];simpa using c2.append g1
       ·rcases dV j cells.length with h1|h1
        ·rw[List.getElem?_append_left h1] at hj;exact c3 j c hj
        ·rw[List.getElem?_append_right h1] at hj;have lF:j - cells.length<P.cellsOf e:=(by have:=(aV.1 hj).1;omega);have h2:=hvg _ lF;rw[hj,Addr.mF,Addr.mF] at h2;rw[(ah:off+j=off+k * P.cellsOf e+(j - cells.length))];exact h2
     obtain⟨es,e1,e2,e3,cells,c1,c2,c3⟩:=ae len (aM _);have eH:es.flatten.all AV.ek=ai:=(by rw[List.all_flatten];simp only[ej];intro r hr;have:=(e2 r hr).2;simpa using this);refine⟨[.list .held (P.cellsOf e) es],.cons _ _ _ _ (.list .held (P.cellsOf e) es g off len aC cells e1.symm (λr hr=>(e2 r hr).1) c2 c3 ⟨OI,trivial⟩ eH) .nil,rfl,?_⟩;exact .list hu .held es (elems.map (·.1)) (rest.map (·.1)) (.inl rfl) ah (by simp[e1,Ad]) e3 (λr hr=>(e2 r hr).1)
  ·rename_i fs hu;rw[bL,ej] at bJ;obtain⟨ajY,eH⟩:=bJ;obtain⟨ys,m,hm,rfl,dF,yI,oT⟩:=DataW.trod_struct hu h;have hm:m=fuel:=(by omega);subst hm;have fld:∀(i:Nat) (f:Field),fs[i]?=aa f->∃r y,ys[i]?=aa y/\aS (aY.init W) r ((cs.drop f.offset).take (P.cellsOf f.type))/\r.all AV.ek=ai/\Has P f.type r y.1:=(by intro i f hf;have h1:=oT i f hf;have aB:i<ys.length:=(by rw[yI];exact(CI.1 hf).1);rw[aT aB] at h1;obtain⟨r,g1,g2,g3⟩:=ih f.type _ _ h1 (eH f (by obtain⟨hi,rfl⟩:=CI.1 hf;exact Array.mem_toList_iff.2 (Array.getElem_mem hi)));exact⟨r,_,aT aB,g1,g2,g3⟩);have build:∀(l:List Field) (i off:Nat),(∀j f,l[j]?=aa f->fs[i+j]?=aa f)->CE P off l (P.cellsOf t)=ai->off<=cs.length->
    ∃xs,aS (aY.init W) xs (cs.drop off)/\xs.all AV.ek=ai/\∀j f,l[j]?=aa f->off<=f.offset/\∃r y,ys[i+j]?=aa y/\(xs.drop (f.offset - off)).take (P.cellsOf f.type)=r/\Has P f.type r y.1:=by
    intro l
    induction l with
    |nil=>intro i off _ ht _;have Ao:off=P.cellsOf t:=jP ht;refine⟨[],?_,rfl,λj f hj=>by simp at hj⟩;rw[Ao,<-dF,List.drop_length];exact .nil|cons f l ihl=>
     intro i off hl ht eI;rw[CE,bL] at ht;have ho:f.offset=off:=jP ht.1;obtain⟨r,y,hy,g1,g2,g3⟩:=fld i f (by simpa using hl 0 f rfl);have J2:off+P.cellsOf f.type<=cs.length:=by
      rw[dF];have:∀(l:List Field) (o:Nat),CE P o l (P.cellsOf t)=ai->o<=P.cellsOf t:=by
       intro l
       induction l with
       |nil=>intro o h;exact Nat.le_of_eq (jP h)|cons f l ih=>intro o h;rw[CE,bL] at h;exact Nat.le_trans (Nat.le_add_right _ _) (ih _ h.2)
      exact this l _ ht.2
     obtain⟨xs,x1,x2,x3⟩:=ihl (i+1) (off+P.cellsOf f.type) (λj f' hj=>by
      have:=hl (j+1) f' (by simpa using hj)
      rwa [(ah:i+(j+1)=i+1+j)] at this) ht.2 J2
     rw[ho] at g1;have cS:r.length=P.cellsOf f.type:=(by rw[g1.length];simp;omega);refine⟨r++xs,?_,by rw[AW,g2,x2];rfl,λj f' hj=>?_⟩
     ·have:=g1.append x1;rw[<-xO,List.take_append_drop] at this;exact this
     ·cases j with|zero=>simp only[List.getElem?_cons_zero,dM] at hj;subst hj;refine⟨ah,r,y,hy,?_,g3⟩;rw[ho,Nat.sub_self,iX,<-cS,List.take_left]|succ j=>obtain⟨ec,r',y',hy',fY,hh⟩:=x3 j f' (by simpa using hj);refine⟨ah,r',y',by rw[(ah:i+(j+1)=i+1+j)];exact hy',?_,hh⟩;rw[show f'.offset - off=r.length+(f'.offset - (off+P.cellsOf f.type)) by omega,<-xO,abV];exact fY
   obtain⟨xs,x1,x2,x3⟩:=build fs.toList 0 0 (λj f hj=>by simpa using hj) ajY (cG _);rw[iX] at x1;refine⟨xs,x1,x2,.struct hu xs (ys.map (·.1)) (by rw[x1.length,dF]) (by simp[yI]) λi f d hf hd=>?_⟩;obtain⟨-,r,y,hy,hr,hh⟩:=x3 i f (by simpa using hf);rw[Nat.zero_add] at hy;rw[ev,hy] at hd;simp only[eW,dM] at hd;subst hd;rw[Nat.sub_zero] at hr;rw[hr];exact hh
  ·rename_i m e hu;rw[bL] at bJ;have dm:P.cellsOf t=m * P.cellsOf e:=jP bJ.1;obtain⟨ys,fu,Wb,rfl,dF,yI,oT⟩:=DataW.trod_array hu h;have Wb:fu=fuel:=(by omega);subst Wb;have ae:∀k,k<=m->∃xs,aS (aY.init W) xs (cs.take (k * P.cellsOf e))/\xs.all AV.ek=ai/\∀i,i<k->∃y,ys[i]?=aa y/\Has P e ((xs.drop (i * P.cellsOf e)).take (P.cellsOf e)) y.1:=by
    intro k
    induction k with
    |zero=>intro _;exact⟨[],by simp;exact .nil,rfl,λi hi=>absurd hi (qO i)⟩
    |succ k ihk=>
     intro hk;obtain⟨xs,x1,x2,x3⟩:=ihk ah;have h1:=oT k ah;rw[aT (by omega:k<ys.length)] at h1;obtain⟨r,g1,g2,g3⟩:=ih e _ _ h1 bJ.2;have bZ:(k+1) * P.cellsOf e<=cs.length:=(by rw[dF,dm];exact om _ hk);have dB:xs.length=k * P.cellsOf e:=(by rw[x1.length,List.length_take];rw[gI] at bZ;omega);have cS:r.length=P.cellsOf e:=(by rw[g1.length];simp;rw[gI] at bZ;omega);refine⟨xs++r,?_,by rw[AW,x2,g2];rfl,λi hi=>?_⟩
     ·have:=x1.append g1
      rwa [<-List.take_add,<-Nat.succ_mul] at this
     ·rcases dV i k with h2|h2
      ·obtain⟨y,hy,hh⟩:=x3 i h2;refine⟨y,hy,?_⟩;have h3:(i+1) * P.cellsOf e<=k * P.cellsOf e:=om _ h2;rw[gI] at h3;rw[List.drop_append_of_le_length ah,List.take_append_of_le_length (by simp;omega)];exact hh
      ·have:i=k:=(by omega);subst this;refine⟨_,aT ah,?_⟩;rw[<-dB,abV,<-cS,fI];exact g3
   obtain⟨xs,x1,x2,x3⟩:=ae m (aM _);rw[<-dm,<-dF,fI] at x1;refine⟨xs,x1,x2,.array hu xs (ys.map (·.1)) (by rw[x1.length,dF]) (by simp[yI]) λi d hd=>?_⟩;have hi:i<m:=(by have:=(aV.1 hd).1;simpa [yI] using this);obtain⟨y,hy,hh⟩:=x3 i hi;rw[ev,hy] at hd;simp only[eW,dM] at hd;subst hd;exact hh
  ·cases bJ
def adN{S:List aK}(hS:KH P S=ai){t:aK}{v:aR}{d:DataW H}{p:List MemPlace}{base:Nat}(h:DataW.Trod enc P W 0 (λ_=>ai) ai t v d p)(hv:Value.okWide P W .any base t v)(iR:S.contains t=ai):
 ∃x,a8 (aY.init W) x v/\lM P t x d:=by
 obtain⟨fuel,hf⟩:=h;obtain⟨xs,h1,h2,h3⟩:=atH hS fuel t _ _ hf iR;have single:∀c,v.cells.toList=[c]->v=c->(∀cs,P.underlying t≠aa (.struct cs))->(∀m e,P.underlying t≠aa (.array m e))->∃x,a8 (aY.init W) x v/\lM P t x d:=by
  intro c hc hvc hns hna;rw[hc] at h1;cases h1 with
  |cons x _ _ _ hx hs=>
   cases hs;refine⟨x,hvc ▸ hx,?_⟩;unfold lM;split
   ·rename_i hu;exact absurd hu (hns _)
   ·rename_i hu;exact absurd hu (hna _ _)
   ·exact h3
 have bJ:HE P S t=ai:=ej.1 hS t (by simpa using iR);unfold HE at bJ;unfold Value.okWide at hv;split at bJ
 ·rename_i hu;rw[hu] at hv;simp only[Cell.okWide,Cell.ok,hu] at hv;cases v<;>simp at hv;exact single _ rfl rfl (by rw[hu];simp) (by rw[hu];simp)
 ·rename_i k hu;rw[hu] at hv;simp only[Cell.okWide,Cell.ok,hu] at hv;cases v<;>simp at hv;exact single _ rfl rfl (by rw[hu];simp) (by rw[hu];simp)
 ·rename_i hu;rw[hu] at hv;simp only[Cell.okWide,Cell.ok,hu] at hv;cases v<;>simp at hv;exact single _ rfl rfl (by rw[hu];simp) (by rw[hu];simp)
 ·rename_i e hu;rw[hu] at hv;simp only[Cell.okWide,Cell.ok,hu] at hv;cases v<;>simp at hv;exact single _ rfl rfl (by rw[hu];simp) (by rw[hu];simp)
 ·rename_i fs hu;rw[hu] at hv;obtain⟨cs,rfl,-,-⟩:=hv;exact⟨.agg xs,.agg _ _ h1,by unfold lM;rw[hu];exact⟨xs,rfl,h3⟩⟩
 ·rename_i m e hu;rw[hu] at hv;obtain⟨cs,rfl,-,-⟩:=hv;exact⟨.agg xs,.agg _ _ h1,by unfold lM;rw[hu];exact⟨xs,rfl,h3⟩⟩
 ·cases bJ
def adO{S:List aK}(hS:KH P S=ai){base:Nat}:∀{ts:List aK} {vs:List aR} {ds:List (DataW H)} {p:List MemPlace},DataW.TrodAll enc P W 0 (λ_=>ai) ai ts vs ds p->
 (∀(j:Nat) t v,ts[j]?=aa t->vs[j]?=aa v->Value.okWide P W .any base t v)->(∀t∈ts,S.contains t=ai)->∃xs,aS (aY.init W) xs vs/\tR P ts xs ds:=by
 intro ts
 induction ts with
 |nil=>intro vs ds p h _ _;obtain⟨rfl,rfl,rfl⟩:=trodAll_nil h;exact⟨[],.nil,trivial⟩
 |cons t ts ih=>intro vs ds p h hv bJ;obtain⟨v,vs',d,ds',p1,q1,rfl,rfl,rfl,h1,h2⟩:=trodAll_cons h;obtain⟨x,g1,g2⟩:=adN hS h1 (hv 0 t v rfl rfl) (bJ t gj);obtain⟨xs,g3,g4⟩:=ih h2 (λj t v ht qx=>hv (j+1) t v (by simpa using ht) (by simpa using qx)) (λt ht=>bJ t (fN _ ht));exact⟨x::xs,.cons _ _ _ _ g1 g3,g2,g4⟩
structure So(P:bK)(S:List aK)(f:bm)(fn:Func)(tb:aK):Prop where
 func:P.funcs[f]?=aa fn
 laid:laidOutB P=ai
 set:KH P S=ai
 pU:∀t∈fn.params.toList,S.contains t=ai/\P.readableRec t=ai/\t<P.types.size
 res:fn.resultTypes=#[tb]
 bool:P.underlying tb=aa .bool
variable {G:Nat->Option (List AV)} {aN:bm->Option (List AV->ao->Option (AV × ao))}
def akz{S:List aK}(hp:Prog P){f:bm}{fn:Func}{tb:aK}(F:So P S f fn tb){s:ChangeSpec}{apart fresh handsOn again:Bool}{base:Nat}{args:Array aR}{ds gs:List (DataW H)}{before:List MemPlace}
 (Hj:s.vars=[]) (ajU:∀ds:List (DataW H),ds.length=fn.params.size->(s.fn H ds).results=[.lit (.bool ai)]/\(s.fn H ds).args=ds/\(s.fn H ds).vars=[])
 (Pu:∀(j:Nat) t v,fn.params[j]?=aa t->args[j]?=aa v->Value.okWide P W .any base t v)
 (hW:DataW.Whole enc P fn.params.toList s.vars apart W args.toList ds gs before)
 (hG:∀g cs,G g=aa cs->∃cells,aS (aY.init W) cs cells/\∀(j:Nat) (c:aR),cells[j]?=aa c->W.cell? ⟨g,j,ar⟩=aa c)
 (oC:∀g p,aN g=aa p->sT P G W g p)
 (ajr:∀xs:List AV,tR P fn.params.toList xs ds->∃h',(whole P G aN).call f xs ao.init=aa (.ret (.v (.bool ai)),h')):
 Calls P f args W λe W'=>∃v,e=.returned v/\s.post enc P fn apart fresh handsOn again W args v W':=by
 have VL:=hW;obtain⟨p,q,hA,hV,VS,wQ,OR⟩:=hW;have hV0:DataW.TrodVars enc P W (λ_=>ai) [] gs q:=Hj ▸ hV;obtain⟨rfl,rfl⟩:=trodVars_none hV0;rw[jX] at VS;subst VS;obtain⟨xs,Py,eH⟩:=adO F.set hA (λj t v ht hv=>Pu j t v (by simpa using ht) (by simpa using hv)) (λt ht=>(F.pU t ht).1);obtain⟨h',th⟩:=ajr xs eH;have Hg:lD P G W (aY.init W) ao.init W:=ar5 W hG;obtain⟨-,hc⟩:=(RW hp oC).call f xs ao.init _ _ th;intro cs;obtain⟨K',w',fr,le,s',ct,wP,v,hx,hl⟩:=hc (aY.init W) W args Py Hg cs;have hv:=hx.iV.1;subst hv;have hb:Below W.heap.size W w':=by have:=s'.dh;rw[le.base] at this;exact this
 have bZ:ds.length=fn.params.size:=by
  have:∀{ts:List aK} {xs:List AV} {ds:List (DataW H)},tR P ts xs ds->ds.length=ts.length:=by
   intro ts
   induction ts with
   |nil=>intro xs ds h;cases xs<;>cases ds<;>simp[tR] at h ⊢
   |cons t ts ih=>intro xs ds h;cases xs<;>cases ds<;>simp[tR] at h ⊢;exact ih h.2
  simpa using this eH
 obtain⟨r1,r2,r3⟩:=ajU ds bZ;refine⟨.returned (.bool ai),w',fr,⟨_,rfl,?_⟩,ct,wP,hl⟩;refine am7 (pa:=before) (pv:=[]) VL (λb sp hd=>?_) (λsp lH=>?_) (λsp _=>?_) bH hb (ok_one F.res rfl (okWide_bool_mk F.bool _))
 ·rw[F.res,jX,r1];exact trodAll_cons_mk (shut_bool F.bool _) trodAll_mk0
 ·rw[jX,r2];exact adP F.laid hA (λt ht=>(F.pU t ht).2) (λx hx=>hb.same (VL.lt x hx)) lH
 ·rw[Hj,jX,r3];exact rfl
end
end Go.AE
end
