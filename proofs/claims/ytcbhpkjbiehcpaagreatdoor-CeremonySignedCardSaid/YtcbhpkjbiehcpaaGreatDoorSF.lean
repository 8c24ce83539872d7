/-
  The engine, part 54: as part 48, where what is answered lies in boxes of rows of more than one cell; and functions of the library taken by contracts beside calm ones.
-/
import Derived.Test.YtcbhpkjbiehcpaaGreatDoorSE
import Derived.Test.YtcbhpkjbiehcpaaGreatDoorSC
import Derived.Test.YtcbhpkjbiehcpaaGreatDoorSD
import Derived.WalkKit
import Derived.Shelf.Spec.SlicesInsert
import Derived.Lib.AppendZerosOnto
import Derived.Laws.Externs
import Derived.Test.YtcbhpkjbiehcpaaGreatDoorChecked
import Derived.Test.YtcbhpkjbiehcpaaGreatDoorSB
import Derived.KernelRfl
open True renaming intro->br
open Go renaming FuncId->a_,Program->bL,World->b_,Value->aQ,TypeId->aO
open Go.Proofs.Tryz renaming prog->ag,underlying23->dp,underlying32->xv,underlying116->mw,func28->ads,func42->adu,func36->adt,underlying20->adB,func85->adx,checked->Eg,underlying3->rG,func115->SP
open Option renaming some->J,none->aq,map_some->gc,some.injEq->d_,bind_some->jO
open List renaming length->F,mem_cons->hh,length_cons->eZ,length_append->de,length_take->dJ,length_drop->fJ,getElem?_cons_succ->nR,mem_of_getElem?->dy,drop_eq_getElem_cons->uw,drop_length->Lw,all_eq_true->ff,mem_map->iX,length_map->bJ,all_append->qP,drop_zero->gP,take_length->gy,drop_of_length_le->oo,map_append->jN,getElem?_eq_some_iff->bk,getElem?_eq_getElem->aY,ext_getElem?->oq,getElem?_map->eF,getElem?_eq_none->sQ,map_cons->dR,mem_cons_self->gt,mem_cons_of_mem->gr,range->bT,getElem?_range->Bb,nil_append->eP,append_nil->iB,getElem?_take->o0,getElem?_drop->rD,cons_append->eY,take_of_length_le->fK,length_nil->gi,drop_drop->rB,drop_left->DW,getElem?_append_left->rC,getElem?_append_right->xm,mem_singleton->iL,take_succ_cons->dY,take_zero->dG,not_mem_nil->qR,append_assoc->jx,take_left'->vP,drop_left'->aco,take_take->Hi,mem_of_mem_drop->Sd,flatten_cons->kJ
open Bool renaming false->au,true->aa,and_eq_true->bQ,true_and->pF,and_true->GZ,true_eq_false->vJ,false_eq_true->jw
open Nat renaming le_of_ble_eq_true->lQ,le_refl->bh,zero_le->cC,reduceEqDiff->aT,lt_or_ge->eg,add_mul->jm,mul_le_mul->kL,mul_one->mr,min_def->LV,mul_le_mul_right->mR
open And renaming intro->ar
open Prod renaming fst->jz,mk.injEq->dz
open Int renaming le_refl->DT,toNat_natCast->fe
open Array renaming length_toList->om,getElem?_push->RB
open Bool renaming false_or->Ld
open Go.Proofs.Tryz renaming func116->azJ,func120->azK,ntmps116->azL,ntmps120->azM,underlying33->uC
open Array renaming getElem?_eq_none->KX,size_append->Lb,toList_append->A1
open List renaming size_toArray->acP
set_option maxHeartbeats 64000000
set_option maxRecDepth 100000
set_option linter.unusedSimpArgs false
set_option linter.unusedVariables false
set_option linter.constructorNameAsVariable false
set_option linter.defProp false
section
namespace Go.Proofs.YtcbhpkjbiehcpaaGreatDoor
open Go.AE Go.NT
section
variable (R:Rec) (L:List a_)
noncomputable def up:Rec:=whole ag Gt (my R L)
def xe:Prop:=∀n h,R.call 97 [im n] h=J (.ret (.agg (dx n)),h)
def xh:Prop:=∀s h,R.call 99 [sv s] h=J (.ret (.agg (aG 2 0 s .nil 0 [])),h)
def Lh:Prop:=∀(e b:List UInt8) (k:Tok),F b<=1099511610000->F e<=1099511610000->∀h,R.call 241 [.v (.string (bs e)),.ac k 1 (bW b)] h=J (.ret (im (qo (lK e b):Nat)),h)
def xd:Prop:=∀(e:Vl) (r:List V),cW e r->gf e<=16->F (cH e)<=1099511600000->∃t,∀h,R.call 100 [.agg r] h=J (.ret (.tuple [.ac t 1 (bW (cH e)),.v (.int .i64 0)]),h)
def xg:Prop:=∀(l:List Vl) (U:List (List V)),gB l U->ef U=U->∀k:Tok,F U<=1000000->∀h,R.call 96 [.ac k 4 U] h=J (.ret (.agg (aG 3 0 [] (cK k) 4 U)),h)
def A7(g:a_):Prop:=∀x n h,R.call g [im x,im n] h=J (.ret (im (eR x n)),h)
def Lj(g:a_):Prop:=∀x n h,R.call g [im x,im n] h=J (.ret (im (oI x n)),h)
def A5(g:a_):Prop:=∀x n h,R.call g [im x,im n] h=J (.ret (im (cX x n)),h)
def A6(g:a_):Prop:=∀x n h,R.call g [im x,im n] h=J (.ret (im (cV x n)),h)
def Lm(g:a_):Prop:=∀x h,R.call g [im x] h=J (.ret (.v (.bool (cq x))),h)
def Lk:Prop:=∀p h,R.call 253 [.agg (bB p)] h=J (.ret (.v (.bool (aoG p))),h)
def Li:Prop:=∀x l,PL x l->F l<=1000000->∃X,IL X (l.map Pr.bN)/\∀h,R.call 197 [x] h=J (.ret X,h)
def xc:Prop:=∀x y U ae,RL x U->IL y ae->F U<=1000000->∀h,R.call 40 [.agg [x,y]] h=J (.ret (im (cI U ae)),h)
def A4:Prop:=∀x y z U ae am,RL x U->IL y ae->IL z am->F U<=1000000->F am<=1099511627776->
 (∃e,fm U ae am=([],au,e)/\∀h,R.call 44 [.agg [x,y],z] h=J (.ret (.tuple [.ac .nil 0 [],(au:V),((e:Int):V)]),h))∨
 ∃l,fm U ae am=(l,aa,0)/\F l=F U/\∀h,R.call 44 [.agg [x,y],z] h=J (.ret (.tuple [.ac .held 1 (aF l),(aa:V),.v (.int .i64 0)]),h)
def G1:Prop:=∀x y z U ae av,RL x U->IL y ae->IL z av->F av<=1000000->∀h,R.call 94 [.agg [x,y],z] h=J (.ret (.v (.bool (av.all cq&&decide (F av=cr U)))),h)
def Lf:Prop:=∀x y U ae,RL x U->IL y ae->∃b,(b=aa->F U<=80/\F ae<=80)/\∀h,R.call 84 [.agg [x,y]] h=J (.ret ((b:Bool):V),h)
def yH:Prop:=∀(k:Tok) (l:List Int),F l<=1000->l≠[]->(∀n∈l,0<=n/\n<=4611686018427387903)->∀h,R.call 98 [.ac k 1 (aF l)] h=J (.ret (.agg (aG 3 0 [] .held 4 (l.map dx))),h)
def Ll(g:a_):Prop:=∀x y a b,IL x a->IL y b->F a<=1000000->F b<=1000000->∀h,R.call g [x,y] h=J (.ret (.v (.bool (decide (a=b)))),h)
end
section
variable {R:Rec} {L:List a_}
def PL.ip{x}{l}(h:PL x l):PL (aA x) l/\aK 0 0 0 (aA x)=aa:=by
 obtain⟨k,s,rfl,f⟩:=h;have h1:∀l:List Pr,ef (cL l)=cL l:=λl=>by
  induction l with
  |nil=>rfl|cons p l e=>show bE (bB p)::ef (cL l)=_;rw[e];rfl
 have h2:∀l:List Pr,fZ 0 0 0 (cL l)=aa:=λl=>by
  induction l with
  |nil=>rfl|cons p l e=>show(aM 0 0 0 (bB p)&&fZ 0 0 0 (cL l))=aa;rw[e];rfl
 rw[aA,h1];exact⟨⟨cK k,s,O,f⟩,by rw[aK,fy,h2];rfl⟩
def xe.up(e:L.contains 97=aa)(c:xe R):xe (up R L):=λn=>b8 e O O (c n _) O rfl
def xh.up(e:L.contains 99=aa)(c:xh R):xh (up R L):=λs=>b8 e O O (c s _) O rfl
def Lh.up(i:L.contains 241=aa)(c:Lh R):Lh (up R L):=λe b k f ht=>
 b8 (u:=[.v (.string (bs e)),.ac (cK k) 1 (bW b)]) i (by rw[bE,bE,aA.eq_1,rh];rfl) (by simp[aM,aK,fy,mA]) (c e b _ f ht _) O rfl
def xd.up(f:L.contains 100=aa)(c:xd R):xd (up R L):=λo r j e i=>by obtain⟨h1,h2⟩:=cW.hold o r j;obtain⟨t,c⟩:=c o _ h1 e i;exact⟨cK t,b8 (u:=[.agg (bE r)]) f O (by simpa [aM,aK] using h2) (c _) O (by simp[aK,aM,fy,mA])⟩
def xg.up(i:L.contains 96=aa)(c:xg R):xg (up R L):=λl U e D k f=>by
 have j:cW (.ac l) (aG 3 0 [] k 4 U):=.ac l k 4 U e.1 (λ_=>rfl) f e.2;obtain⟨h1,h2⟩:=cW.hold _ _ j;have o:bE (aG 3 0 [] k 4 U)=aG 3 0 [] (cK k) 4 (ef U):=rfl;rw[o,D]at h1 h2;refine b8 (u:=[.ac (cK k) 4 U]) i ?_ ?_ (c l U e D (cK k) f _) ?_ ?_
 .simp only[bE,aA,D]
 .unfold aG at h2;simp only[aM,bQ]at h2 ⊢;exact⟨h2.2.2.2.1,br⟩
 .show V.agg [im 3,im 0,sv [],.ac (cK (cK (cK k))) 4 U]=_;rw[ip,ip];rfl
 .rw[aK];exact h2
def A7.up{g:a_}(e:L.contains g=aa)(c:A7 R g):A7 (up R L) g:=λx n=>b8 e O O (c x n _) O rfl
def Lj.up{g:a_}(e:L.contains g=aa)(c:Lj R g):Lj (up R L) g:=λx n=>b8 e O O (c x n _) O rfl
def A5.up{g:a_}(e:L.contains g=aa)(c:A5 R g):A5 (up R L) g:=λx n=>b8 e O O (c x n _) O rfl
def A6.up{g:a_}(e:L.contains g=aa)(c:A6 R g):A6 (up R L) g:=λx n=>b8 e O O (c x n _) O rfl
def Lm.up{g:a_}(e:L.contains g=aa)(c:Lm R g):Lm (up R L) g:=λx=>b8 e O O (c x _) O rfl
def Lk.up(e:L.contains 253=aa)(c:Lk R):Lk (up R L):=λp=>b8 e O O (c p _) O rfl
def IL.ak8{x}{l}(hx:IL x l)(h):IL (et h x) l/\aK 0 0 0 (et h x)=aa:=by obtain⟨k,s,rfl,e⟩:=hx;refine⟨⟨cK k,s,O,e⟩,?_⟩;show aK 0 0 0 (.ac (cK k) s (aF l))=aa;rw[aK,fy,jG];rfl
def Li.up(j:L.contains 197=aa)(c:Li R):Li (up R L):=λx l hx o=>by obtain⟨h1,h2⟩:=hx.ip;obtain⟨X,i,c⟩:=c _ l h1 o;obtain⟨e,f⟩:=i.ak8 ⟨[],[],0,[]⟩;exact⟨_,e,b8 (u:=[aA x]) j O (by simp[aM,h2]) (c _) O f⟩
def xc.up(i:L.contains 40=aa)(c:xc R):xc (up R L):=λx y U ae hx E j=>by obtain⟨h1,h2⟩:=hx.ip;obtain⟨e,f⟩:=E.hold;exact b8 (u:=[.agg [aA x,aA y]]) i O (by simp[aM,aK,h2,f]) (c _ _ U ae h1 e j _) O rfl
def A4.up(j:L.contains 44=aa)(c:A4 R):A4 (up R L):=λx y z U ae am hx E D B hw=>by
 obtain⟨h1,h2⟩:=hx.ip;obtain⟨v,f⟩:=E.hold;obtain⟨A,i⟩:=D.hold;rcases c _ _ _ U ae am h1 v A B hw with⟨z0,e,hc⟩|⟨l,e,o,hc⟩
 .exact .inl ⟨z0,e,b8 (u:=[.agg [aA x,aA y],aA z]) j O (by simp[aM,aK,h2,f,i]) (hc _) O O⟩
 .exact .inr ⟨l,e,o,b8 (u:=[.agg [aA x,aA y],aA z]) j O (by simp[aM,aK,h2,f,i]) (hc _) O (by simp[aK,aM,jG,pX])⟩
def G1.up(o:L.contains 94=aa)(c:G1 R):G1 (up R L):=λx y z U ae av hx E A v=>by obtain⟨h1,h2⟩:=hx.ip;obtain⟨e,f⟩:=E.hold;obtain⟨i,j⟩:=A.hold;exact b8 (u:=[.agg [aA x,aA y],aA z]) o O (by simp[aM,aK,h2,f,j]) (c _ _ _ U ae av h1 e i v _) O rfl
def Lf.up(v:L.contains 84=aa)(c:Lf R):Lf (up R L):=λx y U ae hx E=>by obtain⟨e,f⟩:=hx.ip;obtain⟨i,j⟩:=E.hold;obtain⟨b,o,hc⟩:=c _ _ U ae e i;exact⟨b,o,b8 (u:=[.agg [aA x,aA y]]) v O (by simp[aM,aK,f,j]) (hc _) O O⟩
def I0:∀l:List Int,ef (l.map dx)=l.map dx/\fZ 0 0 0 (l.map dx)=aa
 | []=>⟨O,O⟩
 |n::l=>by
  obtain⟨h1,h2⟩:=I0 l;refine⟨?_,?_⟩
  .show bE (dx n)::ef (l.map dx)=_;rw[h1];rfl
  .show(aM 0 0 0 (dx n)&&fZ 0 0 0 (l.map dx))=aa;rw[h2];rfl
def yH.up(f:L.contains 98=aa)(c:yH R):yH (up R L):=λk l i j e=>
 b8 (u:=[.ac (cK k) 1 (aF l)]) f (by rw[bE,bE,aA,tJ]) (by simp[aM,aK,fy,jG]) (c _ l i j e _) O (by simp only[aG,aK,aM,(I0 l).2];rfl)
def Ll.up{g:a_}(o:L.contains g=aa)(c:Ll R g):Ll (up R L) g:=λx y a b hx E i j=>by obtain⟨h1,h2⟩:=hx.hold;obtain⟨e,f⟩:=E.hold;exact b8 (u:=[aA x,aA y]) o O (by simp[aM,h2,f]) (c _ _ a b h1 e i j _) O rfl
end
def alE:xe W7:=xe.up O λn h=>aal n h
def avY:xh W7:=xh.up O λs h=>as8 s h
def ah2:xd W7:=xd.up O λj r i e f=>aqE i e f
def amR:xg W7:=xg.up O λl U f D k e h=>by rw[arN f D k e h]
def afV:A5 W7 130:=A5.up O λx n h=>aqq x n h
def aiI:A6 W7 202:=A6.up O λx n h=>arT x n h
def adF:A4 W6:=λx y z U ae am hx E D B hw=>by
 obtain⟨h1,h2⟩:=hx.ip;obtain⟨v,i⟩:=E.hold;obtain⟨A,j⟩:=D.hold;obtain⟨r,h',hc,⟨z0,e,rfl⟩|⟨l,b,e,f,rfl,o⟩⟩:=adK ⟨[],[],0,[]⟩ O _ _ _ U ae am h1 v A B hw
 .exact .inl ⟨z0,e,b8 (L:=L6) (u:=[.agg [aA x,aA y],aA z]) O O (by simp[aM,aK,h2,i,j]) hc O O⟩
 .refine .inr ⟨l,e,f,b8 (L:=L6) (u:=[.agg [aA x,aA y],aA z]) O O (by simp[aM,aK,h2,i,j]) hc ?_ (by simp[aK,aM,jG,pX])⟩;rw[et,jb,Ap o f];rfl
def adG:A4 W7:=A4.up O adF
def agD:xc W6:=xc.up O λx y U ae hx E e h=>aaa x y U ae hx E e h
def Us:xc W7:=xc.up O agD
def ahf:G1 W7:=λx y z U ae av hx E v o=>by obtain⟨h1,h2⟩:=hx.ip;obtain⟨e,f⟩:=E.hold;obtain⟨i,j⟩:=v.hold;obtain⟨r,A,c,-,rfl⟩:=ahh ⟨[],[],0,[]⟩ _ _ _ U ae av h1 e i o;exact b8 (L:=L7) (u:=[.agg [aA x,aA y],aA z]) O O (by simp[aM,aK,h2,f,j]) c O rfl
def alH:yH W7:=λk l f i e=>by obtain⟨r,j,c,n,rfl⟩:=alG ⟨[],[],0,[]⟩ O (cK k) l f i e;exact b8 (L:=L7) (u:=[.ac (cK k) 1 (aF l)]) O (by rw[bE,bE,aA,tJ]) (by simp[aM,aK,fy,jG]) c O (by simp only[aG,aK,aM,(I0 l).2];rfl)
def Qy:Tryz.f41.results.toList=[.tmp 2]:=by kernel_rfl
def ame(h:ah)(ep:Int)(X Y C:V)(U:List (List Int))(ae av:List Int)(hx:RL X U)(E:IL Y ae)(hc:IL C av)(v:F av<=1000000):
 ∃r h',W7.call 41 [.agg (aJ ep X Y C)] h=J (r,h')/\r=.ret (.v (.bool (iI U ep av))):=by
 have c1:=ahf X Y C U ae av hx E hc v;have bx:=mD (ep:=ep) hx E hc;have f:=aU h (aJ ep X Y C);have B:aL ag Gt (h.push (aJ ep X Y C)) 3 (.ptr (.box (F h.I)) 0)=J ((ep:Int):V):=eu eH f O;have D:aL ag Gt (h.push (aJ ep X Y C)) 25 (.ptr (.box (F h.I)) 1)=J (.agg [X,Y]):=by rw[fS El abw f (lQ O)];rfl
 have l2:aL ag Gt (h.push (aJ ep X Y C)) 23 (.ptr (.box (F h.I)) 3)=J C:=eu mV f O;have e:aj (iI U ep av=(decide (0<=ep)&&decide (ep<=64)&&decide (F av=cr U)&&av.all cq)):=⟨O⟩;generalize iI U ep av=res at *
 clear hx E hc f;obtain⟨H,i⟩:∃H,h.push (aJ ep X Y C)=H:=⟨_,O⟩;rw[i]at B D l2;generalize aJ ep X Y C=K at *
 refine cA O Tryz.func41 O ?_;by_cases h1:0<=ep;rotate_left 1
 .have u:res=au:=by rw[e.M];simp[h1]
  have j:decide (0<=ep)=au:=cR h1;clear h1 e;subst u;refine cg @Qy @bC @i (ar @rL (ar @iM @jF)) ?_;exact⟨_,_,O,O⟩
 have j:decide (0<=ep)=aa:=cD h1;by_cases h2:ep<=64;rotate_left 1
 .have u:res=au:=by rw[e.M];simp[h2]
  have o:decide (ep<=64)=au:=cR h2;clear h1 h2 e;subst u;refine cg @Qy @bC @i (ar @rL (ar @iM @jF)) ?_;exact⟨_,_,O,O⟩
 have o:decide (ep<=64)=aa:=cD h2;have A:aj (res=(av.all cq&&decide (F av=cr U))):=⟨by rw[e.M,j,o,pF,pF,Bool.and_comm]⟩;clear h1 h2 e;generalize (av.all cq&&decide (F av=cr U))=dd at *
 refine cg @Qy @bC @i (ar @rL (ar @iM @jF)) ?_;exact⟨_,_,O,by rw[A.M]⟩
def wM(p:Pr):List V:=aG 3 0 [] .held 4 ([p.bN,p.no,p.d,p.e].map dx)
def adf(p:Pr):Prop:=∀n∈[p.bN,p.no,p.d,p.e],0<=n/\n<=4611686018427387903
def WX:∀l:List Pr,ef (l.map wM)=l.map wM/\fZ 0 0 0 (l.map wM)=aa
 | []=>⟨O,O⟩
 |p::l=>by
  obtain⟨h1,h2⟩:=WX l;refine⟨?_,?_⟩
  .show bE (wM p)::ef (l.map wM)=_;rw[h1];rfl
  .show(aM 0 0 0 (wM p)&&fZ 0 0 0 (l.map wM))=aa;rw[h2];rfl
def L8:List a_:=L7++[60,61,31,41,240,243]
noncomputable def Qc:a_->Option (List V->ah->Option (V × ah)):=my W7 L8
noncomputable abbrev W8:=whole ag Gt Qc
def By:mN Qc L8:=tg
section
variable (R:Rec)
def Ln:Prop:=∀(k:Tok) (l:List Pr),F l<=1000->l≠[]->(∀p∈l,adf p)->∀h,R.call 240 [.ac k 4 (cL l)] h=J (.ret (.agg (aG 3 0 [] .held 4 (l.map wM))),h)
def G7:Prop:=∀ep X Y C U ae av,RL X U->IL Y ae->IL C av->F av<=1000000->∀h,R.call 41 [.agg (aJ ep X Y C)] h=J (.ret (.v (.bool (iI U ep av))),h)
def Lg:Prop:=∀ep X Y C T L U ae av aC l,RL X U->IL Y ae->IL C av->BL T aC->PL L l->
 ∃b,(b=aa->F U<=80/\F ae<=80/\F av<=80/\F aC<=70000/\F l<=80)/\∀h,R.call 31 [.agg (aJ ep X Y C),T,L] h=J (.ret ((b:Bool):V),h)
end
def BL.ip{x}{b}(h:BL x b):BL (aA x) b/\aK 0 0 0 (aA x)=aa:=by obtain⟨k,s,rfl,e⟩:=h;rw[aA,rh];exact⟨⟨cK k,s,O,e⟩,by rw[aK,fy,mA];rfl⟩
def Zo(l):ef (cL l)=cL l/\fZ 0 0 0 (cL l)=aa:=by
 induction l with
 |nil=>exact⟨O,O⟩|cons p l e=>
  refine⟨?_,?_⟩
  .show bE (bB p)::ef (cL l)=_;rw[e.1];rfl
  .show(aM 0 0 0 (bB p)&&fZ 0 0 0 (cL l))=aa;rw[e.2];rfl
section
variable {R:Rec} {L:List a_}
def aix(l:List Pr):aK 0 0 0 (.agg (aG 3 0 [] .held 4 (l.map wM)))=aa:=by simp only[aG,aK,aM,(WX l).2];rfl
def Ln.up(f:L.contains 240=aa)(c:Ln R):Ln (up R L):=λk l i j e=>
 b8 (u:=[.ac (cK k) 4 (cL l)]) f (by rw[bE,bE,aA,(Zo l).1]) (by simp[aM,aK,fy,(Zo l).2]) (c _ l i j e _) O (aix l)
def G7.up(o:L.contains 41=aa)(c:G7 R):G7 (up R L):=λep X Y C U ae av hx E hc v=>by obtain⟨h1,h2⟩:=hx.ip;obtain⟨e,f⟩:=E.hold;obtain⟨i,j⟩:=hc.hold;exact b8 (u:=[.agg (aJ ep (aA X) (aA Y) (aA C))]) o O (by simp[aJ,aM,aK,h2,f,j]) (c ep _ _ _ U ae av h1 e i v _) O rfl
def Lg.up(hg:L.contains 31=aa)(c:Lg R):Lg (up R L):=λep X Y C T l' U ae av aC l hx E hc ht hp=>by obtain⟨h1,h2⟩:=hx.ip;obtain⟨f,i⟩:=E.hold;obtain⟨j,o⟩:=hc.hold;obtain⟨v,A⟩:=ht.ip;obtain⟨B,e⟩:=hp.ip;obtain⟨b,D,c⟩:=c ep _ _ _ _ _ U ae av aC l h1 f j v B;exact⟨b,D,b8 (u:=[.agg (aJ ep (aA X) (aA Y) (aA C)),aA T,aA l']) hg O (by simp[aJ,aM,aK,h2,i,o,A,e]) (c _) O O⟩
end
def alF:xe W8:=alE.up rfl
def avZ:xh W8:=avY.up rfl
def ah3:xd W8:=ah2.up rfl
def amU:xg W8:=amR.up rfl
def adR:A5 W8 130:=afV.up rfl
def agE:xc W8:=Us.up rfl
def amf:G7 W8:=λep X Y C U ae av hx E hc o=>by obtain⟨h1,h2⟩:=hx.ip;obtain⟨e,f⟩:=E.hold;obtain⟨i,j⟩:=hc.hold;obtain⟨r,v,c,rfl⟩:=ame ⟨[],[],0,[]⟩ ep _ _ _ U ae av h1 e i o;exact b8 (L:=L8) (u:=[.agg (aJ ep (aA X) (aA Y) (aA C))]) O O (by simp[aJ,aM,aK,h2,f,j]) c O rfl
end Go.Proofs.YtcbhpkjbiehcpaaGreatDoor
end
section
namespace Go.NT
structure Dc where
 no:Int
 tm:Int
 kd:Int
 vl:Int
 fr:Int
 un:Int
 pa:List Int
 rv:List Int
 nd:List Int
 tx:List UInt8
def n_(rt:Int):Int->List Int->Bool
 |_,[]=>aa
 |last,n::l=>decide (last<n)&&decide (n<rt)&&n_ rt n l
def iu(l:List Int)(rt:Int):Bool:=n_ rt (-1) l&&decide (F l<=16)
def AW(t:Int):Bool:=decide (0<=t)&&decide (t<1099511627776)
def g_(d:Dc):Bool:=decide (0<=d.no)&&decide (d.no<4096)&&AW d.tm&&decide (0<=d.kd)&&decide (d.kd<16)&&decide (0<=d.vl)&&decide (d.vl<=1099511627776)&&decide (0<=d.fr)&&decide (d.fr<d.un)&&decide (d.un<=1099511627776)&&iu d.pa 1048577&&iu d.rv d.no&&iu d.nd d.no
def Dc.oY(d:Dc):Prop:=F d.pa<=9223372036854775807/\F d.rv<=9223372036854775807/\F d.nd<=9223372036854775807
def CE(l:List Int):Vl:=.ac (l.map .int)
def gg(d:Dc):Vl:=.ac [.int d.no,.int d.tm,.int d.kd,.int d.vl,.int d.fr,.int d.un,CE d.pa,CE d.rv,CE d.nd,.aC d.tx]
structure Ce where
 U:List (List Int)
 ae:List Int
 ep:Int
 av:List Int
 doc:Dc
 am:List Int
 bO:List Pr
 aW:List (Int × Int)
def Ce.Fit(c:Ce):Prop:=F c.U<=1000000/\F c.av<=1000000/\F c.am<=1000000/\c.doc.oY/\F c.bO<=1000000/\F c.aW<=1000000
def eC(U:List (List Int))(ae:List Int)(ep:Int)(av:List Int)(d:Dc)(am:List Int):Int:=
 if cI U ae≠0 then cI U ae
 else if (decide (0<=ep)&&decide (ep<=64)&&av.all cq&&decide (F av=cr U))=au then 380
 else if g_ d=au then 170
 else if dL (-1) am=au then 1
 else if (fm U ae am).2.1=au∨(fm U ae am).2.2≠0 then 440
 else 0
end Go.NT
end
section
namespace Go.NT
section
variable {α:Type} (right:α->Bool) (k:α->Int)
def fH:Int->List α->Bool
 |_,[]=>aa
 |last,x::l=>right x&&decide (last<k x)&&fH (k x) l
def kY(n:Int):List α->Nat
 | []=>0
 |y::l=>if k y<n then kY n l+1 else 0
def nE(x:α)(l:List α):List α:=l.take (kY k (k x) l)++x::l.drop (kY k (k x) l)
def pz(n:Int)(l:List α):Option α:=
 match l[kY k n l]? with
 |some y=>if k y=n then J y else aq
 |none=>aq
end
section
variable {α:Type} {right:α->Bool} {k:α->Int}
def yp{e:Int}{x:α}{l:List α}:fH right k e (x::l)=aa↔right x=aa/\e<k x/\fH right k (k x) l=aa:=by rw[fH,bQ,bQ,decide_eq_true_eq,and_assoc]
def aoq{e m:Int}{l:List α}(h:fH right k e l=aa)(f:m<=e):fH right k m l=aa:=by
 cases l with|nil=>rfl|cons x l=>rw[yp]at h ⊢;exact⟨h.1,by omega,h.2.2⟩
def yq{l:List α}:∀{e:Int},fH right k e l=aa->∀x∈l,right x=aa/\e<k x:=by
 induction l with
 |nil=>intro _ _ x hx;cases hx
 |cons y l f=>
  intro e h x hx;rw[yp]at h;rcases hh.1 hx with rfl|hx
  .exact⟨h.1,h.2.1⟩
  .have:=f h.2.2 x hx;exact⟨this.1,by omega⟩
def Tq(n:Int)(l:List α):kY k n l<=F l:=by
 induction l with
 |nil=>exact bh _|cons y l e=>rw[kY,eZ];split<;>omega
def alA{x y:α}{l:List α}(h:k y<k x):nE k x (y::l)=y::nE k x l:=by unfold nE;rw[kY,aH h];rfl
def alz{x y:α}{l:List α}(h:¬k y<k x):nE k x (y::l)=x::y::l:=by unfold nE;rw[kY,aV h];rfl
def XL(x:α)(l:List α):F (nE k x l)=F l+1:=by unfold nE;have:=Tq (k:=k) (k x) l;rw[de,eZ,dJ,fJ];omega
def aiQ{n:Int}{y:α}{l:List α}(h:k y<n):pz k n (y::l)=pz k n l:=by unfold pz;rw[kY,aH h,nR]
def Vj{n:Int}{y:α}{l:List α}(h:¬k y<n):pz k n (y::l)=if k y=n then J y else aq:=by unfold pz;rw[kY,aV h];rfl
def aeD{l:List α}{n:Int}{i:Nat}(hi:i<=F l)(h1:∀(j:Nat) y,j<i->l[j]?=J y->k y<n)(h2:∀y,l[i]?=J y->¬k y<n):kY k n l=i:=by
 induction l generalizing i with
 |nil=>simp at hi;subst hi;rfl|cons y l f=>
  cases i with|zero=>rw[kY,aV (h2 y O)]|succ i=>rw[kY,aH (h1 0 y (Nat.zero_lt_succ _) O),f (i:=i) (by simpa using hi) (λj z o e=>h1 (j+1) z af (by simpa using e)) λz e=>h2 z (by simpa using e)]
def Zj{l:List α}:∀{e:Int},fH right k e l=aa->∀{i j:Nat} {x y:α},l[i]?=J x->l[j]?=J y->i<j->k x<k y:=by
 induction l with
 |nil=>intro _ _ i j x y h;simp at h|cons z l f=>
  intro e h i j x y hx E o;rw[yp]at h;cases j with
  |zero=>omega|succ j=>
   cases i with|zero=>simp at hx;subst hx;exact(yq h.2.2 y (dy (by simpa using E))).2|succ i=>exact f h.2.2 (by simpa using hx) (by simpa using E) af
end
end Go.NT
end
section
namespace Go.NT
deriving instance DecidableEq for Pr
def oS(am:List Int)(p:Pr):Bool:=am.contains p.bN&&decide (0<=p.no)&&decide (p.no<4096)&&cq p.d&&cq p.e
def oT(am:List Int)(z:Int × Int):Bool:=am.contains z.1&&cG z.2
def Ce.eC(c:Ce):Int:=NT.eC c.U c.ae c.ep c.av c.doc c.am
def gQ(c:Ce):Int:=
 if c.eC≠0 then 440
 else if (fH (oS c.am) Pr.bN (-1) c.bO&&fH (oT c.am) jz (-1) c.aW)=au then 440
 else if F c.bO≠F c.am/\c.aW≠[] then 440 else 0
def De{α:Type}[DecidableEq α](k:α->Int)(x:α)(l:List α):Int × List α:=
 match pz k (k x) l with
 |some y=>if y=x then (0,l) else (151,[])
 |none=>(0,nE k x l)
def mj(c:Ce)(p:Pr):Int × List Pr:=
 if gQ c≠0 then (440,[]) else if oS c.am p=au then (420,[]) else De Pr.bN p c.bO
def mG(c:Ce)(z:Int × Int):Int × List (Int × Int):=
 if gQ c≠0 then (440,[]) else if oT c.am z=au then (400,[]) else if F c.bO≠F c.am then (420,[]) else De jz z c.aW
section
variable {α:Type} [DecidableEq α] {k:α->Int} {right:α->Bool} {x y:α} {l m:List α}
end
def EA{c}:gQ c=0↔c.eC=0/\fH (oS c.am) Pr.bN (-1) c.bO=aa/\fH (oT c.am) jz (-1) c.aW=aa/\(c.aW≠[]->F c.bO=F c.am):=by
 unfold gQ;by_cases e:c.eC=0
 .rw[aV (by simp[e])];cases j:fH (oS c.am) Pr.bN (-1) c.bO<;>cases o:fH (oT c.am) jz (-1) c.aW<;>simp[e];by_cases f:c.aW=[]
  .simp[f]
  .by_cases i:F c.bO=F c.am
   .simp[i]
   .simp[f,i]
 .rw[aH (by simp[e])];simp[e]
def FX{c:Ce}(h:c.eC=0):dL (-1) c.am=aa:=by
 unfold Ce.eC NT.eC at h;split at h
 .rename_i q;exact absurd h q
 split at h
 .exact absurd h bm
 split at h
 .exact absurd h bm
 split at h
 .exact absurd h bm
 .rename_i q;simpa using q
end Go.NT
end
section
namespace Go.Proofs.YtcbhpkjbiehcpaaGreatDoor
open Go.AE Go.NT
def ay7:Tryz.f143.results.toList=[.tmp 2]:=by kernel_rfl
def ay8:Tryz.f170.results.toList=[.tmp 2]:=by kernel_rfl
def F8:Tryz.f144.results.toList=[.tmp 4]:=by kernel_rfl
def r8:Tryz.f171.results.toList=[.tmp 4]:=by kernel_rfl
def F9:Tryz.f38.results.toList=[.tmp 2]:=by kernel_rfl
def ZS15{p:Prop}(h:p:=by
 unfold im AW;by_cases e:0<=t
 .refine da O Q72 O ?_;have:decide (0<=t)=aa:=by simp[e]
  exact f_ @Q73 @pF
 .refine da O Q72 O ?_;have:decide (0<=t)=au:=by simp[e]
  exact f_ @Q73 @Bool.false_and):p:=h
section
open Go.Proofs.Tryz renaming func143->Q72
open Go.Proofs.YtcbhpkjbiehcpaaGreatDoor renaming ay7->Q73
def av3(t:Int)(h:ah):W8.call 143 [im t] h=J (.ret (.v (.bool (AW t))),h):=ZS15
end
section
open Go.Proofs.Tryz renaming func170->Q72
open Go.Proofs.YtcbhpkjbiehcpaaGreatDoor renaming ay8->Q73
def av4(t:Int)(h:ah):W8.call 170 [im t] h=J (.ret (.v (.bool (AW t))),h):=ZS15
end
def UV{l}{i}(h:i<F l):l.drop i=al l i::l.drop (i+1):=by rw[uw h,fL h]
def amP(h:ah)(x:V)(l:List Int)(e:Int)(hx:IL x l)(hl:F l<=9223372036854775807):∃r h',W8.call 144 [x,im e] h=J (r,h')/\h'=h/\r=.ret (.v (.bool (iu l e))):=by
 obtain⟨k,s,rfl,E⟩:=hx;have ks:=aj.mk E;clear E;have u23:=dp;have z3:=fa;have e_:=db l;unfold im;refine cA O Tryz.func144 O ?_;refine bD @F8 ?_;refine cJ (λm A H=>∃(j:Nat) (i:Int),j<=F l/\m=F l-j/\aj (n_ e i (l.drop j)=n_ e (-1) l)/\A.get 0=.ac k s (aF l)/\A.get 1=(e:Int)/\A.get 5=(i:Int)/\A.get 8=.ac k s (aF l)/\A.get 9=(F l:Nat)/\A.get 10=(j:Nat)/\A.defers=[]/\H=h) ?_ (F l) _ _ ?_;rotate_left 1
 .refine⟨0,-1,cC _,O,⟨O⟩,?_,?_,?_,?_,?_,?_,?_,O⟩<;>exact gR
 rintro m A H ⟨j,i,hi,rfl,kP,g0,g1,g5,g8,g9,g10,hd,rfl⟩;by_cases o:j<F l
 .have eM:s=1:=ks.M (by intro q;rw[q]at o;simp at o);subst eM;have ld:=eI (H:=H) (s:=1) o;have gG:(j:Int)<(F l:Int):=by omega
  have B:aj (n_ e (-1) l=(decide (i<al l j)&&decide (al l j<e)&&n_ e (al l j) (l.drop (j+1)))):=⟨by rw[<-kP.M,UV o,n_]⟩;generalize al l j=u at *
  by_cases D:u<=i
  .have v:aj (iu l e=au):=⟨by unfold iu;rw[B.M,cR (af:¬i<u)];rfl⟩;have d1:decide (u<=i)=aa:=cD D
   repeat' (first|simp(maxSteps:=9999999) (disch:=first|exact dZ|fail) only[gW,reduceIte,aT,aN,F8,bj, *]|refine dX ?_ ?_<;>(intro _;try omega))
   all_goals exact⟨_,_,O,O,by rw[v.M]⟩
  .have d1:decide (u<=i)=au:=cR D;by_cases c2:e<=u
   .have v:aj (iu l e=au):=⟨by unfold iu;rw[B.M,cR (af:¬u<e),Bool.and_false];rfl⟩;have d2:decide (u>=e)=aa:=cD c2
    repeat' (first|simp(maxSteps:=9999999) (disch:=first|exact dZ|fail) only[gW,reduceIte,aT,aN,F8,bj, *]|refine dX ?_ ?_<;>(intro _;try omega))
    all_goals exact⟨_,_,O,O,by rw[v.M]⟩
   .have f:aj (n_ e u (l.drop (j+1))=n_ e (-1) l):=⟨by rw[B.M,cD (af:i<u),cD (af:u<e)];rfl⟩;have d2:decide (u>=e)=au:=cR af
    repeat' (first|simp(maxSteps:=9999999) (disch:=first|exact dZ|fail) only[gW,reduceIte,aT,aN,F8,bj, *]|refine dX ?_ ?_<;>(intro _;try omega))
    all_goals exact⟨F l-(j+1),by omega,j+1,u,by omega,O,f,by simp⟩
 .have:j=F l:=by omega
  subst this;have v:aj (iu l e=decide (F l<=16)):=⟨by unfold iu;rw[<-kP.M,Lw];rfl⟩
  repeat' (first|simp(maxSteps:=9999999) (disch:=first|exact dZ|fail) only[gW,reduceIte,aT,aN,F8, *]|refine dX ?_ ?_<;>(intro _;try omega))
  all_goals exact⟨_,_,O,O,by rw[v.M];by_cases q:F l<=16<;>simp[q]<;>omega⟩
def aoZ(h:ah)(x:V)(l:List Int)(hx:IL x l)(hl:F l<=9223372036854775807):∃r h',W8.call 38 [x] h=J (r,h')/\h'=h/\r=.ret (.v (.bool (dL (-1) l))):=by
 obtain⟨k,s,rfl,D⟩:=hx;have ks:=aj.mk D;clear D;have u23:=dp;have z3:=fa;have e_:=db l;refine cA O Tryz.func38 O ?_;refine bD @F9 ?_;refine cJ (λm A H=>∃(j:Nat) (e:Int),j<=F l/\m=F l-j/\aj (dL e (l.drop j)=dL (-1) l)/\aj (-1<=e)/\A.get 3=(e:Int)/\A.get 6=.ac k s (aF l)/\A.get 7=(F l:Nat)/\A.get 8=(j:Nat)/\A.defers=[]/\H=h) ?_ (F l) _ _ ?_;rotate_left 1
 .refine⟨0,-1,cC _,O,⟨O⟩,⟨DT _⟩,?_,?_,?_,?_,?_,O⟩<;>exact gR
 rintro m A H ⟨j,e,hi,rfl,kP,kl,g3,g6,g7,g8,hd,rfl⟩;by_cases i:j<F l
 .have E:s=1:=ks.M (by intro q;rw[q]at i;simp at i);subst E;have ld:=eI (H:=H) (s:=1) i;have gG:(j:Int)<(F l:Int):=by omega
  have v:aj (dL (-1) l=dL e (al l j::l.drop (j+1))):=⟨by rw[<-kP.M,UV i]⟩;generalize al l j=u at *
  by_cases B:u<=e
  .have o:aj (dL (-1) l=au):=⟨by rw[v.M,dL];simp;omega⟩;have d1:decide (u<=e)=aa:=cD B
   repeat' (first|simp(maxSteps:=9999999) (disch:=first|exact dZ|fail) only[gW,reduceIte,aT,aN,F9,bj, *]|refine dX ?_ ?_<;>(intro _;try omega))
   all_goals exact⟨_,_,O,O,by rw[o.M]⟩
  .have d1:decide (u<=e)=au:=cR B;by_cases c2:64<=u
   .have o:aj (dL (-1) l=au):=⟨by rw[v.M,dL];simp;omega⟩;have d2:decide (u>=64)=aa:=cD c2
    repeat' (first|simp(maxSteps:=9999999) (disch:=first|exact dZ|fail) only[gW,reduceIte,aT,aN,F9,bj, *]|refine dX ?_ ?_<;>(intro _;try omega))
    all_goals exact⟨_,_,O,O,by rw[o.M]⟩
   .have f:aj (dL u (l.drop (j+1))=dL (-1) l):=⟨by have:=kl.M;rw[v.M,dL];simp;omega⟩;have d2:decide (u>=64)=au:=cR af;have kl2:aj (-1<=u):=⟨by have:=kl.M;omega⟩
    repeat' (first|simp(maxSteps:=9999999) (disch:=first|exact dZ|fail) only[gW,reduceIte,aT,aN,F9,bj, *]|refine dX ?_ ?_<;>(intro _;try omega))
    all_goals exact⟨F l-(j+1),by omega,j+1,u,by omega,O,f,kl2,by simp⟩
 .have:j=F l:=by omega
  subst this;have o:aj (dL (-1) l=aa):=⟨by rw[<-kP.M,Lw];rfl⟩
  repeat' (first|simp(maxSteps:=9999999) (disch:=first|exact dZ|fail) only[gW,reduceIte,aT,aN,F9, *]|refine dX ?_ ?_<;>(intro _;try omega))
  all_goals exact⟨_,_,O,O,by rw[o.M]⟩
def aqh:Tryz.f72.results.toList=[.tmp 2]:=by kernel_rfl
def aqi:Tryz.f95.results.toList=[.tmp 2]:=by kernel_rfl
def gm(b:UInt8):V:=.v (.int .u8 b.toNat)
def bH(d:Dc)(p r n:V):List V:=[im d.no,im d.tm,im d.kd,im d.vl,im d.fr,im d.un,p,r,n]++d.tx.map gm
structure mo(d:Dc)(p r n:V):Prop where
 p:IL p d.pa
 r:IL r d.rv
 n:IL n d.nd
 t:d.tx.length=32
def Pq{x}{l}(hx:IL x l)(f:F l<=9223372036854775807)(e):∀h,W8.call 144 [x,im e] h=J (.ret (.v (.bool (iu l e))),h):=λh=>by obtain⟨_,_,c,rfl,rfl⟩:=amP h x l e hx f;exact c
def awi(l:List UInt8):(l.map gm).all V.dt=aa:=by rw[ff];intro x hx;obtain⟨b,-,rfl⟩:=iX.1 hx;rfl
section
variable {d:Dc} {p r n:V} (ok:mo d p r n)
include ok
def mo.len:F (bH d p r n)=41:=by unfold bH;rw[de,bJ,ok.t];rfl
def mo.cells:(V.agg (bH d p r n)).bP=J (bH d p r n):=by obtain⟨_,_,rfl,-⟩:=ok.p;obtain⟨_,_,rfl,-⟩:=ok.r;obtain⟨_,_,rfl,-⟩:=ok.n;have:=awi d.tx;unfold V.bP bH;simp only;rw[aH];rw[qP,this];rfl
end
def EK:(∀b,eo ag 31 (.ptr (.box b) 0) 0=J (.ptr (.box b) 0))/\(∀b,eo ag 31 (.ptr (.box b) 0) 1=J (.ptr (.box b) 1))/\(∀b,eo ag 31 (.ptr (.box b) 0) 2=J (.ptr (.box b) 2))/\(∀b,eo ag 31 (.ptr (.box b) 0) 3=J (.ptr (.box b) 3))/\
 (∀b,eo ag 31 (.ptr (.box b) 0) 4=J (.ptr (.box b) 4))/\(∀b,eo ag 31 (.ptr (.box b) 0) 5=J (.ptr (.box b) 5))/\(∀b,eo ag 31 (.ptr (.box b) 0) 6=J (.ptr (.box b) 6))/\(∀b,eo ag 31 (.ptr (.box b) 0) 7=J (.ptr (.box b) 7))/\
 (∀b,eo ag 31 (.ptr (.box b) 0) 8=J (.ptr (.box b) 8))/\∀b,eo ag 31 (.ptr (.box b) 0) 9=J (.ptr (.box b) 9):=
 ⟨λ_=>by kernel_rfl,λ_=>by kernel_rfl,λ_=>by kernel_rfl,λ_=>by kernel_rfl,λ_=>by kernel_rfl,λ_=>by kernel_rfl,λ_=>by kernel_rfl,λ_=>by kernel_rfl,λ_=>by kernel_rfl,λ_=>by kernel_rfl⟩
def tM{H}{b}{d}{p r n}(e:H.I[b]?=J (bH d p r n)):aL ag Gt H 3 (.ptr (.box b) 0)=J (im d.no)/\aL ag Gt H 3 (.ptr (.box b) 1)=J (im d.tm)/\aL ag Gt H 3 (.ptr (.box b) 2)=J (im d.kd)/\aL ag Gt H 3 (.ptr (.box b) 3)=J (im d.vl)/\aL ag Gt H 3 (.ptr (.box b) 4)=J (im d.fr)/\aL ag Gt H 3 (.ptr (.box b) 5)=J (im d.un)/\
 aL ag Gt H 23 (.ptr (.box b) 6)=J p/\aL ag Gt H 23 (.ptr (.box b) 7)=J r/\aL ag Gt H 23 (.ptr (.box b) 8)=J n:=by
 refine⟨?_,?_,?_,?_,?_,?_,?_,?_,?_⟩<;>first|(rw[fx eH e];rfl)|(rw[fx mV e];rfl)
def yi{H}{b}{D}(f:F D=41)(e:H.I[b]?=J D):aL ag Gt H 31 (.ptr (.box b) 0)=J (.agg D):=by rw[fS bX (by kernel_rfl:cQ ag 31=J 41) e af,gP,<-f,gy]
def aq1(h:ah)(d:Dc)(p r n:V)(ok:mo d p r n)(e:F d.pa<=9223372036854775807)(f:F d.rv<=9223372036854775807)(i:F d.nd<=9223372036854775807):∃j h',W8.call 72 [.agg (bH d p r n)] h=J (j,h')/\j=.ret (.v (.bool (g_ d))):=by
 have B:=ok.cells;have o:=Pq ok.p e 1048577;have u:=Pq ok.r f d.no;have v:=Pq ok.n i d.no;have A:=av3 d.tm;have L:=tM (aU h (bH d p r n));have z1:=EK;clear ok e f i;unfold g_;generalize bH d p r n=z0 at *
 generalize iu d.pa 1048577=u1 at *
 generalize iu d.rv d.no=u2 at *
 generalize iu d.nd d.no=u3 at *
 generalize AW d.tm=u4 at *
 obtain⟨no,tm,E,vl,D,un,pa,rv,nd,tx⟩:=d;simp only at L o u v A ⊢;unfold im at *
 refine cA O Tryz.func72 O ?_
 repeat' (first|simp(maxSteps:=9999999) (disch:=first|exact dZ|fail) only[gW,reduceIte,aT,aN,aqh,bC, *]|refine dX ?_ ?_<;>(intro _;try omega))
 all_goals exact⟨_,_,O,by simp[*]⟩
def amQ(h:ah)(x:V)(l:List Int)(e:Int)(hx:IL x l)(hl:F l<=9223372036854775807):∃r h',W8.call 171 [x,im e] h=J (r,h')/\h'=h/\r=.ret (.v (.bool (iu l e))):=by
 obtain⟨k,s,rfl,hs⟩:=hx;have ks:=aj.mk hs;clear hs;have u23:=dp;have z3:=fa;have e_:=db l;unfold im;refine cA O Tryz.func171 O ?_;refine bD @r8 ?_;refine cJ (λm z0 H=>∃(i:Nat) (f:Int),i<=F l/\m=F l-i/\aj (n_ e f (l.drop i)=n_ e (-1) l)/\ -1<=f/\aj (i=0->f= -1)/\aj (0<i->al l (i-1)=f)/\z0.get 0=.ac k s (aF l)/\z0.get 1=(e:Int)/\z0.get 5=(i:Nat)/\z0.defers=[]/\H=h) ?_ (F l) _ _ ?_;rotate_left 1
 .refine⟨0,-1,cC _,O,⟨O⟩,DT _,⟨λ_=>rfl⟩,⟨λq=>absurd q (Nat.lt_irrefl _)⟩,?_,?_,?_,?_,O⟩<;>exact gR
 rintro m z0 H ⟨i,f,hi,rfl,kP,Fm,k0,k1,g0,g1,g5,hd,rfl⟩;by_cases u:i<F l;rotate_left 1
 .have:i=F l:=by omega
  subst this;have j:iu l e=decide (F l<=16):=by unfold iu;rw[<-kP.M,oo (bh _)];rfl
  have B:=aj.mk j;clear j;refine bD @r8 ?_;exact⟨_,_,O,O,by rw[B.M];by_cases q:F l<=16<;>simp[q]<;>omega⟩
 have eM:s=1:=ks.M (by intro q;rw[q]at u;simp at u);subst eM;have ld:=eI (H:=H) (s:=1) u;have gG:(i:Int)<(F l:Int):=by omega
 have D:l.drop i=al l i::l.drop (i+1):=by rw[fL u];exact uw u
 have Ag:=kP.M;rw[D,n_]at Ag;have o:=aj.mk Ag;clear Ag D;by_cases v:al l i<0
 .have iN:decide (al l i<0)=aa:=by simp[v]
  have j:iu l e=au:=by unfold iu;rw[<-o.M];simp;omega
  have B:=aj.mk j;clear j v;refine bF @r8 @bj ?_;refine dW By bX ?_;refine bF @r8 @bj ?_;exact⟨_,_,O,O,by rw[B.M]⟩
 have iN:decide (al l i<0)=au:=by simp[v]
 by_cases E:e<=al l i
 .have jQ:decide (e<=al l i)=aa:=by simp[E]
  have j:iu l e=au:=by unfold iu;rw[<-o.M];simp;omega
  have B:=aj.mk j;clear j v E;refine bF @r8 @bj ?_;refine dW By bX ?_;refine bF @r8 @bj ?_;exact⟨_,_,O,O,by rw[B.M]⟩
 have jQ:decide (e<=al l i)=au:=by simp;omega
 by_cases N2:i=0
 .subst N2;have IQ:=k0.M O;have kP2:aj (n_ e (al l 0) (l.drop (0+1))=n_ e (-1) l):=⟨by rw[<-o.M,cD (af:f<al l 0),cD (af:al l 0<e)];rfl⟩;have tI: -1<=al l 0:=by omega
  have kk1:aj (0<0+1->al l (0+1-1)=al l 0):=⟨λ_=>rfl⟩;clear v E IQ o;refine bF @r8 @bj ?_;refine dW By bX ?_;refine bF @r8 @bj ?_;exact⟨F l-1,by omega,0+1,al l 0,by omega,O,kP2,tI,⟨λq=>absurd q af⟩,kk1,by simp⟩
 .have A:=k1.M af;have ld1:=eI (H:=H) (l:=l) (i:=i-1) (s:=1) af;rw[A]at ld1;have akF:decide ((0:Int)<(i:Int))=aa:=cD af;have akU:(i:Int)-1=((i-1:Nat):Int):=by omega
  have ayk:((i-1:Nat):Int)<(F l:Int):=by omega
  by_cases c3:al l i<=f
  .have rg:decide (al l i<=f)=aa:=(by simp[c3]);have j:iu l e=au:=(by unfold iu;rw[<-o.M];simp;omega);have B:=aj.mk j;clear j v E c3 A;refine bF @r8 @bj ?_;refine dW By bX ?_;refine bF @r8 @bj ?_;exact⟨_,_,O,O,by rw[B.M]⟩
  .have rg:decide (al l i<=f)=au:=(by simp;omega);have kP2:aj (n_ e (al l i) (l.drop (i+1))=n_ e (-1) l):=⟨by rw[<-o.M,cD (af:f<al l i),cD (af:al l i<e)];rfl⟩;have tI: -1<=al l i:=(by omega);have kk1:aj (0<i+1->al l (i+1-1)=al l i):=⟨λ_=>rfl⟩;clear v E c3 A o;refine bF @r8 @bj ?_;refine dW By bX ?_;refine bF @r8 @bj ?_;exact⟨F l-(i+1),by omega,i+1,al l i,by omega,O,kP2,tI,⟨λq=>absurd q af⟩,kk1,by simp⟩
def Ps{x}{l}(hx:IL x l)(f:F l<=9223372036854775807)(e):∀h,W8.call 171 [x,im e] h=J (.ret (.v (.bool (iu l e))),h):=λh=>by obtain⟨_,_,c,rfl,rfl⟩:=amQ h x l e hx f;exact c
def aq2(h:ah)(d:Dc)(p r n:V)(ok:mo d p r n)(e:F d.pa<=9223372036854775807)(f:F d.rv<=9223372036854775807)(i:F d.nd<=9223372036854775807):∃j h',W8.call 95 [.agg (bH d p r n)] h=J (j,h')/\j=.ret (.v (.bool (g_ d))):=by
 have B:=ok.cells;have o:=Ps ok.p e 1048577;have u:=Ps ok.r f d.no;have v:=Ps ok.n i d.no;have A:=av4 d.tm;have L:=tM (aU h (bH d p r n));have z1:=EK;clear ok e f i;unfold g_;generalize bH d p r n=z0 at *
 generalize iu d.pa 1048577=u1 at *
 generalize iu d.rv d.no=u2 at *
 generalize iu d.nd d.no=u3 at *
 generalize AW d.tm=u4 at *
 obtain⟨no,tm,E,vl,D,un,pa,rv,nd,tx⟩:=d;simp only at L o u v A ⊢;unfold im at *
 refine cA O Tryz.func95 O ?_
 repeat' (first|simp(maxSteps:=9999999) (disch:=first|exact dZ|fail) only[gW,reduceIte,aT,aN,aqi,bC, *]|refine dX ?_ ?_<;>(intro _;try omega))
 all_goals exact⟨_,_,O,by simp[*]<;>omega⟩
def Rl(ep:Int)(X Y C S W L N:V):List V:=[im ep,X,Y,C,S,W,L,N]
abbrev nl:V:=.ac .nil 0 []
def pW:cQ ag 27=J 4:=aB
def avJ:cQ ag 72=J 1:=aB
section
open Go renaming kk46->Q45,kk4->Q46,kk64->Q47
def alf:∃i,ag.info? 46=J i/\i.size=4/\i.bytes<=64/\(i.zero.map λz=>z.cells.size)=J 4:=ZS8
end
def afv(p):fC ag 32 1 [(0,.agg (bB p))]=J (.ac .aP 4 [bB p]):=aB
def aef{H}{k}{n0 sz}{l}{p}(i:F l<1000000)(f:sz=4∨(l=[]/\k=.nil))(e:dm n0 H k):
 gC ag H #[32,32] (.ac k sz (cL l)) (.ac .aP 4 [bB p])=J (.ac (.free H.tn) 4 (cL (l++[p])),H.app k):=by
 have:=HB (T:=32) (E:=46) (n:=4) (H:=H) (k:=k) (n0:=n0) (sz:=sz) (es:=cL l) (r:=bB p) xv alf af (by rw[C5];omega) (f.imp_right λq=>⟨by rw[q.1];rfl,q.2⟩) e;rw[this];unfold cL;rw[jN];rfl
structure TI(h H:ah)(X Y:V)(T:List V)(t:Tok):Prop where
 ext:Ext h H
 ok:du H=aa
 can:dm h.tn H t
 pb:H.I[h.I.length]?=J [X,Y]
 tb:H.I[h.I.length+1]?=J T
section
variable {h H:ah} {X Y:V} {T:List V} {t:Tok}
def TI.app(b:TI h H X Y T t):TI h (H.app t) X Y T (.free H.tn):=by have e:=Grown.one b.can b.ok b.ext.tn;exact⟨e.ext b.ext (bh _),e.ok,e.can,by rw[ey];exact b.pb,by rw[ey];exact b.tb⟩
def TI.push(b:TI h H X Y T t)(cs:List V):TI h (H.push cs) X Y T t:=⟨b.ext.trans (.push _ _),b.ok,by rw[tj];exact b.can,aX b.pb,aX b.tb⟩
def TI.put(b:TI h H X Y T t)(e:List V):TI h (H.put (F h.I+1) e) X Y e t:=by have f:=(bk.1 b.tb).1;exact⟨b.ext.gw af _,b.ok,by rw[Bz];exact b.can,by rw[cS af];exact b.pb,dM f⟩
def TI.nil(b:TI h H X Y T t):TI h H X Y T .nil:=⟨b.ext,b.ok,.inl O,b.pb,b.tb⟩
end
section
variable {H:ah} {b:Nat} {ep:Int} {X Y C S W L N x:V}
def stS(e:H.I[b]?=J (Rl ep X Y C S W L N))(hx:x.bP=J [x]):b9 ag H 72 (.ptr (.box b) 4) x=J (H.put b (Rl ep X Y C x W L N)):=
 fI (off:=4) (cs:=Rl ep X Y C S W L N) (xs:=[x]) hx avJ e O (lQ O)
end
structure axu(U:List (List Int))(ae av:List Int)(sh:List (Int × Int))(am:List Int)(l:List Pr)(nn:List Int)(X Y C S W L N:V):Prop where
 x:RL X U
 y:IL Y ae
 c:IL C av
 s:SL S sh
 w:IL W am
 p:PL L l
 n:IL N nn
 wl:am.length<=16
 nl:nn.length=2 * am.length
 sl:sh.length<=1000
 inn:∀p∈sh,0<=p.1/\p.1<ae.length
 cl:av.length<=1000000
 ll:l.length<=1000000
structure TB(h H:ah)(T:List V)(t:Tok):Prop where
 ext:Ext h H
 ok:du H=aa
 can:dm h.tn H t
 tb:H.I[h.I.length]?=J T
section
variable {h H:ah} {T:List V} {t:Tok}
def TB.app(b:TB h H T t):TB h (H.app t) T (.free H.tn):=by have e:=Grown.one b.can b.ok b.ext.tn;exact⟨e.ext b.ext (bh _),e.ok,e.can,by rw[ey];exact b.tb⟩
def TB.push(b:TB h H T t)(cs:List V):TB h (H.push cs) T t:=⟨b.ext.trans (.push _ _),b.ok,by rw[tj];exact b.can,aX b.tb⟩
def TB.start(e:du h=aa)(T:List V):TB h (h.push T) T .nil:=⟨.push _ _,e,.inl O,aU _ _⟩
end
def GV:(gp ag 52).bind V.bP=J [im 0,im 0]:=aB
def GG:cQ ag 52=J 2:=aB
def ad5:f' ag 52=J aa:=aB
def yj{H}{b}{x y}(e:H.I[b]?=J [im x,im y]):aL ag Gt H 52 (.ptr (.box b) 0)=J (.agg [im x,im y]):=by rw[fS ad5 GG e (bh 2)];rfl
def AQ{H}{b}{x y u v}(e:H.I[b]?=J [im x,im y]):b9 ag H 52 (.ptr (.box b) 0) (.agg [im u,im v])=J (H.put b [im u,im v]):=
 fI (off:=0) (cs:=[im x,im y]) (xs:=[im u,im v]) O GG e O (bh 2)
def vX(z:List Int)(k:Nat):Int:=(z.take k).foldl cX 0
def adT{z}{k}(h:k<F z):vX z (k+1)=cX (vX z k) (al z k):=by unfold vX;rw[ga (aY h),List.foldl_append,fL h];rfl
structure oZ(am N:List Int)(l:List Pr):Prop where
 len:l.length=am.length
 nl:N.length=2 * am.length
 ok:∀x∈N,okF x
 at_:∀i<am.length,∃no:Int,0<=no/\no<4096/\l[i]?=J ⟨al am i,no,(cN Gn (al N (2 * i)):Nat),(cN Gn (al N (2 * i+1)):Nat)⟩
def oZ.tW{am N}{l}(c:oZ am N l){i}(h:i<F am):okF (al N (2*i))/\okF (al N (2*i+1)):=⟨c.ok _ (Eu (by rw[c.nl];omega)),c.ok _ (Eu (by rw[c.nl];omega))⟩
def oZ.js{am N}{l}(c:oZ am N l):l.map Pr.bN=am:=by
 refine oq λe=>?_;rcases eg e (F am) with h|h
 .obtain⟨f,-,-,q⟩:=c.at_ e h;rw[eF,q,gc,fL h,aY h]
 .rw[sQ (by rw[bJ,c.len];exact h),sQ h]
def UX(n):cq ((cN Gn n:Nat):Int)=aa:=by have h:=C9 vL n;unfold cq;rw[fe,h,GZ,decide_eq_true_eq];have:=(elem_iff.1 h).1;omega
def aoO:∀{l:List Pr} {e:Int},dL e (l.map Pr.bN)=aa->(∀p∈l,0<=p.no/\p.no<4096/\cq p.d=aa/\cq p.e=aa)->jU e l=aa:=by
 intro l
 induction l with
 |nil=>intro _ _ _;rfl|cons p l i=>intro e h1 h2;rw[dR,dL]at h1;simp only[bQ,decide_eq_true_eq]at h1;obtain⟨u,v,j,o⟩:=h2 p gt;rw[NT.jU,i h1.2 λq f=>h2 q (gr _ f),j,o];simp only[GZ,bQ,decide_eq_true_eq];omega
def oZ.mem{am N}{l}(c:oZ am N l){p}(hp:p∈l):∃i,∃(_:i<F am) (f:Int),0<=f/\f<4096/\l[i]?=J p/\p=⟨al am i,f,(cN Gn (al N (2*i)):Nat),(cN Gn (al N (2*i+1)):Nat)⟩:=by obtain⟨i,j⟩:=List.getElem?_of_mem hp;have e:=(bk.1 j).1;rw[c.len]at e;obtain⟨f,o,u,q⟩:=c.at_ i e;rw[j]at q;injection q with q;exact⟨i,e,f,o,u,j,q⟩
def oZ.bO{am N}{l}(c:oZ am N l)(hw:dL (-1) am=aa):jU (-1) l=aa:=by refine aoO (by rw[c.js];exact hw) λp hp=>?_;obtain⟨o,i,j,e,f,-,rfl⟩:=c.mem hp;exact⟨e,f,UX _,UX _⟩
def Aw(am:List Int)(k:Int):Nat:=am.idxOf k
def XY{am}(e:am.Nodup){i}(h:i<F am):Aw am (al am i)=i:=by unfold Aw;rw[fL h];exact e.idxOf_getElem i h
def oZ.am1{am N}{l}(c:oZ am N l)(hw:dL (-1) am=aa):LP l (λk=>al N (2*Aw am k)) (λk=>al N (2*Aw am k+1)):=by intro p hp;obtain⟨o,e,j,f,i,-,rfl⟩:=c.mem hp;simp only[XY (PX hw).2 e];exact⟨br,br⟩
def Zl{U}{ae s}(j:F U=F ae)(k):oQ ae [k] (fA U s)=m_ ae (kj U s) k:=by
 unfold oQ m_ oU fA;rw[j];have v:∀(L:List Nat),(∀e∈L,e<F U)->(L.map λe=>(((e:Nat):Int),lj (U.getD e []) s)).flatMap (ys ae [k])=(L.filter λe=>decide (al ae e=k)).map λe=>(((e:Nat):Int),al (kj U s) e):=by
  intro L
  induction L with
  |nil=>intro _;rfl|cons e L u=>
   intro i;have f:=i e gt;rw[dR,List.flatMap_cons,u λA o=>i A (gr _ o),List.filter_cons];unfold ys;rw[fe];by_cases q:al ae e=k
   .rw[aH (by simp[q]),List.filter_cons_of_pos (by simp[q]),dR,dR,aaU f];rfl
   .rw[aV (by simp[q]),List.filter_cons_of_neg (by simp[Ne.symm q])];rfl
 exact v _ λe f=>by rw[j];exact List.mem_range.1 f
section
variable {U:List (List Int)} {ae am N s y:List Int} {l:List Pr} {aC:List UInt8} {ep:Int}
def UF{av:List Int}(c:oZ am N l)(e:fm U ae am=(y,aa,0))(j:am≠[])(o:F am<=64)(ht:F aC<=65536)(i:0<=ep/\ep<=64)(hc:F av=cr U)(f:av.all cq=aa):eK U ae ep av aC l=0:=by obtain⟨hp,hw,-⟩:=xw e;unfold eK;rw[aV (by simp[hp]),aV (by simp[hc,f,i.1,i.2]),aV af,aV (by rw[c.len];omega),aV (by rw[c.bO hw];simp),c.js,e];have:F am≠0:=λq=>j (List.length_eq_zero_iff.1 q);simp[c.len,this]
def HT(e:F s=cr U):F (bU s)=cr U/\(bU s).all cq=aa:=⟨by unfold bU;rw[bJ,e],ahi⟩
def UG(c:oZ am N l)(f:fm U ae am=(y,aa,0))(j:am≠[])(o:F am<=64)(ht:F aC<=65536)(u:0<=ep/\ep<=64)(e:F s=cr U){i:Nat}(hi:i<F am):
 na U ae ep (bU s) aC l (al am i) (m_ ae (kj U s) (al am i)) (al N (2*i)) (al N (2*i+1))=
  (qG U ae (bU s) aC l (al am i) (al N (2*i)) (al N (2*i+1)) (m_ ae (kj U s) (al am i)),0):=by
 obtain⟨hp,hw,-⟩:=xw f;unfold na;rw[aV (by rw[UF c f j o ht u (HT e).1 (HT e).2];simp)];obtain⟨A,-,-,q⟩:=c.at_ i hi;have v:=dy q;exact ani hp e (c.bO hw) v O O (c.tW hi).1 (c.tW hi).2
def ahv(c:oZ am N l)(f:fm U ae am=(y,aa,0))(j:F s=cr U):
 ol (al (bU s) 0) aC ((ft (al (bU s) 0) aC l:Nat):Int) (((bT (F am)).map λi=>qG U ae (bU s) aC l (al am i) (al N (2*i)) (al N (2*i+1)) (m_ ae (kj U s) (al am i))).foldl cX 0)=aa:=by
 obtain⟨hp,hw,-⟩:=xw f;have e:=Kw (aC:=aC) (l:=l) (by rw[c.js];exact f) j (c.am1 hw);rw[c.js]at e;have o:(am.map λk=>qG U ae (bU s) aC l k (al N (2*Aw am k)) (al N (2*Aw am k+1)) (m_ ae (kj U s) k))=(bT (F am)).map λi=>qG U ae (bU s) aC l (al am i) (al N (2*i)) (al N (2*i+1)) (m_ ae (kj U s) (al am i)):=by
  refine oq λi=>?_;rcases eg i (F am) with h|h
  .have hx:=XY (PX hw).2 h;rw[eF,eF,Bb h,aY h,gc,gc];rw[fL h]at hx ⊢;rw[hx]
  .rw[sQ (by simpa using h),sQ (by simpa using h)]
 rw[o]at e;exact e
end
def R3:List (List Int):=[[1,1],[1,2],[1,3]]
def O3:List Int:=[0,1,2]
def S2:List Int:=[10,4]
def wX:List UInt8:=[116,101,120,116]
def pA:Pr:=⟨0,0,(cN Gn 5:Nat),(cN Gn 6:Nat)⟩
def pB:Pr:=⟨2,2,(cN Gn 7:Nat),(cN Gn 8:Nat)⟩
def adE:fm R3 O3 [0,2]=([536870896,0,536870894],aa,0):=by decide+kernel
abbrev C3:List Int:=bU S2
abbrev b3(k:Int):Int:=((gJ (al C3 0) wX [pA,pB] k:Nat):Int)
abbrev Uo:Int:=((ft (al C3 0) wX [pA,pB]:Nat):Int)
def x3:Int:=cX (cX 5 (cV 6 (b3 0))) (cV Uo 21)
def y3:Int:=cX (cX 7 (cV 8 (b3 2))) (cV Uo 1073741778)
def HJ(a b):fC ag 23 2 [(0,((a:Int):V)),(1,((b:Int):V))]=J (.ac .aP 1 (aF [a,b])):=aB
def X3:V:=.ac .aP 1 [[.ac .aP 1 (aF [1,1])],[.ac .aP 1 (aF [1,2])],[.ac .aP 1 (aF [1,3])]]
def T3:V:=.ac .held 1 (bW wX)
def rl3:RL X3 R3:=by
 refine⟨.aP,1,[.ac .aP 1 (aF [1,1]),.ac .aP 1 (aF [1,2]),.ac .aP 1 (aF [1,3])],O,λ_=>rfl,O,λi a r e f=>?_⟩
 match i with
 |0=>injection e with e;injection f with f;subst e;subst f;exact⟨_,_,O,λ_=>rfl⟩
 |1=>injection e with e;injection f with f;subst e;subst f;exact⟨_,_,O,λ_=>rfl⟩
 |2=>injection e with e;injection f with f;subst e;subst f;exact⟨_,_,O,λ_=>rfl⟩
 |i+3=>simp at e
def afw(p q):fC ag 32 2 [(0,.agg (bB p)),(1,.agg (bB q))]=J (.ac .aP 4 (cL [p,q])):=aB
def aw7:(gp ag 25).bind V.bP=J [nl,nl]:=aB
def GU:(gp ag 27).bind V.bP=J (aJ 0 nl nl nl):=aB
def Tr{X Y C}{U}{ae av}(hx:RL X U)(E:IL Y ae)(hc:IL C av):iP ag 27 [(1,.agg [X,Y]),(2,C)]=J (.agg (aJ 0 X Y C)):=by obtain⟨_,_,_,rfl,-⟩:=hx.form;obtain⟨_,_,rfl,-⟩:=E;obtain⟨_,_,rfl,-⟩:=hc;kernel_rfl
def aeT(a b):iP ag 52 [(0,im a),(1,im b)]=J (.agg [im a,im b]):=aB
section
variable {U:List (List Int)} {ae B eD:List Int} {A sm:Int} {aC:List UInt8}
def F5(U:List (List Int))(ae s am N:List Int)(l:List Pr)(aC:List UInt8)(i:Nat):Int:=
 qG U ae (bU s) aC l (al am i) (al N (2*i)) (al N (2*i+1)) (m_ ae (kj U s) (al am i))
end
def wI(l:List Pr)(z:List Int):Bool:=decide (F z=F l)&&z.all cG
def jo(U:List (List Int))(ae:List Int)(ep:Int)(av:List Int)(aC:List UInt8)(l:List Pr)(z:List Int):(Int × Int) × Bool × Int:=
 if eK U ae ep av aC l≠0 then ((0,0),au,eK U ae ep av aC l)
 else if wI l z=au then ((0,0),au,1)
 else if ol (al av 0) aC ((ft (al av 0) aC l:Nat):Int) (z.foldl cX 0) then ((((ft (al av 0) aC l:Nat):Int),z.foldl cX 0),aa,0)
 else ((0,0),au,0)
def aol{l}{z}:wI l z=aa↔F z=F l/\∀x∈z,okF x:=by unfold wI;simp only[bQ,decide_eq_true_eq,ff,ws]
section
variable {U:List (List Int)} {ae am N s y z:List Int} {l:List Pr} {aC:List UInt8} {ep:Int}
def tZ(U:List (List Int))(ae s am N:List Int)(l:List Pr)(aC:List UInt8):List Int:=(bT (F am)).map (F5 U ae s am N l aC)
def aoU:F (tZ U ae s am N l aC)=F am:=by unfold tZ;simp
def Zv(i:Nat):okF (F5 U ae s am N l aC i):=Zw
def aoV(c:oZ am N l):wI l (tZ U ae s am N l aC)=aa:=by refine aol.2 ⟨by rw[aoU,c.len],λx hx=>?_⟩;unfold tZ at hx;obtain⟨e,-,rfl⟩:=iX.1 hx;exact Zv e
structure ut(U:List (List Int))(ae am N s y:List Int)(l:List Pr)(aC:List UInt8)(ep:Int):Prop where
 tu:oZ am N l
 acc:fm U ae am=(y,aa,0)
 ne:am≠[]
 wl:am.length<=64
 tl:aC.length<=65536
 ep:0<=ep/\ep<=64
 sl:s.length=cr U
def ut.aeY(c:ut U ae am N s y l aC ep):eK U ae ep (bU s) aC l=0:=
 UF c.tu c.acc c.ne c.wl c.tl c.ep (HT c.sl).1 (HT c.sl).2
def ut.Kw(c:ut U ae am N s y l aC ep):ol (al (bU s) 0) aC ((ft (al (bU s) 0) aC l:Nat):Int) ((tZ U ae s am N l aC).foldl cX 0)=aa:=
 ahv c.tu c.acc c.sl
def ut.comb(c:ut U ae am N s y l aC ep):jo U ae ep (bU s) aC l (tZ U ae s am N l aC)=
 ((((ft (al (bU s) 0) aC l:Nat):Int),(tZ U ae s am N l aC).foldl cX 0),aa,0):=by
 unfold jo;rw[aV (by rw[c.aeY];simp),aV (by rw[aoV c.tu];simp),c.Kw,aH O]
end
def aip:(∀b,eo ag 110 (.ptr (.box b) 0) 0=J (.ptr (.box b) 0))/\∀b,eo ag 110 (.ptr (.box b) 0) 1=J (.ptr (.box b) 1):=⟨λb=>aB,λb=>aB⟩
def axe:(gp ag 110).bind V.bP=J (bI (0,0)):=aB
def avl{H:ah}(p):b9 ag (H.push (bI (0,0))) 110 (.ptr (.box (F H.I)) 0) (.agg (bI p))=J (H.push (bI p)):=j3 O GH O rfl
def amq{H}{b}{p}(e:H.I[b]?=J (bI p)):aL ag Gt H 110 (.ptr (.box b) 0)=J (.agg (bI p)):=by rw[fS Ta GH e (bh 2)];rfl
section
variable {H:ah} {b:Nat} {ep:Int} {X Y C S L Z x:V}
end
structure xu(h H:ah)(X Y:V)(T:List V)(tz to:Tok):Prop where
 ti:TI h H X Y T tz
 co:dm h.tn H to
 ne:∀a,tz=.free a->to≠ .free a
def xu.start{h H}{X Y}{T}{e}(b:TI h H X Y T e):xu h H X Y T e .nil:=⟨b,.inl O,λ_ _ q=>by cases q⟩
def xu.push{h H}{X Y}{T}{f e}(b:xu h H X Y T f e)(cs):xu h (H.push cs) X Y T f e:=⟨b.ti.push cs,by rw[tj];exact b.co,b.ne⟩
def xu.app{h H}{X Y}{T}{o j}(b:xu h H X Y T o j):xu h (H.app j) X Y T o (.free H.tn):=by
 have i:=Grown.one b.co b.ti.ok b.ti.ext.tn;refine⟨⟨i.ext b.ti.ext (bh _),i.ok,BA b.ti.can λa e f=>b.ne a f e,by rw[ey];exact b.ti.pb,by rw[ey];exact b.ti.tb⟩,i.can,λa e f=>?_⟩;injection f with f;subst f;rcases b.ti.can with q|q|⟨m,q,-,u⟩
 .rw[q]at e;cases e
 .rw[q]at e;cases e
 .rw[q]at e;injection e with e;have:=qV u;omega
def O4:List Int:=[1,2,3]
def X4:V:=.ac .aP 1 [[.ac .aP 1 (aF [1,1])],[.ac .aP 1 (aF [1,2])],[.ac .aP 1 (aF [1,3])]]
def RL.nY{x}{l}(hx:RL x l)(e:aK 0 0 0 x=aa)(h):RL (et h x) l/\aK 0 0 0 (et h x)=aa:=by obtain⟨k,s,f,rfl,i,h1,h2⟩:=hx;refine⟨⟨cK k,s,f,O,i,h1,h2⟩,?_⟩;show aK 0 0 0 (.ac (cK k) s (f.map λa=>[a]))=aa;rw[aK]at e ⊢;rw[fy,pF];simp only[bQ]at e;exact e.2
def IL.nY{x}{l}(hx:IL x l)(h):IL (et h x) l/\aK 0 0 0 (et h x)=aa:=by obtain⟨k,s,rfl,e⟩:=hx;refine⟨⟨cK k,s,O,e⟩,?_⟩;show aK 0 0 0 (.ac (cK k) s (aF l))=aa;rw[aK,fy,jG];rfl
def BL.nY{x}{l}(hx:BL x l)(h):BL (et h x) l/\aK 0 0 0 (et h x)=aa:=by obtain⟨k,s,rfl,e⟩:=hx;refine⟨⟨cK k,s,O,e⟩,?_⟩;show aK 0 0 0 (.ac (cK k) s (bW l))=aa;rw[aK,fy,mA];rfl
def PL.nY{x}{l}(hx:PL x l)(h):PL (et h x) l/\aK 0 0 0 (et h x)=aa:=by obtain⟨k,s,rfl,e⟩:=hx;refine⟨⟨cK k,s,O,e⟩,?_⟩;show aK 0 0 0 (.ac (cK k) s (cL l))=aa;rw[aK,fy,M'];rfl
def adQ(a b):∀h,W7.call 80 [im a,im b] h=J (.ret (im (cX a b)),h):=b8 (L:=L7) O O O (adP a b _) O rfl
section
variable (ep:Int) (X Y C T L:V) (U:List (List Int)) (ae av:List Int) (aC:List UInt8) (l:List Pr)
 (hx:RL X U) (E:IL Y ae) (hc:IL C av) (ht:BL T aC) (hp:PL L l) (fw:av.length<=1000000) (gU:l.length<=1000000)
include hx E hc ht hp fw gU
def afl:(eK U ae ep av aC l≠0/\∀h,W7.call 37 [.agg (aJ ep X Y C),T,L] h=J (.ret (.tuple [.ac .nil 0 [],im 0,im 0,im (eK U ae ep av aC l)]),h))∨
 (eK U ae ep av aC l=0/\∃Z,IL Z (uH (al av 0) aC l)/\∀h,W7.call 37 [.agg (aJ ep X Y C),T,L] h=J (.ret (.tuple [Z,im ((jt (al av 0) aC l:Nat):Int),im ((ft (al av 0) aC l:Nat):Int),im 0]),h)):=by
 obtain⟨f,i,e,u,h1,h2,B,D⟩:=O7 ep hx E hc;obtain⟨h5,h6⟩:=ht.hold;obtain⟨h7,h8⟩:=hp.hold;have j:bE [.agg (aJ ep X Y C),T,L]=[.agg (aJ ep f i e),aA T,aA L]:=by rw[bE,bE,bE,bE,u]
 have o:aM 0 0 0 [.agg (aJ ep f i e),aA T,aA L]=aa:=by rw[aM,aM,aM,aM,D,h6,h8];rfl
 rcases TC ep f i e (aA T) (aA L) U ae av aC l h1 h2 B h5 h7 fw gU with⟨q,c⟩|⟨q,Z,hZ,c⟩
 .exact .inl ⟨q,b8 (L:=L7) O j o (c _) O O⟩
 .obtain⟨v,A⟩:=hZ.nY ⟨[],[],0,[]⟩;refine .inr ⟨q,et ⟨[],[],0,[]⟩ Z,v,b8 (L:=L7) O j o (c _) O ?_⟩;rw[aK,aM,A];rfl
end
def awE(f e s)(T)(aC)(ht:BL T aC)(i:F aC<=1000000):
 ∀h,W7.call 26 [im f,T,.agg [im e,im s]] h=J (.ret (.v (.bool (ol f aC e s))),h):=by
 obtain⟨h1,h2⟩:=ht.hold;exact b8 (L:=L7) (u:=[im f,aA T,.agg [im e,im s]]) O (by simp only[bE];rfl) (by simp only[aM];rw[h2];rfl) (abK f e s (aA T) aC h1 i _) O rfl
def Km:Tryz.f122.results.toList=[.tmp 8,.tmp 9]:=aB
def azs:Tryz.f184.results.toList=[.tmp 2]:=aB
def as3:Tryz.f123.results.toList=[.tmp 4]:=aB
def QQ:Tryz.f124.results.toList=[.tmp 6]:=aB
def Dt:Tryz.f60.results.toList=[.cell 8 52,.tmp 9,.tmp 10]:=aB
section
variable {pr:a_->Option (List V->ah->Option (V × ah))}
def aln(Ou:pr 164=aq)(g:a_)(p:Int->Bool)(h:ah)(x:V)(l:List Int)(hx:IS h x l)(hl:l.length<=1000000)(hp:∀n∈l,(whole ag Gt pr).call g [im n] h=J (.ret (.v (.bool (p n))),h)):
 ∃r h',(whole Tryz.prog Gt pr).call 164 [x,.func (.func g) [] []] h=some (r,h')/\h'=h/\∃i:Int,r=.ret (im i)/\decide (0<=i)=l.any p:=by
 have lnx:=hx.len;have B:=aj.mk (ar hp hx);clear hp hx;refine cA Ou Tryz.func164 rfl ?_;refine bD @sd ?_;refine cJ (λm D H=>∃i:Nat,i<=l.length/\m=l.length - i/\(l.take i).any p=au/\D.get 0=x/\D.get 1=.func (.func g) [] []/\D.get 7=(l.length:Nat)/\D.get 8=(i:Nat)/\D.defers=[]/\H=h) ?_ l.length _ _ ?_;rotate_left 1
 .refine⟨0,cC _,rfl,by simp,?_,?_,?_,?_,?_,rfl⟩<;>exact gR
 clear lnx;rintro m D H ⟨i,hi,rfl,E,g0,g1,g7,g8,hd,rfl⟩;have ka:=aj.mk E;clear E;by_cases o:i<l.length
 .obtain⟨a,ix,A⟩:=B.M.2.at o;have ld:=A H B.M.2;clear A;have v:l[i]?=J (al l i):=by rw[aY o,fL o]
  have hc:=B.M.1 (al l i) (dy v);have gG:(i:Int)<(l.length:Int):=by omega
  have f:(l.take (i+1)).any p=p (al l i):=by rw[ga v,List.any_append,ka.M];simp
  have kt:=aj.mk f;have kh:=aj.mk v;clear v f;unfold im at hc;cases e:p (al l i) with
  |true=>rw[e] at hc;have j:l.any p=aa:=List.any_eq_true.2 ⟨_,dy kh.M,e⟩;have u:=aj.mk j;clear j e;refine dA @sd @eP.{0} @iB.{0} ?_;exact⟨_,_,rfl,rfl,(i:Int),rfl,by rw[u.M];simp⟩
  |false=>rw[e] at hc;have kt2:(l.take (i+1)).any p=au:=kt.M.trans e;clear e;refine dA @sd @eP.{0} @iB.{0} ?_;exact⟨l.length - (i+1),by omega,i+1,by omega,rfl,kt2,by simp⟩
 .have:i=l.length:=by omega
  subst this;have:=ka.M;rw[gy] at this;have u:=aj.mk this;clear this;refine bD @sd ?_;exact⟨_,_,rfl,rfl,-1,rfl,by rw[u.M];rfl⟩
def ahp(f:pr 164=aq)(e:pr 91=aq)(g:a_)(p:Int->Bool)(h:ah)(x:V)(l:List Int)(hx:IS h x l)(o:F l<=1000000)(hp:∀n∈l,(whole ag Gt pr).call g [im n] h=J (.ret (.v (.bool (p n))),h)):
 (whole ag Gt pr).call 91 [x,.func (.func g) [] []] h=J (.ret (.v (.bool (l.any p))),h):=by
 obtain⟨r,u,c,rfl,v,rfl,i⟩:=aln f g p h x l hx o hp;have j:decide (0<=v)=l.any p:=i;unfold im at c;refine da e Tryz.func91 O ?_;clear i hp hx;exact iU @Qz
end
section
open Go.Proofs.Tryz renaming func184->Q51
open Go.Proofs.YtcbhpkjbiehcpaaGreatDoor renaming azs->Q52
def an6(n)(h):W7.call 184 [im n] h=J (.ret (.v (.bool (nH n))),h):=ZS9
end
def yh{H}{b}{ep}{X Y C}(e:H.I[b]?=J (aJ ep X Y C)):aL ag Gt H 27 (.ptr (.box b) 0)=J (.agg (aJ ep X Y C)):=by rw[fS aB pW e (lQ O)];rfl
def pJ(U:List (List Int))(ae:List Int)(ep:Int)(av:List Int)(aC:List UInt8)(l:List Pr)(z:List Int):Int × Int:=
 if eK U ae ep av aC l≠0 then (0,eK U ae ep av aC l) else if wI l z=au then (0,1) else (((ft (al av 0) aC l:Nat):Int),0)
def agF(h:ah)(ep:Int)(X Y C T L Z:V)(U:List (List Int))(ae av:List Int)(aC:List UInt8)(l:List Pr)(z:List Int)
 (hx:RL X U) (E:IL Y ae) (hc:IL C av) (ht:BL T aC) (hp:PL L l) (fw:F av<=1000000) (gU:F l<=1000000) (D:IS h Z z) (Ao:F z<=1000000):
 ∃r h',W7.call 122 [.agg (aJ ep X Y C),T,L,Z] h=J (r,h')/\h'=h.push (aJ ep X Y C)/\r=.ret (.tuple [im (pJ U ae ep av aC l z).1,im (pJ U ae ep av aC l z).2]):=by
 have bx:=mD (ep:=ep) hx E hc;have c1:=afl ep X Y C T L U ae av aC l hx E hc ht hp fw gU;have A:IS (h.push (aJ ep X Y C)) Z z:=D.mono λc cs q=>aX q;have B:=ahp (pr:=JQ) O O 184 nH (h.push (aJ ep X Y C)) Z z A Ao (λn _=>an6 n _);have lnZ:=D.len;have lnL:=hp.dw;have l1:=yh (aU h (aJ ep X Y C));have f:(!z.any nH)=z.all cG:=Mo z;refine cA O Tryz.func122 O ?_;rcases c1 with⟨q,c1⟩|⟨q,z0,hB,c1⟩
 .have i:aj (pJ U ae ep av aC l z=(0,eK U ae ep av aC l)):=⟨by unfold pJ;rw[aH q]⟩;generalize eK U ae ep av aC l=be at *
  clear hx E hc ht hp D A f B;unfold im at *
  refine bF @Km @bC ?_;exact⟨_,_,O,O,by rw[i.M]⟩
 have i:aj (pJ U ae ep av aC l z=if wI l z=au then (0,1) else (((ft (al av 0) aC l:Nat):Int),0)):=⟨by unfold pJ;rw[aV (by rw[q];simp)]⟩;have u:aj (wI l z=(decide (F z=F l)&&z.all cG)):=⟨O⟩;clear hx E hc ht hp D A q hB;generalize ((ft (al av 0) aC l:Nat):Int)=ch at *
 generalize ((jt (al av 0) aC l:Nat):Int)=pt at *
 unfold im at *
 by_cases e:F z=F l;rotate_left 1
 .have hI:¬((F z:Nat):Int)=((F l:Nat):Int):=by omega
  have dI:decide (((F z:Nat):Int)≠((F l:Nat):Int))=aa:=cD hI;have j:aj (pJ U ae ep av aC l z=(0,1)):=⟨by rw[i.M,aH (by rw[u.M,cR e];rfl)]⟩;clear i u f B e;refine bF @Km @bC ?_;exact⟨_,_,O,O,by rw[j.M]⟩
 have hI:((F z:Nat):Int)=((F l:Nat):Int):=by omega
 have dI:decide (((F z:Nat):Int)=((F l:Nat):Int))=aa:=cD hI;cases o:z.all cG with
 |true=>
  have v:z.any nH=au:=by rw[o]at f;simpa using f
  rw[v]at B;have j:aj (pJ U ae ep av aC l z=(ch,0)):=⟨by rw[i.M,aV (by rw[u.M,cD e,o];simp)]⟩;clear i u f v o e;refine bF @Km @bC ?_;exact⟨_,_,O,O,by rw[j.M]⟩
 |false=>
  have v:z.any nH=aa:=by rw[o]at f;simpa using f
  rw[v]at B;have j:aj (pJ U ae ep av aC l z=(0,1)):=⟨by rw[i.M,aH (by rw[u.M,o];simp)]⟩;clear i u f v o e;refine bF @Km @bC ?_;exact⟨_,_,O,O,by rw[j.M]⟩
def adS(a b)(h):W7.call 123 [im a,im b] h=J (.ret (im (cX a b)),h):=by
 have c:=adQ a b;unfold im at *
 refine da O Tryz.func123 O ?_;exact iU @as3
def aiM(h:ah)(x:V)(l:List Int)(hx:IS h x l)(hl:F l<=1000000):
 ∃r h',W7.call 124 [x,im 0,.func (.func 123) [] []] h=J (r,h')/\h'=h/\r=.ret (im (l.foldl cX 0)):=by
 have A:=hx.len;have v:=aj.mk hx;clear hx;unfold im;refine cA O Tryz.func124 O ?_;refine bD @QQ ?_;refine cJ (λm j H=>∃e:Nat,e<=F l/\m=F l-e/\j.get 1=(vX l e:Int)/\j.get 2=.func (.func 123) [] []/\j.get 9=x/\j.get 10=(F l:Nat)/\j.get 11=(e:Nat)/\j.defers=[]/\H=h) ?_ (F l) _ _ ?_;rotate_left 1
 .refine⟨0,cC _,O,?_,?_,?_,?_,?_,?_,O⟩<;>exact gR
 clear A;rintro m j H ⟨e,hi,rfl,B,g2,g9,g10,g11,hd,rfl⟩;by_cases f:e<F l
 .obtain⟨a,ix,i⟩:=v.M.at f;have ld:=i H v.M;clear i;have hc:=adS (vX l e) (al l e) H;rw[<-adT f]at hc;have D:(e:Int)<(F l:Int):=by omega
  generalize vX l e=ak at *
  generalize u:vX l (e+1)=E at *
  generalize al l e=z0 at *
  unfold im at hc;refine dA @QQ @eP.{0} @iB.{0} ?_;exact⟨F l-(e+1),by omega,e+1,by omega,O,by rw[u],by simp⟩
 .have:e=F l:=by omega
  subst this;have o:vX l (F l)=l.foldl cX 0:=by unfold vX;rw[gy]
  rw[o]at B;refine bD @QQ ?_;exact⟨_,_,O,O,O⟩
def ahd(h:ah)(ep:Int)(X Y C T L Z:V)(U:List (List Int))(ae av:List Int)(aC:List UInt8)(l:List Pr)(z:List Int)
 (hx:RL X U) (E:IL Y ae) (hc:IL C av) (ht:BL T aC) (hp:PL L l) (fw:F av<=1000000) (gU:F l<=1000000) (ya:F aC<=1000000) (hz:IS h Z z) (Ao:F z<=1000000):
 ∃r h',W7.call 60 [.agg (aJ ep X Y C),T,L,Z] h=J (r,h')/\Ext h h'/\r=.ret (.tuple [.agg [im (jo U ae ep av aC l z).1.1,im (jo U ae ep av aC l z).1.2],.v (.bool (jo U ae ep av aC l z).2.1),im (jo U ae ep av aC l z).2.2]):=by
 have bx:=mD (ep:=ep) hx E hc;have zc:=GV;obtain⟨H0,e⟩:∃H0,(h.push (aJ ep X Y C)).push [im 0,im 0]=H0:=⟨_,O⟩;have B:F (h.push (aJ ep X Y C)).I=F h.I+1:=bV _ _;have k0:H0.I[F h.I]?=J (aJ ep X Y C):=by rw[<-e];exact aX (aU _ _)
 have g0:H0.I[F h.I+1]?=J [im 0,im 0]:=by have:=aU (h.push (aJ ep X Y C)) [im 0,im 0];rw[B,e]at this;exact this
 have x0:Ext h H0:=by rw[<-e];exact(Ext.push _ _).trans (.push _ _)
 obtain⟨_,H1,c1,uW,rfl⟩:=agF H0 ep X Y C T L Z U ae av aC l z hx E hc ht hp fw gU (hz.mono λc cs q=>x0.box _ _ q) Ao;have o:Ext H0 H1:=by rw[uW];exact .push _ _
 have k1:=o.box _ _ k0;have g1:=o.box _ _ g0;have l0:=yh k0;have lG:=yj g1;have sG:=AQ (u:=0) (v:=0) g1;rw[ju g1]at sG;have kx:=aj.mk (x0.trans o);have kv:aj (jo U ae ep av aC l z=if eK U ae ep av aC l≠0 then ((0,0),au,eK U ae ep av aC l) else if wI l z=au then ((0,0),au,1)
  else if ol (al av 0) aC ((ft (al av 0) aC l:Nat):Int) (z.foldl cX 0) then ((((ft (al av 0) aC l:Nat):Int),z.foldl cX 0),aa,0) else ((0,0),au,0)):=⟨O⟩
 refine cA O Tryz.func60 O ?_;by_cases j:eK U ae ep av aC l=0;rotate_left 1
 .have A:pJ U ae ep av aC l z=(0,eK U ae ep av aC l):=by unfold pJ;rw[aH j]
  rw[A]at c1;have D:aj (jo U ae ep av aC l z=((0,0),au,eK U ae ep av aC l)):=⟨by rw[kv.M,aH j]⟩;generalize eK U ae ep av aC l=be at *
  clear hx E hc ht hp hz kv A uW x0 o k0 g0 k1 g1;unfold im at *
  refine cg @Dt @bC @B @e ?_;exact⟨_,_,O,kx.M,by rw[D.M]⟩
 obtain⟨p1,p2,-⟩:=HH j;have Co:0<F av:=by rw[p2];exact(pm p1).1
 cases hk:wI l z with
 |false=>
  have A:pJ U ae ep av aC l z=(0,1):=by unfold pJ;rw[aV (by rw[j];simp),aH hk]
  rw[A]at c1;have D:aj (jo U ae ep av aC l z=((0,0),au,1)):=⟨by rw[kv.M,aV (by rw[j];simp),aH hk]⟩;clear hx E hc ht hp hz kv A uW x0 o k0 g0 k1 g1 j hk p1 p2;unfold im at *
  refine cg @Dt @bC @B @e ?_;exact⟨_,_,O,kx.M,by rw[D.M]⟩
 |true=>
  have A:pJ U ae ep av aC l z=(((ft (al av 0) aC l:Nat):Int),0):=by unfold pJ;rw[aV (by rw[j];simp),aV (by rw[hk];simp)]
  rw[A]at c1;have D:aj (jo U ae ep av aC l z=if ol (al av 0) aC ((ft (al av 0) aC l:Nat):Int) (z.foldl cX 0) then ((((ft (al av 0) aC l:Nat):Int),z.foldl cX 0),aa,0) else ((0,0),au,0)):=⟨by rw[kv.M,aV (by rw[j];simp),aV (by rw[hk];simp)]⟩;obtain⟨_,H1f,c2,e1f,rfl⟩:=aiM H1 Z z (hz.mono λc cs q=>(x0.trans o).box _ _ q) Ao;rw[e1f]at c2;have c3:=awE (al av 0) ((ft (al av 0) aC l:Nat):Int) (z.foldl cX 0) T aC ht ya;have ixC:dU ag 23 C (.v (.int .i64 0))=J (.elem 1 (aF av) 0 0):=hc.ix (i:=0) Co;have ldC:∀K:ah,aL ag Gt K 3 (.elem 1 (aF av) 0 0)=J ((al av 0:Int):V):=λK=>eI Co;generalize z.foldl cX 0=sm at *
  generalize ((ft (al av 0) aC l:Nat):Int)=f at *
  generalize Cy:ol (al av 0) aC f sm=vv at *
  generalize al av 0=key at *
  obtain⟨H2,wg⟩:∃H2,H1.push [im f,im sm]=H2:=⟨_,O⟩;have x2:Ext H1 H2:=by rw[<-wg];exact .push _ _
  have l1:aL ag Gt H2 23 (.ptr (.box (F h.I)) 3)=J C:=eu mV (x2.box _ _ k1) O;have s1:b9 ag (H1.push [im 0,im 0]) 52 (.ptr (.box (F H1.I)) 0) (.agg [im f,im sm])=J H2:=by rw[<-wg];exact j3 O GG O O
  have t2:H2.I[F H1.I]?=J [im f,im sm]:=by rw[<-wg];exact aU _ _
  have l2:=yj t2;have g2:=x2.box _ _ g1;have lG2:=yj g2;have sG2:=AQ (u:=0) (v:=0) g2;rw[ju g2]at sG2;have sR:=AQ (u:=f) (v:=sm) g2;have gl:=(bk.1 g2).1;have lR:aL ag Gt (H2.put (F h.I+1) [im f,im sm]) 52 (.ptr (.box (F h.I+1)) 0)=J (.agg [im f,im sm]):=yj (dM gl);have bd:=aeT f sm;have kx2:=aj.mk (ar ((x0.trans o).trans x2) (((x0.trans o).trans x2).gw af (b:=F h.I+1) [im f,im sm]));clear hx E hc ht hp hz kv A uW x0 o x2 k0 g0 k1 g1 g2 t2 j hk p1 p2 Co kx gl sG lG;cases vv with
  |true=>
   have kr2:aj (jo U ae ep av aC l z=((f,sm),aa,0)):=⟨D.M⟩;clear D Cy sG2 lG2;unfold im at *
   refine cg @Dt @bC @B (ar @e @jF) ?_;refine dW TZ aB ?_;refine bF @Dt @jF ?_;exact⟨_,_,O,kx2.M.2,by rw[kr2.M]⟩
  |false=>
   have kr2:aj (jo U ae ep av aC l z=((0,0),au,0)):=⟨D.M⟩;clear D Cy sR lR;unfold im at *
   refine cg @Dt @bC @B (ar @e @jF) ?_;refine dW TZ aB ?_;refine bF @Dt @jF ?_;exact⟨_,_,O,kx2.M.1,by rw[kr2.M]⟩
end Go.Proofs.YtcbhpkjbiehcpaaGreatDoor
end
section
namespace Go.AE
open Go.RowKit (Below)
mutual
def iW(z:Nat)(h:ah):V->V
 | .ac k j i=>.ac (cK k) j i
 | .arr b f len _=>match h.I[b]? with
  |some e=>if f+len*z<=F e/\0<z then .ac .held z (og z e f len) else .bad
  |none=>.bad
 | .tuple e=>.tuple (nZ z h e)
 | .agg e=>.agg (nZ z h e)
 |x=>x
def nZ(z:Nat)(h:ah):List V->List V
 | []=>[]
 |x::r=>iW z h x::nZ z h r
end
section
variable {P:bL} {G:Nat->Option (List V)} {ok:a_->Nat->Code->Bool} {w0 w w':b_} {K K1 K2:bA} {h h2:ah} {z:Nat}
mutual
def aZ.iW(s1:bZ K1 G ok w h2 w')(e:∀g j c,K1.ic g j=J c->K2.ic g j=J c)(E:∀g j c,K1.base<=g->w'.cell? ⟨g,j,aq⟩=J c->K2.ic g j=J c):
 ∀{x:V} {c:aQ},aZ K1 x c->aK 0 0 0 (iW z h2 x)=aa->aZ K2 (iW z h2 x) c
 |_,_,.bad c,_=>.bad c
 |_,_,.v x hx,_=>.v x hx
 |_,_,.nil B,_=>.nil B
 |_,_,.gH B a,_=>.gH B a
 |_,_,.ac k B D g f m o cells hn hr A hc ht ha,h=>by
  have hf:fZ 0 0 0 D=aa:=by simp only[Go.AE.iW,aK,bQ]at h;exact h.2
  have yb:aR K2 D.flatten cells:=aR.i' e A (by rw[pq];exact hf);cases k with|nil=>exact ht.2.elim|aP=>exact .ac .aP B D g f m o cells hn hr yb (λj c v=>e _ _ _ (hc j c v)) ⟨ht.1,ht.2⟩ ha|free z0=>exact .ac .held B D g f m o cells hn hr yb (λj c v=>e _ _ _ (hc j c v)) ⟨ht.1,br⟩ ha|held=>exact .ac .held B D g f m o cells hn hr yb (λj c v=>e _ _ _ (hc j c v)) ⟨ht.1,br⟩ ha
 |_,_,.arr b g f len o i rI hb hl qs ho hr,h=>by
  simp only[Go.AE.iW]at h ⊢;cases jr:h2.I[b]? with
  |none=>exact .bad _|some u=>
   rw[jr]at h;simp only at h ⊢;split at h
   .rename_i hz;rw[aH hz];have jR:=hz.1;have hf:fZ 0 0 0 (og z u f len)=aa:=(by simp only[aK,bQ]at h;exact h.2);obtain⟨q1,q2,q3,cells,z2,q4,q5⟩:=s1.box b g u hb jr;have WK:=q5.le;by_cases h0:o=0
    .have:len=0:=(by omega);subst this;exact .ac .held z [] g i 0 rI [] O (λ_ h=>by cases h) .nil (λ_ _ h=>by grind) ⟨cC _,br⟩ O
    .have Cj:i=f:=(by simp_all);subst Cj;have A:aR K1 ((u.drop i).take (len*z)) (((cells.toList.take (F u)).drop i).take (len*z)):=(q5.1.drop i).take (len*z);have qu:F ((u.drop i).take (len*z))=len*z:=(by rw[dJ,fJ];omega);refine .ac .held z _ g i len rI (((cells.toList.take (F u)).drop i).take (len*z)) (by rw[Qu]) (Qv jR) ?_ (λj c v=>?_) ⟨af,br⟩ ?_
     .rw[wP];rw[<-pq,wP]at hf;exact aR.i' e A hf
     .refine E _ _ _ q1 ?_;have wm:j<len*z:=(by have:=(bk.1 v).1;rw[dJ]at this;omega);rw[o0,aH wm,rD,o0,aH af]at v;rw[cell_of q4];simp_all
     .rw[wP]
      grind
   .rename_i jR;rw[aV jR];exact .bad _
 |_,_,.agg u vs A,h=>.agg _ vs (aR.iW s1 e E A (by simpa only[Go.AE.iW,aK] using h))
 |_,_,.tuple u vs A,h=>.tuple _ vs (aR.iW s1 e E A (by simpa only[Go.AE.iW,aK] using h))
 |_,_,.box b g f hb,h=>by simp[Go.AE.iW,aK]at h
 |_,_,.ec g f,_=>.ec g f
 |_,_,.elem B D z0 f g z1 p cells hr A hc hi hp ha,h=>.elem B D z0 f g z1 p cells hr (aR.i' e A (by rw[pq];simpa only[Go.AE.iW,aK] using h)) (λj c v=>e _ _ _ (hc j c v)) hi hp ha
 |_,_,.func fn first o fs u h1 h2,h=>by simp only[Go.AE.iW,aK,bQ]at h;exact .func fn first o fs u (aR.i' e h1 h.1) (aR.i' e h2 h.2)
 |_,_,.yield l g hl,h=>by simp[Go.AE.iW,aK]at h
 |_,_,.iface t x c hx,h=>by simp only[Go.AE.iW,aK]at h;exact .iface t x c (aZ.i' e hx h)
def aR.iW(i:bZ K1 G ok w h2 w')(f:∀g j c,K1.ic g j=J c->K2.ic g j=J c)(e:∀g j c,K1.base<=g->w'.cell? ⟨g,j,aq⟩=J c->K2.ic g j=J c):
 ∀{xs:List V} {cs:List aQ},aR K1 xs cs->aM 0 0 0 (nZ z h2 xs)=aa->aR K2 (nZ z h2 xs) cs
 |_,_,.nil,_=>.nil
 |_,_,.cons x c xs cs hx o,h=>by simp only[nZ,aM,bQ]at h;exact .cons _ c _ cs (aZ.iW i f e hx h.1) (aR.iW i f e o h.2)
end
def YB(z:Nat)(R:Rec)(g:a_)(args:List V):Option V:=
 if aM 0 0 0 (bE args)=aa then
  match R.call g (bE args) ⟨[],[],0,[]⟩ with
  |some (.ret y,h2)=>if aK 0 0 0 (iW z h2 y)=aa then J (iW z h2 y) else aq
  |_=>aq
 else aq
def MF(z:Nat)(R:Rec)(g:a_)(args:List V)(h:ah):Option (V × ah):=(YB z R g args).map (·,h)
section
open Go.AE renaming MF->Q41,YB->Q42
open Go.AE.aZ renaming iW->Q43
def af5{aS:a_->Option (List V->ah->Option (V × ah))}(hp:Prog P)(Y:∀g cs,G g=J cs->aM 0 0 0 cs=aa)(o:∀z0 g p,aS g=J p->lV P G z0 g p){g:a_}(B:∃fn,P.funcs[g]?=J fn/\fn.body.isSome=aa)(z0:b_):
 lV P G z0 g (MF z (whole P G aS) g):=ZS7
end
def mF(R:Rec)(L:List a_)(Z:a_->Nat)(q:a_->Option (List V->ah->Option (V × ah)))(g:a_):Option (List V->ah->Option (V × ah)):=
 if L.contains g=aa then J (zu R g) else match Z g with|0=>q g|z+1=>J (MF (z+1) R g)
def Jy{aS:a_->Option (List V->ah->Option (V × ah))}(hp:Prog P)(j:∀g cs,G g=J cs->aM 0 0 0 cs=aa)(f:∀i g p,aS g=J p->lV P G i g p){L:List a_}{Z:a_->Nat}{q:a_->Option (List V->ah->Option (V × ah))}(o:∀g∈L,∃fn,P.funcs[g]?=J fn/\fn.body.isSome=aa)(u:∀g,Z g≠0->∃fn,P.funcs[g]?=J fn/\fn.body.isSome=aa)(A:∀i g p,q g=J p->lV P G i g p):
 ∀i g p,mF (whole P G aS) L Z q g=some p->lV P G i g p:=by
 intro i g p e;unfold mF at e;split at e
 .rename_i v;injection e with e;subst e;exact MG hp j f (o g (by simp_all)) i
 .split at e
  .simp_all
  .rename_i z B;injection e with e;subst e;exact af5 hp j f (u g af) i
section
variable {R:Rec} {L:List a_} {Z:a_->Nat} {q:a_->Option (List V->ah->Option (V × ah))} {g:a_} {args u:List V} {x y:V} {h1:ah}
def FS(i:L.contains g=aa)(e:bE args=u)(f:aM 0 0 0 u=aa)(hc:R.call g u ⟨[],[],0,[]⟩=J (.ret y,h1))(E:et h1 y=x)(hx:aK 0 0 0 x=aa):
 ∀h,(whole P G (mF R L Z q)).call g args h=J (.ret x,h):=by
 intro h;subst e;subst E;rw[sM];unfold mf mF;rw[aH i];simp only[zu,wC,aH f,hc,aH hx,gc]
def YM{z:Nat}(j:L.contains g=au)(i:Z g=z+1)(e:bE args=u)(f:aM 0 0 0 u=aa)(hc:R.call g u ⟨[],[],0,[]⟩=J (.ret y,h1))(E:iW (z+1) h1 y=x)(hx:aK 0 0 0 x=aa):
 ∀h,(whole P G (mF R L Z q)).call g args h=J (.ret x,h):=by
 intro h;subst e;subst E;rw[sM];unfold mf mF;rw[aV (by simp_all),i];simp only[MF,YB,aH f,hc,aH hx,gc]
end
end
end Go.AE
end
section
namespace Go.AE
section
variable {P:bL} {G:Nat->Option (List V)} {R:Rec}
def af7{ops:Array Oper}{e:Env}{h:ah}{k:Nat}{o:Oper}{s d:aO}{src:Operand}{v x:V}(B:ops[k]?=J o)(u:o.op=.convert s d src)
 (h1:cO P G R ops (ops.toList.take k) e h (λq f _=>q=.normal/\f.eval src=v))
 (h2:∀m,m<=ops.size->cO P G R ops (ops.toList.take m) e h (λq _ i=>q=.normal/\l_ P i s d v=J (x,i))):vZ P G R ops e h k:=by
 have hk:k<ops.size:=(Array.getElem?_eq_some_iff.1 B).1;obtain⟨q1,f,hr,A,rfl,D⟩:=h1;rw[<-oR af]at A;refine⟨o,x,f,hr,B,by rw[u];rfl,A,λm i=>?_⟩;obtain⟨q2,E,j,f1,rfl,f2⟩:=h2 m i;rw[<-oR i]at f1;refine⟨E,j,f1,?_⟩;unfold ev;rw[u];show(dP P G f.eval j (.convert s d src)).map _=_;show((l_ P j s d (f.eval src))).map _=_;rw[D,f2];rfl
end
mutual
def mW:∀x:V,aA (aA x)=aA x
 | .bad=>rfl
 | .v _=>rfl
 | .ac k i f=>by rw[aA,aA,Ok f];cases k<;>rfl
 | .arr _ _ _ _=>rfl
 | .agg e=>by rw[aA,aA,lq e]
 | .tuple e=>by rw[aA,aA,lq e]
 | .ptr _ _=>rfl
 | .elem i f u j=>by first|rfl|rw[aA,aA,Ok f]
 | .func o a b=>by first|rfl|rw[aA,aA,lq a,lq b]
 | .yield _=>rfl
 | .iface t x=>by first|rfl|rw[aA,aA,mW x]
def lq:∀l:List V,bE (bE l)=bE l
 | []=>rfl
 |x::l=>by rw[bE,bE,mW x,lq l]
def Ok:∀l:List (List V),ef (ef l)=ef l
 | []=>rfl
 |x::l=>by rw[ef,ef,lq x,Ok l]
end
mutual
def Jm{h h2:ah}:∀x:V,et h2 (et h x)=et h x
 | .bad=>rfl
 | .v _=>rfl
 | .ac k o j=>by rw[et,et];cases k<;>rfl
 | .arr b i len f=>by
  rw[et];split
  .split
   .rfl
   .rfl
  .rfl
 | .agg e=>by rw[et,et,OS e]
 | .tuple e=>by rw[et,et,OS e]
 | .ptr _ _=>rfl
 | .elem _ _ _ _=>rfl
 | .func _ _ _=>rfl
 | .yield _=>rfl
 | .iface _ _=>rfl
def OS{h h2:ah}:∀l:List V,jb h2 (jb h l)=jb h l
 | []=>rfl
 |x::l=>by rw[jb,jb,Jm x,OS l]
end
structure cy(R:Rec)(g:a_)(a:List V)(y:V):Prop where
 call:∀h,R.call g a h=J (.ret y,h)
 held:bE a=a
 fit:aM 0 0 0 a=aa
 nY:∀h,et h y=y
 fits:aK 0 0 0 y=aa
section
variable {P:bL} {G:Nat->Option (List V)} {R:Rec} {L:List a_} {Z:a_->Nat} {q:a_->Option (List V->ah->Option (V × ah))} {g:a_} {a b:List V} {y:V}
def cy.of{h1:ah}{x:V}(hc:∀h,R.call g a h=J (.ret x,h))(e:bE a=a)(f:aM 0 0 0 a=aa)(E:∀h,et h x=x)(hx:aK 0 0 0 x=aa):cy R g a x:=⟨hc,e,f,E,hx⟩
def cy.up(c:cy R g a y)(e:L.contains g=aa):cy (whole P G (my R L)) g a y:=
 ⟨b8 e c.held c.fit (c.call _) (c.nY _) c.fits,c.held,c.fit,c.nY,c.fits⟩
def cy.mix(c:cy R g a y)(e:L.contains g=aa):cy (whole P G (mF R L Z q)) g a y:=
 ⟨FS e c.held c.fit (c.call _) (c.nY _) c.fits,c.held,c.fit,c.nY,c.fits⟩
def cy.use(c:cy R g a y)(f:L.contains g=aa)(e:bE b=a):∀h,(whole P G (my R L)).call g b h=J (.ret y,h):=
 b8 f e c.fit (c.call _) (c.nY _) c.fits
def cy.new{x:V}{h1:ah}(hc:R.call g a ⟨[],[],0,[]⟩=J (.ret x,h1))(i:L.contains g=aa)(e:bE a=a)(f:aM 0 0 0 a=aa)(E:et h1 x=y)(hx:aK 0 0 0 y=aa):cy (whole P G (my R L)) g a y:=
 ⟨b8 i e f hc E hx,e,f,λh=>by rw[<-E];exact Jm x,hx⟩
def cy.AC{x:V}{h1:ah}(hc:R.call g a ⟨[],[],0,[]⟩=J (.ret x,h1))(i:L.contains g=aa)(e:bE a=a)(f:aM 0 0 0 a=aa)(E:et h1 x=y)(hx:aK 0 0 0 y=aa):cy (whole P G (mF R L Z q)) g a y:=
 ⟨FS i e f hc E hx,e,f,λh=>by rw[<-E];exact Jm x,hx⟩
end
end Go.AE
end
section
namespace Go.Proofs.YtcbhpkjbiehcpaaGreatDoor
open Go.AE Go.NT
section
variable {g:a_} {a:List V} {x y:V} {h1:ah}
def Uy(hc:W4.call g a ⟨[],[],0,[]⟩=J (.ret x,h1))(i:L5.contains g=aa)(e:bE a=a)(f:aM 0 0 0 a=aa)(E:et h1 x=y)(hx:aK 0 0 0 y=aa):cy W5 g a y:=⟨gV (L:=L5) i e f hc E hx,e,f,λh=>by rw[<-E];exact Jm x,hx⟩
def v8(c:cy W6 g a y)(e:L7.contains g=aa)(f:L8.contains g=aa):cy W8 g a y:=(c.up (L:=L7) e).up (L:=L8) f
def Uz(c:cy W5 g a y)(e:L6.contains g=aa)(f:L7.contains g=aa)(i:L8.contains g=aa):cy W8 g a y:=v8 (c.up (L:=L6) e) f i
end
section
variable {x y z:V} {l am:List Int} {U:List (List Int)} {ae av:List Int}
def X'(n):cy W8 66 [im n] (.v (.bool (cq n))):=v8 ⟨awC n,O,O,λ_=>rfl,O⟩ O rfl
def X0(a n):cy W8 75 [im a,im n] (.tuple [im (eR a n),im (lm a)]):=v8 ⟨aju a n,O,O,λ_=>rfl,O⟩ O rfl
def al4(hx:IL x l)(e:F l<=9223372036854775807):cy W8 43 [aA x] (.v (.bool (dL (-1) l))):=by obtain⟨h1,h2⟩:=hx.hold;exact v8 ⟨ao1 _ l h1 e,by rw[bE,mW,bE],by rw[aM,h2];rfl,λ_=>rfl,O⟩ O rfl
def alW(hx:RL x U)(E:IL y ae):cy W8 35 [.agg [aA x,aA y]] (im (cI U ae)):=by obtain⟨h1,h2,e,f⟩:=nM hx E;exact v8 ⟨agC _ _ U ae h1 h2,lq [.agg [x,y]],by simp[aM,aK,e,f],λ_=>rfl,O⟩ O rfl
def X_(hx:RL x U)(E:IL y ae)(i:F U<=1000000):cy W8 40 [.agg [aA x,aA y]] (im (cI U ae)):=by obtain⟨h1,h2,e,f⟩:=nM hx E;exact cy.up (L:=L8) ⟨Us _ _ U ae h1 h2 i,lq [.agg [x,y]],by simp[aM,aK,e,f],λ_=>rfl,O⟩ rfl
def alU(hx:RL x U)(E:IL y ae)(B:IL z am)(i:F am<=1099511627776):∃Z,cy W8 39 [.agg [aA x,aA y],aA z] (.tuple [Z,.v (.bool (fm U ae am).2.1),im (fm U ae am).2.2]):=by
 obtain⟨h1,h2,j,o⟩:=nM hx E;obtain⟨u,v⟩:=B.hold;have e:bE [.agg [aA x,aA y],aA z]=[.agg [aA x,aA y],aA z]:=lq [.agg [x,y],z];have f:aM 0 0 0 [.agg [aA x,aA y],aA z]=aa:=by simp[aM,aK,j,o,v]
 rcases adJ _ _ _ U ae am h1 h2 u i with⟨D,q,c⟩|⟨l,q,-,Z,A,c⟩
 .rw[q];exact⟨_,v8 ⟨c,e,f,λ_=>rfl,O⟩ O O⟩
 .rw[q];obtain⟨k,s,rfl,-⟩:=A;exact⟨.ac (cK k) s (aF l),cy.up (L:=L8) (cy.new (L:=L7) (c _) O e f O (by rw[aK,aM,aK,fy,jG];rfl)) O⟩
def al6(hx:RL x U)(E:IL y ae)(B:IL z am)(A:F U<=1000000)(i:F am<=1099511627776):∃Z,cy W8 44 [.agg [aA x,aA y],aA z] (.tuple [Z,.v (.bool (fm U ae am).2.1),im (fm U ae am).2.2]):=by
 obtain⟨h1,h2,j,o⟩:=nM hx E;obtain⟨u,v⟩:=B.hold;have e:bE [.agg [aA x,aA y],aA z]=[.agg [aA x,aA y],aA z]:=lq [.agg [x,y],z];have f:aM 0 0 0 [.agg [aA x,aA y],aA z]=aa:=by simp[aM,aK,j,o,v]
 rcases adG _ _ _ U ae am h1 h2 u A i with⟨D,q,c⟩|⟨l,q,-,c⟩
 .rw[q];exact⟨_,cy.up (L:=L8) ⟨c,e,f,λ_=>rfl,O⟩ O⟩
 .rw[q];exact⟨_,cy.up (L:=L8) ⟨c,e,f,λ_=>rfl,by rw[aK,aM,aK,jG];rfl⟩ O⟩
def amd(hx:IL x am)(j:qO am)(f:F am<=1000000)(o:Int):∃i:Int,cy W8 178 [aA x,im o] (.tuple [im i,.v (.bool (am.contains o))]):=by obtain⟨h1,h2⟩:=hx.hold;obtain⟨_,_,c,-,i,rfl⟩:=aaK ⟨[],[],0,[]⟩ (aA x) am o h1 j f;have e:cy W3 178 [aA x,im o] (.tuple [im i,.v (.bool (am.contains o))]):=cy.new (L:=L3) c O (by rw[bE,mW];rfl) (by rw[aM,h2];rfl) O O;exact⟨i,Uz (Uy ((e.up (L:=L4) O).call _) O e.held e.fit (e.nY _) e.fits) O O O⟩
def alZ{v}{r}(j:cW v r)(e:gf v<=16)(i:F (cH v)<=1099511600000):∃t,cy W8 74 [.agg (bE r)] (.tuple [.ac t 1 (bW (cH v)),im 0]):=by
 obtain⟨h1,h2⟩:=cW.hold v r j;obtain⟨t,hc⟩:=M7 h1 e i;have f:aM 0 0 0 [.agg (bE r)]=aa:=by rw[aM,aK,h2];rfl
 exact⟨cK t,Uz (Uy (hc _) O (lq [.agg r]) f O (by simp[aK,aM,fy,mA,im])) O O O⟩
end
def LA:List a_:=L8++[143,144,72,170,171,95,38,32,64,65]
noncomputable def Qd:a_->Option (List V->ah->Option (V × ah)):=my W8 LA
noncomputable abbrev SA:=whole ag Gt Qd
def af0:mN Qd LA:=tg
def Ab:∀a b:List V,bE (a++b)=bE a++bE b
 | [],_=>rfl
 |x::a,b=>by rw[eY,bE,Ab a b];rfl
def If:∀a b:List V,aM 0 0 0 (a++b)=(aM 0 0 0 a&&aM 0 0 0 b)
 | [],_=>rfl
 |x::a,b=>by rw[eY,aM,aM,If a b,Bool.and_assoc]
def WZ(l:List UInt8):bE (l.map gm)=l.map gm/\aM 0 0 0 (l.map gm)=aa:=by
 induction l with
 |nil=>exact⟨O,O⟩|cons b l e=>
  refine⟨?_,?_⟩
  .show aA (gm b)::bE (l.map gm)=_;rw[e.1];rfl
  .show(aK 0 0 0 (gm b)&&aM 0 0 0 (l.map gm))=aa;rw[e.2];rfl
section
variable {d:Dc} {p r n:V}
def xF:bE (bH d p r n)=bH d (aA p) (aA r) (aA n):=by unfold bH;rw[Ab,(WZ d.tx).1];rfl
def mo.hold(ok:mo d p r n):mo d (aA p) (aA r) (aA n)/\aM 0 0 0 (bH d (aA p) (aA r) (aA n))=aa:=by obtain⟨h1,h2⟩:=ok.p.hold;obtain⟨e,f⟩:=ok.r.hold;obtain⟨i,j⟩:=ok.n.hold;refine⟨⟨h1,e,i,ok.t⟩,?_⟩;unfold bH;rw[If,(WZ d.tx).2];simp[aM,aK,im,h2,f,j]
def al7(ok:mo d p r n)(hc:d.oY):cy SA 72 [.agg (bH d (aA p) (aA r) (aA n))] (.v (.bool (g_ d))):=by obtain⟨k,e⟩:=ok.hold;obtain⟨_,_,c,rfl⟩:=aq1 ⟨[],[],0,[]⟩ d _ _ _ k hc.1 hc.2.1 hc.2.2;exact cy.new (L:=LA) c O (by rw[<-xF];exact lq [.agg (bH d p r n)]) (by rw[aM,aK,e];rfl) O rfl
def amb(ok:mo d p r n)(hc:d.oY):cy SA 95 [.agg (bH d (aA p) (aA r) (aA n))] (.v (.bool (g_ d))):=by obtain⟨k,e⟩:=ok.hold;obtain⟨_,_,c,rfl⟩:=aq2 ⟨[],[],0,[]⟩ d _ _ _ k hc.1 hc.2.1 hc.2.2;exact cy.new (L:=LA) c O (by rw[<-xF];exact lq [.agg (bH d p r n)]) (by rw[aM,aK,e];rfl) O rfl
end
def al5{x}{l}(hx:IL x l)(e:F l<=9223372036854775807):cy SA 38 [aA x] (.v (.bool (dL (-1) l))):=by obtain⟨h1,h2⟩:=hx.hold;obtain⟨_,_,c,-,rfl⟩:=aoZ ⟨[],[],0,[]⟩ (aA x) l h1 e;exact cy.new (L:=LA) c O (by rw[bE,mW];rfl) (by rw[aM,h2];rfl) O rfl
def Qm:Tryz.f73.results.toList=[.cell 2 118]:=by kernel_rfl
def aeH:iP ag 118 [(0,.v (.int .i64 3))]=J (.agg (aG 3 0 [] .nil 0 [])):=by kernel_rfl
def aeJ(n):iP ag 118 [(0,.v (.int .i64 1)),(1,((n:Int):V))]=J (.agg (aG 1 n [] .nil 0 [])):=by kernel_rfl
def KS:(gp ag 118).bind V.bP=J (aG 0 0 [] .nil 0 []):=by kernel_rfl
def Yo{H}{b}{r}(e:F r=4)(f:H.I[b]?=J r):aL ag Gt H 118 (.ptr (.box b) 0)=J (.agg r):=by rw[fS bX (by kernel_rfl:cQ ag 118=J 4) f (by rw[e];exact bh 4)];simp[fK,e]
def Rj{H}{b}{r r2}(i:F r=4)(e:F r2=4)(hc:(V.agg r2).bP=J r2)(f:H.I[b]?=J r):b9 ag H 118 (.ptr (.box b) 0) (.agg r2)=J (H.put b r2):=by rw[fI (off:=0) (cs:=r) (xs:=r2) hc (by kernel_rfl:cQ ag 118=J 4) f e af,vA af]
def JD(h:ah)(fR:du h=aa)(x:V)(l:List Int)(hx:IL x l)(hb:∀n∈l,0<=n/\n<=4611686018427387903)(hl:F l<=1000):
 ∃r h',SA.call 73 [x] h=J (r,h')/\Ext h h'/\∃t sz U,r=.ret (.agg (aG 3 0 [] t sz U))/\cW (.ac (l.map .int)) (aG 3 0 [] t sz U)/\fZ 0 0 0 U=aa/\dm h.tn h' t/\F U=F l/\(U≠[]->sz=4)/\(U=[]->sz=4∨t=.nil):=by
 obtain⟨k,s,rfl,hs⟩:=hx;have ks:=aj.mk (ar hs hb);clear hs hb;have z:=KS;have u23:=dp;have u116:=mw;have z3:=fa;have b3:=aeH;have e_:=db l;have q0:(h.push (aG 0 0 [] .nil 0 [])).I[F h.I]?=J (aG 0 0 [] .nil 0 []):=aU _ _;have s3:b9 ag ((h.push (aG 0 0 [] .nil 0 [])).push (aG 0 0 [] .nil 0 [])) 118 (.ptr (.box (F (h.push (aG 0 0 [] .nil 0 [])).I)) 0) (.agg (aG 3 0 [] .nil 0 []))=J ((h.push (aG 0 0 [] .nil 0 [])).push (aG 3 0 [] .nil 0 [])):=by rw[Rj O O O (aU _ _)];congr 1;exact ml _ _ _
 have G0:pI h ((h.push (aG 0 0 [] .nil 0 [])).push (aG 3 0 [] .nil 0 [])) (F h.I+1) ((l.map Vl.int).take 0) .nil 0 []:=⟨by have:=aU (h.push (aG 0 0 [] .nil 0 [])) (aG 3 0 [] .nil 0 []);rwa [bV]at this,.inl O,fR,(Ext.push h _).trans (.push _ _),by omega,⟨O,λf z1 r q=>by simp at q⟩,λq=>absurd O q,λ_=>.inr O,O⟩;have R0:((h.push (aG 0 0 [] .nil 0 [])).push (aG 3 0 [] .nil 0 [])).I[F h.I]?=J (aG 0 0 [] .nil 0 []):=aX q0;refine cA O Tryz.func73 O ?_;refine bD @Qm ?_;refine bM.gen λv i B fM eS=>?_;have f2:v.get 2=.ptr (.box (F h.I)) 0:=by rw[i];exact gS
 have f3:v.get 3=.ptr (.box (F h.I+1)) 0:=by rw[i];simp only[gW,reduceIte,aT,aN,bV]
 have f7:v.get 7=.ac k s (aF l):=by rw[i];exact gS
 have f8:v.get 8=(F l:Nat):=by rw[i];simp only[gW,reduceIte,aT,aN,e_]
 have f9:v.get 9=(0:Nat):=by rw[i];exact gR
 have fd:v.defers=[]:=by rw[B];exact gS
 clear i B fM eS;refine cJ (λm z0 H=>∃(f:Nat) (t:Tok) (sz:Nat) (U:List (List V)),f<=F l/\m=F l-f/\aj (pI h H (F h.I+1) ((l.map Vl.int).take f) t sz U)/\aj (H.I[F h.I]?=J (aG 0 0 [] .nil 0 []))/\z0.get 2=.ptr (.box (F h.I)) 0/\z0.get 3=.ptr (.box (F h.I+1)) 0/\z0.get 7=.ac k s (aF l)/\z0.get 8=(F l:Nat)/\z0.get 9=(f:Nat)/\z0.defers=[]) ?_ (F l) _ _ ?_;rotate_left 1
 .exact⟨0,.nil,0,[],cC _,O,⟨G0⟩,⟨R0⟩,f2,f3,f7,f8,f9,fd⟩
 clear f2 f3 f7 f8 f9 fd G0 R0 q0 s3;rintro m z0 H ⟨f,t,sz,U,hi,rfl,u,kR,g2,g3,g7,g8,g9,hd⟩;by_cases j:f<F l
 .have eM:s=1:=ks.M.1 (by intro q;rw[q]at j;simp at j);subst eM;have ld:=eI (H:=H) (s:=1) j;have o:l[f]?=J (al l f):=by rw[aY j,fL j]
  have A:=ks.M.2 _ (dy o);have kst:=aj.mk (ga (l:=l.map Vl.int) (i:=f) (x:=.int (al l f)) (by rw[eF,o];rfl));have gG:(f:Int)<(F l:Int):=by omega
  have mX:F U<1000000:=by have:=u.M.rel.1;rw[dJ,bJ]at this;omega
  have D:cW (.int (al l f)) (aG 1 (al l f) [] .nil 0 []):=.int _ A;have E:=aj.mk (u.M.put D O);have kR2:aj (((H.app t).put (F h.I+1) (aG 3 0 [] (.free H.tn) 4 (U++[aG 1 (al l f) [] .nil 0 []]))).I[F h.I]?=J (aG 0 0 [] .nil 0 [])):=⟨by rw[cS af,ey];exact kR.M⟩;have l3:=j_ u.M.box;have ap:=yY (r:=aG 1 (al l f) [] .nil 0 []) mX u.M.four u.M.nil u.M.can;have bl:=zl (r:=aG 1 (al l f) [] .nil 0 []) O O;have bi:=aeJ (al l f);have st:=yB (H:=H.app t) (t2:=.free H.tn) (sz2:=4) (rows2:=U++[aG 1 (al l f) [] .nil 0 []]) (by rw[ey];exact u.M.box);rw[<-kst.M]at E;clear o A D;generalize al l f=z1 at *
  refine dA @Qm @eQ @bj ?_;exact⟨F l-(f+1),by omega,f+1,_,_,_,by omega,O,E,by first|exact kR2|trivial,by simp⟩
 .have gq:f=F l:=by omega
  subst gq;have e:=u.M;rw[fK (by rw[bJ];exact bh _)]at e;have o:cW (.ac (l.map .int)) (aG 3 0 [] t sz U):=.ac (l.map .int) t sz U e.rel.1 e.four (by have:=e.rel.1;rw[bJ]at this;omega) e.rel.2;have ld:=Yo o.len e.box;have st:=Rj (r:=aG 0 0 [] .nil 0 []) (r2:=aG 3 0 [] t sz U) O O jl kR.M;have ld2:=Yo (H:=H.put (F h.I) (aG 3 0 [] t sz U)) (b:=h.I.length) o.len (dM (bk.1 kR.M).1);have kv:=aj.mk (ar o (ar (e.ext.gw (bh _) (aG 3 0 [] t sz U)) (ar e.fit (ar (show dm h.tn (H.put (F h.I) (aG 3 0 [] t sz U)) t by rw[Bz];exact e.can) (ar (show F U=F l by have:=e.rel.1;rw[bJ]at this;omega) (ar e.four e.nil))))));clear o e;refine bD @Qm ?_;exact⟨_,_,O,kv.M.2.1,_,_,_,O,kv.M.1,kv.M.2.2⟩
def ue:Tryz.f28.results.toList=[.tmp 2,.tmp 3]:=by kernel_rfl
def XP:∀l:List Int,gF (l.map Vl.int)=0
 | []=>rfl
 |n::l=>by rw[dR,gF,XP l];rfl
def Jo:∀l:List Int,F (gK (l.map Vl.int))<=F l*11
 | []=>by simp[gK]
 |n::l=>by have h1:=iK 9 (iE n);have h2:=Jo l;rw[dR,gK,de,cH,eZ,eZ,jm];omega
def UQ(d):gf (gg d)<=16:=by simp only[gg,CE,gf,gF,XP];omega
def MZ{d}(h1:F d.pa<=16)(h2:F d.rv<=16)(h3:F d.nd<=16)(h4:F d.tx=32):F (cH (gg d))<=1000:=by
 have a0:=iK 9 (0+1+1+1+1+1+1+1+1+1+1);have e:=iK 9 (iE d.no);have f:=iK 9 (iE d.tm);have i:=iK 9 (iE d.kd);have j:=iK 9 (iE d.vl);have o:=iK 9 (iE d.fr);have u:=iK 9 (iE d.un);have v:=iK 9 (F d.pa);have A:=iK 9 (F d.rv);have B:=iK 9 (F d.nd);have D:=iK 9 (F d.tx);have E:=Jo d.pa;have b2:=Jo d.rv;have b3:=Jo d.nd;simp only[gg,CE,cH,gK,eZ,de,gi,bJ]at *
 omega
def XJ{i}:∀{l:List Int} {e:Int},n_ i e l=aa->∀n∈l,e<n/\n<i
 | [],_,_,n,f=>by cases f
 |a::l,e,h,n,f=>by
  rw[n_]at h;simp only[bQ,decide_eq_true_eq]at h;rcases hh.1 f with rfl|f
  .exact h.1
  .have:=XJ h.2 n f;exact⟨af,this.2⟩
def UR{d}(h:g_ d=aa):(0<=d.no/\d.no<4096)/\(0<=d.tm/\d.tm<1099511627776)/\(0<=d.kd/\d.kd<16)/\(0<=d.vl/\d.vl<=1099511627776)/\(0<=d.fr/\d.fr<d.un)/\d.un<=1099511627776/\(iu d.pa 1048577=aa/\iu d.rv d.no=aa/\iu d.nd d.no=aa):=by unfold g_ AW at h;simp only[bQ,decide_eq_true_eq]at h;exact⟨af,by omega,by omega,by omega,by omega,by omega,h.1.1.2,h.1.2,h.2⟩
def CN{l}{e}(h:iu l e=aa):F l<=16/\∀n∈l,0<=n/\n<e:=by unfold iu at h;simp only[bQ,decide_eq_true_eq]at h;exact⟨h.2,λn f=>by have:=XJ h.1 n f;omega⟩
def aft(a b c d e f):fC ag 23 6 [(0,((a:Int):V)),(1,((b:Int):V)),(2,((c:Int):V)),(3,((d:Int):V)),(4,((e:Int):V)),(5,((f:Int):V))]=J (.ac .aP 1 (aF [a,b,c,d,e,f])):=by kernel_rfl
def aeK(s):iP ag 118 [(0,.v (.int .i64 2)),(2,.v (.string (bs s)))]=J (.agg (aG 2 0 s .nil 0 [])):=by kernel_rfl
def afp{e r2 f i}(h1:F e=4)(h2:F r2=4)(A:F f=4)(B:F i=4)(j:(V.agg e).bP=J e)(c2:(V.agg r2).bP=J r2)(o:(V.agg f).bP=J f)(u:(V.agg i).bP=J i):
 fC ag 116 4 [(0,.agg e),(1,.agg r2),(2,.agg f),(3,.agg i)]=J (.ac .aP 4 [e,r2,f,i]):=by
 have v:ag.underlying 116=J (.slice 118):=mw;unfold fC;simp only[v,nP,uo];rw[aH ⟨bm,O,by decide⟩];simp[xN,j,c2,o,u,h1,h2,A,B]
def aee{H}{k}{n0 sz}{es new}(E:F es<1000000)(u:new≠[])(B:F new<=1000)(v:es≠[]->sz=4)(i:es=[]->sz=4∨k=.nil)(o:dm n0 H k):
 gC ag H #[116,116] (.ac k sz es) (.ac .aP 4 new)=J (.ac (.free H.tn) 4 (es++new),H.app k):=by
 obtain⟨z0,h1,e,A,j⟩:=OW;have D:=kL (af:F es+F new<=1001000) A;have:=yZ (P:=ag) (h:=H) (n0:=n0) (k:=k) (sz:=sz) (es:=es) (new:=new) (x:=.ac .aP 4 new) (t1:=116) mw (.inl ⟨118,mw⟩) h1 af (by rw[e];exact j) (by rw[e];unfold jT rowsOf;simp) u af af (by
  rw[e];by_cases f:es=[]
  .rcases i f with q|q
   .exact .inl q
   .exact .inr ⟨f,q⟩
  .exact .inl (v f)) o
 rwa [e]at this
def aum(b):gY ag 29 (.ptr (.box b) 9) aq aq aq=J (.arr b 9 32 32):=by kernel_rfl
def awh(l)(e):((bT (F l)).map λi=>((e++l.map gm).drop (F e+i*1)).take 1)=bW l:=by
 apply oq;intro i;rw[eF];by_cases f:i<F l
 .rw[Bb f,gc,mr,<-rB,DW,uw (by simpa using f)];unfold bW;rw[eF,aY f];simp[gm,iF]
 .rw[sQ (by simp;omega),sQ (by unfold bW;simp;omega)];rfl
def afU:∀l:List UInt8,bytesOf (bW l)=J l:=by
 intro l
 induction l with
 |nil=>rfl|cons a l e=>show(match Go.AE.byteOf (iF a),bytesOf (bW l) with|some b,J l=>J (b::l)|_,_=>aq)=_;rw[e];simp[Go.AE.byteOf,iF]
def BH{H}{b}{d}{p r n}(ht:F d.tx=32)(f:H.I[b]?=J (bH d p r n)):l_ ag H 60 9 (.arr b 9 32 32)=J (.v (.string (bs d.tx)),H):=by
 have h1:ag.underlying 9=J .string:=Tryz.underlying9;have h2:ag.underlying 60=J (.slice 5):=Tryz.underlying60;have e:ag.underlying 5=J (.int .u8):=Tryz.underlying5;have i:rowsOf H 1 (.arr b 9 32 32)=J (bW d.tx):=by
  simp only[rowsOf,f];have j:F (bH d p r n)=41:=by unfold bH;rw[de,bJ,ht];rfl
  rw[aH af];have:=awh d.tx [im d.no,im d.tm,im d.kd,im d.vl,im d.fr,im d.un,p,r,n];rw[ht]at this;exact congrArg J this
 unfold l_;simp only[h1,h2,e,i,afU,gc];rfl
def cW.amW{o u}{t B}{sz}{U rows2}(h1:cW (.ac o) (aG 3 0 [] t sz U))(h2:gB u rows2)(A:F (U++rows2)<=1000000):cW (.ac (o++u)) (aG 3 0 [] B 4 (U++rows2)):=by
 cases h1 with
 |ac _ _ _ _ v q2 q3 D=>
  refine .ac _ _ _ _ (by rw[de,de,v,h2.1]) (λ_=>rfl) A λE z0 r f e=>?_;rcases eg E (F U) with j|i
  .rw[rC j]at e;rw[rC af]at f;exact D E z0 r f e
  .rw[xm i]at e;rw[xm af,<-v]at f;exact h2.2 _ z0 r f e
def gB.cons{v}{r}{l}{U}(h:cW v r)(e:gB l U):gB (v::l) (r::U):=by
 refine⟨by rw[eZ,eZ,e.1],λf w x hw hx=>?_⟩;cases f with|zero=>simp at hw hx;subst hw;subst hx;exact h|succ f=>exact e.2 f w x (by simpa using hw) (by simpa using hx)
def gB.nil:gB [] []:=⟨O,λe f r h=>by simp at h⟩
def avV(h:ah)(fR:du h=aa)(d:Dc)(p r n:V)(ok:mo d p r n)(hc:d.oY)(kp:aA p=p)(kr:aA r=r)(f:aA n=n):
 ∃rr h',SA.call 28 [.agg (bH d p r n)] h=J (rr,h')/\((g_ d=au/\rr=.ret (.tuple [.ac .nil 0 [],im 170]))∨(g_ d=aa/\∃t,rr=.ret (.tuple [.ac t 1 (bW (cH (gg d))),im 0]))):=by
 have bx:=ok.cells;have hD:=ok.len;have c72:=(al7 ok hc).call;rw[kp,kr,f]at c72;have lD:=yi hD (aU h (bH d p r n));cases hd:g_ d with
 |false=>
  rw[hd]at c72;clear ok hc;generalize bH d p r n=z1 at *
  refine cA O ads O ?_;refine bF @ue @bC ?_;exact⟨_,_,O,.inl ⟨by first|rfl|trivial,O⟩⟩
 |true=>
  rw[hd]at c72;obtain⟨f1,f2,f3,f4,f5,f6,g1,g2,g3⟩:=UR hd;obtain⟨n1,m1⟩:=CN g1;obtain⟨n2,m2⟩:=CN g2;obtain⟨n3,m3⟩:=CN g3;have L:=tM (aU h (bH d p r n));have z2:=EK;have b6:=aft d.no d.tm d.kd d.vl d.fr d.un;obtain⟨_,A,c1,x1,t,sz,U,rfl,v1,fr1,ca1,rl1,fo1,ni1⟩:=JD (h.push (bH d p r n)) fR (.ac .aP 1 (aF [d.no,d.tm,d.kd,d.vl,d.fr,d.un])) [d.no,d.tm,d.kd,d.vl,d.fr,d.un] ⟨_,_,O,λ_=>rfl⟩ (by intro q hq;simp at hq;omega) cE;have ok2:=x1.ok fR;have z:=KS;have s0:b9 ag (A.push (aG 0 0 [] .nil 0 [])) 118 (.ptr (.box (F A.I)) 0) (.agg (aG 3 0 [] t sz U))=J (A.push (aG 3 0 [] t sz U)):=by rw[Rj O O O (aU _ _)];congr 1;exact ml _ _ _
  obtain⟨H3,o⟩:∃H3,A.push (aG 3 0 [] t sz U)=H3:=⟨_,O⟩;have ok3:du H3=aa:=by rw[<-o];exact ok2
  have e23:Ext A H3:=by rw[<-o];exact .push _ _
  have b3:H3.I[F A.I]?=J (aG 3 0 [] t sz U):=by rw[<-o];exact aU _ _
  obtain⟨_,H4,c2,x2,t2,B,e,rfl,v2,fr2,ca2,rl2,fo2,ni2⟩:=JD H3 ok3 p d.pa ok.p (λq hq=>by have:=m1 q hq;omega) af;have ok4:=x2.ok ok3;obtain⟨_,H5,c3,x3,t3,u,i,rfl,v3,fr3,ca3,rl3,fo3,ni3⟩:=JD H4 ok4 r d.rv ok.r (λq hq=>by have:=m2 q hq;omega) af;have ok5:=x3.ok ok4;obtain⟨_,E,c4,x4,t4,D,j,rfl,v4,fr4,ca4,rl4,fo4,ni4⟩:=JD H5 ok5 n d.nd ok.n (λq hq=>by have:=m3 q hq;omega) af;have ok6:=x4.ok ok5;have v5:cW (.aC d.tx) (aG 2 0 d.tx .nil 0 []):=.aC _ (by rw[ok.t];omega);have bt:=aeK d.tx;have bl:=afp v2.len v3.len v4.len v5.len v2.cells v3.cells v4.cells v5.cells;have can6:=((ca1.ext e23).ext ((x2.trans x3).trans x4));have ap:=aee (H:=E) (new:=[aG 3 0 [] t2 B e,aG 3 0 [] t3 u i,aG 3 0 [] t4 D j,aG 2 0 d.tx .nil 0 []]) (by rw[rl1];simp) cE cE fo1 ni1 can6;have bH6:E.I[F A.I]?=J (aG 3 0 [] t sz U):=((x2.trans x3).trans x4).box _ _ b3;have st:=yB (H:=E.app t) (t2:=.free E.tn) (sz2:=4) (rows2:=U++[aG 3 0 [] t2 B e,aG 3 0 [] t3 u i,aG 3 0 [] t4 D j,aG 2 0 d.tx .nil 0 []]) (by rw[ey];exact bH6);have vv:cW (gg d) (aG 3 0 [] (.free E.tn) 4 (U++[aG 3 0 [] t2 B e,aG 3 0 [] t3 u i,aG 3 0 [] t4 D j,aG 2 0 d.tx .nil 0 []])):=
   cW.amW v1 (gB.cons v2 (gB.cons v3 (gB.cons v4 (gB.cons v5 gB.nil)))) (by rw[de,rl1];simp)
  have O':=nF (H:=(E.app t).put (F A.I) (aG 3 0 [] (.free E.tn) 4 (U++[aG 3 0 [] t2 B e,aG 3 0 [] t3 u i,aG 3 0 [] t4 D j,aG 2 0 d.tx .nil 0 []]))) (b:=A.I.length) vv.len (dM (by rw[ey];exact(bk.1 bH6).1));obtain⟨te,ce⟩:=alZ vv (UQ d) (by have:=MZ n1 n2 n3 ok.t;omega);have c74:∀h,SA.call 74 [.agg (aG 3 0 [] (.free E.tn) 4 (U++[aG 3 0 [] t2 B e,aG 3 0 [] t3 u i,aG 3 0 [] t4 D j,aG 2 0 d.tx .nil 0 []]))] h=J (.ret (.tuple [.ac te 1 (bW (cH (gg d))),im 0]),h):=cy.use (L:=LA) ce O O;have d0:H3.I[F h.I]?=J (bH d p r n):=e23.box _ _ (x1.box _ _ (aU h (bH d p r n)));have d4:=x2.box _ _ d0;have d5:=x3.box _ _ d4;have d6:=x4.box _ _ d5;have M3:=tM d0;have M4:=tM d4;have M5:=tM d5;have w3:=j_ b3;have w4:=j_ (x2.box _ _ b3);have w5:=j_ (x3.box _ _ (x2.box _ _ b3));have w6:=j_ bH6;have y3:=BH ok.t d0;have y4:=BH ok.t d4;have y5:=BH ok.t d5;have y6:=BH ok.t d6;have d7:(E.app t).I[F h.I]?=J (bH d p r n):=by rw[ey];exact d6
  have y7:=BH ok.t d7;have gb:F h.I≠F A.I:=by have:=(bk.1 (x1.box _ _ (aU h (bH d p r n)))).1;have q1:=aU h (bH d p r n);intro z0;rw[z0]at this;omega
  have y8:=BH (H:=(E.app t).put (F A.I) (aG 3 0 [] (.free E.tn) 4 (U++[aG 3 0 [] t2 B e,aG 3 0 [] t3 u i,aG 3 0 [] t4 D j,aG 2 0 d.tx .nil 0 []]))) ok.t (by rw[cS gb];exact d7);have sl:=aum (F h.I);have OD:dh (.ac t sz U) (.ac t sz U)=aa:=by have:=QY _ _ v1;unfold aG at this;simp only[gI,bQ]at this;exact this.2.2.2.1
  have hp:dh p p=aa:=by obtain⟨k,s,z0,-⟩:=ok.p;rw[z0];exact wS _ _ _
  have hr:dh r r=aa:=by obtain⟨k,s,z0,-⟩:=ok.r;rw[z0];exact wS _ _ _
  have hn:dh n n=aa:=by obtain⟨k,s,z0,-⟩:=ok.n;rw[z0];exact wS _ _ _
  clear hd f1 f2 f3 f4 f5 f6 g1 g2 g3 n1 m1 n2 m2 n3 m3 v1 v2 v3 v4 v5 vv ok hc fr1 fr2 fr3 fr4 fo1 fo2 fo3 fo4 ni1 ni2 ni3 ni4 rl1 rl2 rl3 rl4 ca1 ca2 ca3 ca4 can6 ce x1 x2 x3 x4 e23 ok2 ok3 ok4 ok5 ok6 bH6 b3 d0 d4 d5 d6 d7;generalize hDD:bH d p r n=z1 at *
  generalize aG 3 0 [] (.free E.tn) 4 (U++[aG 3 0 [] t2 B e,aG 3 0 [] t3 u i,aG 3 0 [] t4 D j,aG 2 0 d.tx .nil 0 []])=FV at *
  generalize aG 3 0 [] t2 B e=V2 at *
  generalize aG 3 0 [] t3 u i=V3 at *
  generalize aG 3 0 [] t4 D j=V4 at *
  unfold im at *
  refine cA O ads O ?_;refine cg @ue @bC @eQ @o ?_;refine Dw [13] [(1,4),(4,6),(1,7),(4,9),(7,9),(1,10)] bX ?_ ?_ ?_
  .intro k hk;simp only[iL]at hk;subst hk;refine af7 (v:=.arr (F h.I) 9 32 32) (x:=.v (.string (bs d.tx))) O O ?_ ?_
   .simp only[dY,dG];exact iH @ue @bC @eQ (ar @o @and_self)
   .intro m hm;change m<=19 at hm;rcases m with _|_|_|_|_|_|_|_|_|_|_|_|_|_|_|_|_|_|_|_|m
    rotate_right 1
    .omega
    all_goals (simp only[dY,dG];exact iH @ue @bC @eQ (ar @o @and_self))
  .intro q hq;simp only[hh,qR,or_false]at hq;rcases hq with rfl|rfl|rfl|rfl|rfl|rfl
   .refine jL (x:=.ptr (.box (F A.I)) 3) (v:=.ac t sz U) bX O O O bX (OD) ?_ ?_<;>(simp only[dY,dG];exact iH @ue @bC @eQ (ar @o @and_self))
   .refine nO (x:=.ptr (.box (F h.I)) 7) (v:=r) bX O O O bX (hr) ?_ ?_<;>(simp only[dY,dG];exact iH @ue @bC @eQ (ar @o @and_self))
   .refine jL (x:=.ptr (.box (F A.I)) 3) (v:=.ac t sz U) bX O O O bX (OD) ?_ ?_<;>(simp only[dY,dG];exact iH @ue @bC @eQ (ar @o @and_self))
   .refine nO (x:=.ptr (.box (F h.I)) 8) (v:=n) bX O O O bX (hn) ?_ ?_<;>(simp only[dY,dG];exact iH @ue @bC @eQ (ar @o @and_self))
   .refine nO (x:=.ptr (.box (F h.I)) 8) (v:=n) bX O O O bX (hn) ?_ ?_<;>(simp only[dY,dG];exact iH @ue @bC @eQ (ar @o @and_self))
   .refine jL (x:=.ptr (.box (F A.I)) 3) (v:=.ac t sz U) bX O O O bX (OD) ?_ ?_<;>(simp only[dY,dG];exact iH @ue @bC @eQ (ar @o @and_self))
  refine cg @ue @bC @eQ @o ?_;exact⟨_,_,O,.inr ⟨by first|rfl|trivial,_,O⟩⟩
def qJ:Tryz.f42.results.toList=[.tmp 2,.tmp 3]:=by kernel_rfl
def aeI:iP ag 118 [(0,.v (.int .i64 3))]=J (.agg (aG 3 0 [] .nil 0 [])):=by kernel_rfl
def alJ(h:ah)(k:Tok)(s:Nat):∃r h',W6.call 98 [.ac k s []] h=J (r,h')/\r=.ret (.agg (aG 3 0 [] .nil 0 [])):=by
 have z:=KS;have b3:=aeI;have i:=dp;have s3:b9 ag ((h.push (aG 0 0 [] .nil 0 [])).push (aG 0 0 [] .nil 0 [])) 118 (.ptr (.box (F (h.push (aG 0 0 [] .nil 0 [])).I)) 0) (.agg (aG 3 0 [] .nil 0 []))=J ((h.push (aG 0 0 [] .nil 0 [])).push (aG 3 0 [] .nil 0 [])):=Q' O O;have D:aL ag Gt ((h.push (aG 0 0 [] .nil 0 [])).push (aG 3 0 [] .nil 0 [])) 118 (.ptr (.box (F (h.push (aG 0 0 [] .nil 0 [])).I)) 0)=J (.agg (aG 3 0 [] .nil 0 [])):=nF O (aU _ _);have f:((h.push (aG 0 0 [] .nil 0 [])).push (aG 3 0 [] .nil 0 [])).I[F h.I]?=J (aG 0 0 [] .nil 0 []):=aX (aU _ _);have E:=aa2 (r:=aG 3 0 [] .nil 0 []) f O O O;have B:=Yi (H:=(h.push (aG 0 0 [] .nil 0 [])).push (aG 3 0 [] .nil 0 [])) (r:=aG 3 0 [] .nil 0 []) O (bk.1 f).1;refine cA O Tryz.func98 O ?_;refine bD @Dm ?_;refine cJ (λm e H=>e.get 2=.ptr (.box (F h.I)) 0/\e.get 3=.ptr (.box (F (h.push (aG 0 0 [] .nil 0 [])).I)) 0/\e.get 0=.ac k s []/\e.get 4=.v (.int .i64 0)/\e.defers=[]/\H=(h.push (aG 0 0 [] .nil 0 [])).push (aG 3 0 [] .nil 0 [])) ?_ 0 _ _ ?_;rotate_left 1
 .refine⟨?_,?_,?_,?_,?_,O⟩<;>exact gS
 rintro m e H ⟨o,u,j,v,A,rfl⟩;refine bF @Dm @gi.{0} ?_;exact⟨_,_,O,O⟩
def CD:xe SA:=xe.up O alF
def av0:xh SA:=xh.up O avZ
def ah4:xd SA:=xd.up O ah3
def amV:xg SA:=xg.up O amU
def alI:yH SA:=yH.up O (yH.up (R:=W7) (L:=L8) O alH)
def OY{x}{l}(hx:IL x l)(A:F l<=1000)(o:∀n∈l,0<=n/\n<=4611686018427387903):∃t sz U,(∀h,SA.call 98 [x] h=J (.ret (.agg (aG 3 0 [] t sz U)),h))/\cW (CE l) (aG 3 0 [] t sz U)/\bE (aG 3 0 [] t sz U)=aG 3 0 [] t sz U:=by
 obtain⟨k,s,rfl,B⟩:=hx;by_cases i:l=[]
 .subst i;obtain⟨_,_,c,rfl⟩:=alJ ⟨[],[],0,[]⟩ (cK k) s;have v:cy W7 98 [.ac (cK k) s []] (.agg (aG 3 0 [] .nil 0 [])):=cy.new (L:=L7) c O (by cases k<;>rfl) (by rw[aM,aK,fy];rfl) O O;exact⟨.nil,0,[],cy.use (L:=LA) (v.up (L:=L8) O) O O,.ac _ _ _ _ O (λq=>absurd O q) (cC _) (λD E r q=>by simp at q),O⟩
 .have u:=B i;subst u;refine⟨.held,4,l.map dx,alI k l A i o,?_,?_⟩
  .refine .ac _ _ _ _ cE (λ_=>rfl) (by rw[bJ];omega) λD E r e f=>?_;rw[eF]at e f;cases j:l[D]? with
   |none=>rw[j]at e;cases e
   |some n=>rw[j]at e f;injection e with e;injection f with f;subst e;subst f;exact .int _ (o n (dy j))
  .unfold aG;simp only[bE,aA,(I0 l).1];rfl
def alR(b i)(h:i<32):dU ag 29 (.ptr (.box b) 9) ((i:Nat):V)=J (.ptr (.box b) (9+i)):=by
 have h1:ag.underlying 29=J (.array 32 5):=Tryz.underlying29;have h2:cQ ag 5=J 1:=by kernel_rfl
 unfold dU;simp only[h1,h2];rw[aH af,fe,mr]
def amp{H}{b i}{d}{p r n}{c}(f:H.I[b]?=J (bH d p r n))(hc:d.tx[i]?=J c):aL ag Gt H 5 (.ptr (.box b) (9+i))=J (gm c):=by rw[fx bX f];unfold bH;rw[List.drop_append,List.drop_eq_nil_of_le cE];have j:=(bk.1 hc);obtain⟨e,rfl⟩:=j;simp only[eP,eZ,gi];rw[(af:9+i-(0+1+1+1+1+1+1+1+1+1)=i),uw (by simpa using e)];simp
def afy(c):fC ag 60 1 [(0,gm c)]=J (.ac .aP 1 (bW [c])):=by kernel_rfl
def afo{f r2 i j o u v A B e}(h1:F f=4)(h2:F r2=4)(h3:F i=4)(h4:F j=4)(h5:F o=4)(h6:F u=4)(h7:F v=4)(h8:F A=4)(h9:F B=4)(h0:F e=4)
 (D:(V.agg f).bP=J f) (c2:(V.agg r2).bP=J r2) (E:(V.agg i).bP=J i) (c4:(V.agg j).bP=J j) (c5:(V.agg o).bP=J o) (c6:(V.agg u).bP=J u) (c7:(V.agg v).bP=J v) (c8:(V.agg A).bP=J A) (c9:(V.agg B).bP=J B) (c0:(V.agg e).bP=J e):
 fC ag 116 10 [(0,.agg f),(1,.agg r2),(2,.agg i),(3,.agg j),(4,.agg o),(5,.agg u),(6,.agg v),(7,.agg A),(8,.agg B),(9,.agg e)]=J (.ac .aP 4 [f,r2,i,j,o,u,v,A,B,e]):=by
 have z0:ag.underlying 116=J (.slice 118):=mw;unfold fC;simp only[z0,nP,uo];rw[aH ⟨bm,O,by decide⟩];simp[xN,D,c2,E,c4,c5,c6,c7,c8,c9,c0,h1,h2,h3,h4,h5,h6,h7,h8,h9,h0]
def avX(h:ah)(d:Dc)(p r n:V)(ok:mo d p r n)(hc:d.oY)(kp:aA p=p)(kr:aA r=r)(f:aA n=n):
 ∃rr h',SA.call 42 [.agg (bH d p r n)] h=J (rr,h')/\((g_ d=au/\rr=.ret (.tuple [.ac .nil 0 [],im 170]))∨(g_ d=aa/\∃t,rr=.ret (.tuple [.ac t 1 (bW (cH (gg d))),im 0]))):=by
 have bx:=ok.cells;have hD:=ok.len;have E:=(amb ok hc).call;rw[kp,kr,f]at E;have lD:=yi hD (aU h (bH d p r n));cases hd:g_ d with
 |false=>
  rw[hd]at E;clear ok hc;generalize bH d p r n=z4 at *
  refine cA O adu O ?_;refine bF @qJ @bC ?_;exact⟨_,_,O,.inl ⟨by first|rfl|trivial,O⟩⟩
 |true=>
  rw[hd]at E;obtain⟨f1,f2,f3,f4,f5,f6,g1,g2,g3⟩:=UR hd;obtain⟨n1,m1⟩:=CN g1;obtain⟨n2,m2⟩:=CN g2;obtain⟨n3,m3⟩:=CN g3;have L:=tM (aU h (bH d p r n));have z5:=EK;have htx:=ok.t;have lt:∀i c,d.tx[i]?=J c->aL ag Gt (h.push (bH d p r n)) 5 (.ptr (.box (F h.I)) (9+i))=J (gm c):=λi c e=>amp (aU h (bH d p r n)) e;have klt:=aj.mk lt;have i1:=CD d.no;have i2:=CD d.tm;have i3:=CD d.kd;have i4:=CD d.vl;have i5:=CD d.fr;have i6:=CD d.un;obtain⟨t1,u,j,e1,v1,k1⟩:=OY ok.p af (λq e=>by have:=m1 q e;omega);obtain⟨t2,A,o,e2,v2,k2⟩:=OY ok.r af (λq e=>by have:=m2 q e;omega);obtain⟨t3,B,R3,e3,v3,k3⟩:=OY ok.n af (λq e=>by have:=m3 q e;omega);have ct:∀h,SA.call 99 [.v (.string (bs d.tx))] h=J (.ret (.agg (aG 2 0 d.tx .nil 0 [])),h):=av0 d.tx;have v0:cW (.aC d.tx) (aG 2 0 d.tx .nil 0 []):=.aC _ af;have w1:cW (.int d.no) (dx d.no):=.int _ af;have w2:cW (.int d.tm) (dx d.tm):=.int _ af;have w3:cW (.int d.kd) (dx d.kd):=.int _ af;have w4:cW (.int d.vl) (dx d.vl):=.int _ af;have w5:cW (.int d.fr) (dx d.fr):=.int _ af;have w6:cW (.int d.un) (dx d.un):=.int _ af;have bl:=afo w1.len w2.len w3.len w4.len w5.len w6.len v1.len v2.len v3.len v0.len w1.cells w2.cells w3.cells w4.cells w5.cells w6.cells v1.cells v2.cells v3.cells v0.cells;have vs:=gB.cons w1 (gB.cons w2 (gB.cons w3 (gB.cons w4 (gB.cons w5 (gB.cons w6 (gB.cons v1 (gB.cons v2 (gB.cons v3 (gB.cons v0 gB.nil)))))))));have D:ef [dx d.no,dx d.tm,dx d.kd,dx d.vl,dx d.fr,dx d.un,aG 3 0 [] t1 u j,aG 3 0 [] t2 A o,aG 3 0 [] t3 B R3,aG 2 0 d.tx .nil 0 []]=[dx d.no,dx d.tm,dx d.kd,dx d.vl,dx d.fr,dx d.un,aG 3 0 [] t1 u j,aG 3 0 [] t2 A o,aG 3 0 [] t3 B R3,aG 2 0 d.tx .nil 0 []]:=by simp only[ef,k1,k2,k3];rfl
  have cl:=amV _ _ vs D .aP cE;have vv:cW (gg d) (aG 3 0 [] .aP 4 [dx d.no,dx d.tm,dx d.kd,dx d.vl,dx d.fr,dx d.un,aG 3 0 [] t1 u j,aG 3 0 [] t2 A o,aG 3 0 [] t3 B R3,aG 2 0 d.tx .nil 0 []]):=.ac _ _ _ _ vs.1 (λ_=>rfl) cE vs.2;obtain⟨te,ce⟩:=ah4 _ _ vv (UQ d) (by have:=MZ n1 n2 n3 ok.t;omega);have z:=KS;have s9:=Q' (H:=h.push (bH d p r n)) vv.cells vv.len;have l9:=nF vv.len (aU (h.push (bH d p r n)) (aG 3 0 [] .aP 4 [dx d.no,dx d.tm,dx d.kd,dx d.vl,dx d.fr,dx d.un,aG 3 0 [] t1 u j,aG 3 0 [] t2 A o,aG 3 0 [] t3 B R3,aG 2 0 d.tx .nil 0 []]));have L9:=tM (H:=(h.push (bH d p r n)).push (aG 0 0 [] .nil 0 [])) (aX (aU h (bH d p r n)));have L8:=tM (H:=(h.push (bH d p r n)).push (aG 3 0 [] .aP 4 [dx d.no,dx d.tm,dx d.kd,dx d.vl,dx d.fr,dx d.un,aG 3 0 [] t1 u j,aG 3 0 [] t2 A o,aG 3 0 [] t3 B R3,aG 2 0 d.tx .nil 0 []])) (aX (aU h (bH d p r n)));have hp:dh p p=aa:=by obtain⟨k,s,z0,-⟩:=ok.p;rw[z0];exact wS _ _ _
  have hr:dh r r=aa:=by obtain⟨k,s,z0,-⟩:=ok.r;rw[z0];exact wS _ _ _
  have hn:dh n n=aa:=by obtain⟨k,s,z0,-⟩:=ok.n;rw[z0];exact wS _ _ _
  clear hd f1 f2 f3 f4 f5 f6 g1 g2 g3 n1 m1 n2 m2 n3 m3 v1 v2 v3 v0 w1 w2 w3 w4 w5 w6 vv vs D ok hc lt;generalize bH d p r n=z4 at *
  generalize aG 3 0 [] t1 u j=V1 at *
  generalize aG 3 0 [] t2 A o=V2 at *
  generalize aG 3 0 [] t3 B R3=V3 at *
  generalize hV:aG 3 0 [] .aP 4 [dx d.no,dx d.tm,dx d.kd,dx d.vl,dx d.fr,dx d.un,V1,V2,V3,aG 2 0 d.tx .nil 0 []]=FV at *
  have cl2:∀h,SA.call 96 [.ac .aP 4 [dx d.no,dx d.tm,dx d.kd,dx d.vl,dx d.fr,dx d.un,V1,V2,V3,aG 2 0 d.tx .nil 0 []]] h=J (.ret (.agg FV),h):=by rw[<-hV];exact cl
  clear cl hV;unfold im at *
  refine cA O adu O ?_;refine bF @qJ @bC ?_;refine cJ (λm z0 H=>∃i:Nat,i<=32/\m=32-i/\z0.get 1=.ptr (.box (F h.I)) 0/\z0.get 4=.v (.string (bs (d.tx.take i)))/\z0.get 5=(i:Nat)/\z0.defers=[]/\H=h.push z4) ?_ 32 _ _ ?_;rotate_left 1
  .refine⟨0,by omega,O,?_,?_,?_,?_,O⟩<;>exact gR
  rintro m z0 H ⟨i,hi,rfl,g1,g4,g5,hd,rfl⟩;by_cases dD:i<32
  .obtain⟨c,NS⟩:∃c,d.tx[i]?=J c:=⟨_,aY af⟩;have lc:=klt.M i c NS;have ix:=alR (F h.I) i dD;have bu:fC ag 60 1 [(0,gm c)]=J (.ac .aP 1 [iF c]):=afy c;have cv:∀h,l_ ag h 60 9 (.ac .aP 1 [iF c])=J (.v (.string (bs [c])),h):=MT (k:=.aP) (s:=1) (b:=[c]) (λ_=>rfl);have ad:∀t x y,df ag .add t x y (.v (.string (bs (d.tx.take i)))) (.v (.string (bs [c])))=J (.v (.string (bs (d.tx.take i++[c])))):=λt x y=>Tz (by rw[dJ];simp;omega);have kts:=aj.mk (ga NS);have gG:((i:Nat):Int)<32:=(by omega);clear NS;refine bD @qJ ?_;exact⟨32-(i+1),by omega,i+1,by omega,O,by simp[kts.M]⟩
  .have gq:i=32:=(by omega);subst gq;rw[fK af]at g4;clear klt;refine bD @qJ ?_;refine jY [(1,31),(4,31),(7,31),(10,31),(13,31),(16,31),(19,31),(22,31),(25,31)] af0 bX (λq e=>?_) ?_
   .simp only[hh,qR,or_false]at e;rcases e with rfl|rfl|rfl|rfl|rfl|rfl|rfl|rfl|rfl
    .refine jL (x:=.ptr (.box (F h.I)) 0) (v:=((d.no:Int):V)) bX O O O bX (by simp[dh,iz]) ?_ ?_<;>(simp only[dY,dG];exact f_ @qJ @and_self)
    .refine jL (x:=.ptr (.box (F h.I)) 1) (v:=((d.tm:Int):V)) bX O O O bX (by simp[dh,iz]) ?_ ?_<;>(simp only[dY,dG];exact f_ @qJ @and_self)
    .refine jL (x:=.ptr (.box (F h.I)) 2) (v:=((d.kd:Int):V)) bX O O O bX (by simp[dh,iz]) ?_ ?_<;>(simp only[dY,dG];exact f_ @qJ @and_self)
    .refine jL (x:=.ptr (.box (F h.I)) 3) (v:=((d.vl:Int):V)) bX O O O bX (by simp[dh,iz]) ?_ ?_<;>(simp only[dY,dG];exact f_ @qJ @and_self)
    .refine jL (x:=.ptr (.box (F h.I)) 4) (v:=((d.fr:Int):V)) bX O O O bX (by simp[dh,iz]) ?_ ?_<;>(simp only[dY,dG];exact f_ @qJ @and_self)
    .refine jL (x:=.ptr (.box (F h.I)) 5) (v:=((d.un:Int):V)) bX O O O bX (by simp[dh,iz]) ?_ ?_<;>(simp only[dY,dG];exact f_ @qJ @and_self)
    .refine jL (x:=.ptr (.box (F h.I)) 6) (v:=p) bX O O O bX (hp) ?_ ?_<;>(simp only[dY,dG];exact f_ @qJ @and_self)
    .refine jL (x:=.ptr (.box (F h.I)) 7) (v:=r) bX O O O bX (hr) ?_ ?_<;>(simp only[dY,dG];exact f_ @qJ @and_self)
    .refine jL (x:=.ptr (.box (F h.I)) 8) (v:=n) bX O O O bX (hn) ?_ ?_<;>(simp only[dY,dG];exact f_ @qJ @and_self)
   refine bD @qJ ?_;exact⟨_,_,O,.inr ⟨by first|rfl|trivial,_,O⟩⟩
section
variable {X Y C T L S Z:V} {U:List (List Int)} {ae av B z:List Int} {aC:List UInt8} {l:List Pr} {s:List (Int × Int)} {ep:Int}
def CJ(ep:Int)(hx:RL X U)(E:IL Y ae)(hc:IL C av):RL (aA X) U/\IL (aA Y) ae/\IL (aA C) av/\aM 0 0 0 (aJ ep (aA X) (aA Y) (aA C))=aa:=by obtain⟨h1,h2,e,f⟩:=nM hx E;obtain⟨i,j⟩:=hc.hold;exact⟨h1,h2,i,by simp[aJ,aM,aK,e,f,j,im]⟩
def alV(hx:RL X U)(E:IL Y ae)(hc:IL C av)(fw:F av<=1000000):cy W8 37 [.agg (aJ ep (aA X) (aA Y) (aA C)),.ac .nil 0 [],.ac .nil 0 []] (.tuple [.ac .nil 0 [],im 0,im 0,im (eK U ae ep av [] [])]):=by
 obtain⟨h1,h2,f,i⟩:=CJ ep hx E hc;have e:eK U ae ep av [] []≠0:=by
  unfold eK;split
  .assumption
  .split
   .decide
   .split
    .simp at *
    .split
     .simp at *
     .split
      .simp[NT.jU]at *
      .simp
 rcases TC ep (aA X) (aA Y) (aA C) (.ac .nil 0 []) (.ac .nil 0 []) U ae av [] [] h1 h2 f ⟨.nil,0,rfl,λq=>absurd O q⟩ ⟨.nil,0,O,λq=>absurd O q⟩ fw (cC _) with⟨-,c⟩|⟨q,-⟩
 .exact v8 ⟨c,lq [.agg (aJ ep X Y C),.ac .nil 0 [],.ac .nil 0 []],by rw[aM,aK,i];rfl,λ_=>rfl,O⟩ O O
 .exact absurd q e
def ae1:eK U ae ep av [] []=if cI U ae≠0 then cI U ae else if iI U ep av=au then 380 else 420:=by
 unfold eK iI;by_cases h:cI U ae=0
 .simp only[h,ne_eq,not_true_eq_false,if_false];generalize (decide (0<=ep)&&decide (ep<=64)&&decide (F av=cr U)&&av.all cq)=b;cases b<;>simp[NT.jU]
 .simp only[h,ne_eq,not_false_eq_true,if_true]
def X7(hx:RL X U)(E:IL Y ae)(hc:IL C av)(fw:F av<=1000000):cy W8 41 [.agg (aJ ep (aA X) (aA Y) (aA C))] (.v (.bool (iI U ep av))):=by obtain⟨h1,h2,e,f⟩:=CJ ep hx E hc;exact⟨amf ep _ _ _ U ae av h1 h2 e fw,lq [.agg (aJ ep X Y C)],by rw[aM,aK,f];rfl,λ_=>rfl,O⟩
def alX(hx:RL X U)(E:IL Y ae)(hc:IL C av)(ht:BL T aC)(hp:PL L l)(hz:IL Z z)(fw:F av<=1000000)(gU:F l<=1000000)(f:F aC<=1000000)(i:F z<=1000000):
 cy W8 60 [.agg (aJ ep (aA X) (aA Y) (aA C)),aA T,aA L,aA Z] (.tuple [.agg [im (jo U ae ep av aC l z).1.1,im (jo U ae ep av aC l z).1.2],.v (.bool (jo U ae ep av aC l z).2.1),im (jo U ae ep av aC l z).2.2]):=by
 obtain⟨h1,h2,j,o⟩:=CJ ep hx E hc;obtain⟨u,v⟩:=ht.hold;obtain⟨A,B⟩:=hp.hold;obtain⟨D,e⟩:=hz.hold;obtain⟨_,_,c,-,rfl⟩:=ahd ⟨[],[],0,[]⟩ ep _ _ _ _ _ _ U ae av aC l z h1 h2 j u A fw gU f (.inl D) i;exact cy.new (L:=L8) c O (lq [.agg (aJ ep X Y C),T,L,Z]) (by rw[aM,aK,o,aM,v,aM,B,aM,e];rfl) O rfl
def alY(hx:RL X U)(E:IL Y ae)(hz:IL Z B)(hl:F B<=1000)(e:F U<=1000000)(A:Int)(he:jD U ae A B=0):
 ∃i j,SL i (fA U (A::B))/\IL j (bU (A::B))/\cy W8 71 [.agg [aA X,aA Y],im A,aA Z] (.tuple [i,j,im 0]):=by
 obtain⟨h1,h2,o,u⟩:=nM hx E;obtain⟨v,D⟩:=hz.hold;rcases ahG _ _ _ U ae B A h1 h2 v hl e with⟨q,-⟩|⟨-,i,j,⟨k,s,rfl,hs⟩,⟨k2,s2,rfl,f⟩,c⟩
 .exact absurd he q
 .exact⟨.ac (cK k) s (bY _),.ac (cK k2) s2 (aF _),⟨_,_,O,hs⟩,⟨_,_,O,f⟩,cy.up (L:=L8) (cy.new (L:=L7) (c _) O (lq [.agg [X,Y],im A,Z]) (by simp[aM,aK,o,u,D,im]) O (by rw[aK,aM,aK,fy,EM,aM,aK,fy,jG];rfl)) O⟩
def X8(hx:RL X U)(E:IL Y ae)(hc:IL C av)(ht:BL T aC)(hp:PL L l)(hs:SL S s)(fw:F av<=1000000)(gU:F l<=1000000)(j:F s<=1000000)(e d f:Int):
 cy W8 30 [.agg (aJ ep (aA X) (aA Y) (aA C)),aA T,aA L,im e,aA S,im d,im f] (.tuple [im (na U ae ep av aC l e s d f).1,im (na U ae ep av aC l e s d f).2]):=by
 obtain⟨h1,h2,o,u⟩:=CJ ep hx E hc;obtain⟨v,A⟩:=ht.hold;obtain⟨B,D⟩:=hp.hold;obtain⟨h9,i⟩:=hs.hold;exact v8 ⟨ang ep _ _ _ _ _ U ae av aC l h1 h2 o v B fw gU _ s e d f h9 j,lq [.agg (aJ ep X Y C),T,L,im e,S,im d,im f],by simp only[aM];rw[aK,u,A,D,i];rfl,λ_=>rfl,O⟩ O rfl
def Ya(ht:BL T aC)(o:F aC<=1000000)(f e s:Int):cy W8 26 [im f,aA T,.agg [im e,im s]] (.v (.bool (ol f aC e s))):=by obtain⟨i,j⟩:=ht.hold;exact v8 ⟨abK f e s _ aC i o,lq [im f,T,.agg [im e,im s]],by simp only[aM];rw[j];rfl,λ_=>rfl,O⟩ O rfl
end
def Z5:Tryz.f36.results.toList=[]:=by kernel_rfl
def Z7:Tryz.f85.results.toList=[]:=by kernel_rfl
def Z4:Tryz.f33.results.toList=[.cell 2 39]:=by kernel_rfl
def aeL(e):iP ag 134 [(0,((e:Int):V))]=J (.agg [((e:Int):V)]):=by kernel_rfl
def alb:isIface ag 134=J au:=by kernel_rfl
def aet(x):uF ag (.iface 134 (.agg x)) 134 aa=J (.tuple [.agg x,(aa:V)]):=by kernel_rfl
def alc:isIface ag 20=J aa:=by kernel_rfl
def aw1:(gp ag 134).bind V.bP=J [.v (.int .i64 0)]:=by kernel_rfl
def axb:(gp ag 39).bind V.bP=J [.v (.int .i64 0)]:=by kernel_rfl
def S_:f' ag 39=J au:=by kernel_rfl
def avK:cQ ag 39=J 1:=by kernel_rfl
def avD:cQ ag 134=J 1:=by kernel_rfl
def ain(b):eo ag 134 (.ptr (.box b) 0) 0=J (.ptr (.box b) 0):=by kernel_rfl
def mn(e:Int):V:=.iface 134 (.agg [((e:Int):V)])
def mc(e:Int):dV:=if e=0 then .ret (.tuple []) else .panic (mn e)
section
variable {h:ah} {b:Nat} {n n':Int} {x:V}
def abg(e:h.I[b]?=J [x]):b9 ag h 39 (.ptr (.box b) 0) ((n':Int):V)=J (h.put b [((n':Int):V)]):=fI (off:=0) (cs:=[x]) (xs:=[((n':Int):V)]) O avK e O (bh 1)
def avg(e:h.I[b]?=J [x]):b9 ag h 134 (.ptr (.box b) 0) (.agg [((n':Int):V)])=J (h.put b [((n':Int):V)]):=fI (off:=0) (cs:=[x]) (xs:=[((n':Int):V)]) O avD e O (bh 1)
def Pu(e:h.I[b]?=J [x]):aL ag Gt h 39 (.ptr (.box b) 0)=J x:=by rw[fx S_ e];rfl
end
section
variable {pr:a_->Option (List V->ah->Option (V × ah))}
def FU(hp:pr 36=aq)(e:Int)(h:ah):(whole ag Gt pr).call 36 [(aa:V),((e:Int):V)] h=J (.ret (.tuple []),h):=by refine da hp adt O ?_;exact iU @Z5
def FT(hp:pr 36=aq)(e:Int)(h:ah):(whole ag Gt pr).call 36 [(au:V),((e:Int):V)] h=J (.panic (mn e),h):=by
 have f:=alb;refine da hp adt O ?_
 repeat' (first|simp(maxSteps:=9999999) (disch:=first|exact dZ|fail) only[gW,reduceIte,aT,aN,Z5,aeL,mn, *]|refine dX ?_ ?_<;>(intro _;try omega))
def agh(b:Nat)(h:ah):(whole ag Gt pr).iS 85 [.ptr (.box b) 0] aq h=J (.ret (.tuple []),aq,h):=by have e:=adB;refine MU adx O ?_;exact qn @Z7 @Ty @and_self
def agi(b:Nat)(h:ah)(e:Int){x:V}(f:h.I[b]?=J [x]):(whole ag Gt pr).iS 85 [.ptr (.box b) 0] (J (mn e,au)) h=J (.ret (.tuple []),J (mn e,aa),(h.push [((e:Int):V)]).put b [((e:Int):V)]):=by
 have o:=adB;have j:=alc;have i:=aw1;have v:=(bk.1 f).1;have A:b9 ag (h.push [.v (.int .i64 0)]) 134 (.ptr (.box (F h.I)) 0) (.agg [((e:Int):V)])=J (h.push [((e:Int):V)]):=by rw[avg (aU _ _)];congr 1;exact ml _ _ _
 have u:=Pu (aU h [((e:Int):V)]);have B:=abg (n':=e) (aX (cs:=[((e:Int):V)]) f);unfold mn;refine MU adx O ?_;exact iH @Z7 @ae9 @aet (ar @ain @and_self)
def HG(hp:pr 33=aq)(g:Nat)(f:List V)(h h2:ah)(e:Int)(c2:(whole ag Gt pr).call g f (h.push [.v (.int .i64 0)])=J (mc e,h2))(o:h2.I[F h.I]?=J [.v (.int .i64 0)]):
 ∃h',(whole ag Gt pr).call 33 [.func (.func g) [] f] h=J (.ret ((e:Int):V),h')/\(∀b cs,b≠F h.I->h2.I[b]?=J cs->h'.I[b]?=J cs):=by
 have z39:=axb;have a39:=S_;have D:=(bk.1 o).1;have v:=agh (pr:=pr) (F h.I) (h2.put (F h.I) [.v (.int .i64 0)]);have A:=agi (pr:=pr) (F h.I) h2 e o;have E:=abg (n':=0) o;refine iG hp Tryz.func33 O ?_;unfold mc at c2;by_cases j:e=0
 .rw[aH j]at c2;subst j;clear A;have B:=Pu (h:=h2.put (F h.I) [.v (.int .i64 0)]) (x:=.v (.int .i64 0)) (dM D);refine bD @Z4 ?_;exact⟨_,O,λb cs i u=>by rw[cS i];exact u⟩
 .rw[aV j]at c2;clear v E;have B:=Pu (h:=(h2.push [((e:Int):V)]).put (F h.I) [((e:Int):V)]) (x:=((e:Int):V)) (dM (by rw[bV];omega));refine bD @Z4 ?_;exact⟨_,O,λb cs i u=>by rw[cS i];exact aX u⟩
end
def LB:List a_:=LA++[28,42]
noncomputable def Db:a_->Option (List V->ah->Option (V × ah)):=my SA LB
noncomputable abbrev SB:=whole ag Gt Db
def k':mN Db LB:=tg
section
variable {d:Dc} {p r n:V}
def IZ(ok:mo d p r n):bE [.agg (bH d (aA p) (aA r) (aA n))]=[.agg (bH d (aA p) (aA r) (aA n))]:=by rw[<-xF];exact lq [.agg (bH d p r n)]
def O6(ok:mo d p r n)(hc:d.oY):∃T,(g_ d=aa->BL T (cH (gg d)))/\aA T=T/\cy SB 28 [.agg (bH d (aA p) (aA r) (aA n))] (.tuple [T,im (if g_ d=aa then 0 else 170)]):=by
 obtain⟨k,e⟩:=ok.hold;obtain⟨j,i,c,⟨q,rfl⟩|⟨q,t,rfl⟩⟩:=avV ⟨[],[],0,[]⟩ O d _ _ _ k hc (mW p) (mW r) (mW n)
 .refine⟨.ac .nil 0 [],λf=>by rw[q]at f;(first|cases f|contradiction),O,?_⟩;rw[aV (by simp[q])];exact cy.new (L:=LB) c O (IZ ok) (by rw[aM,aK,e];rfl) O O
 .refine⟨.ac (cK t) 1 (bW (cH (gg d))),λ_=>⟨_,_,O,λ_=>rfl⟩,by rw[aA,rh];cases t<;>rfl,?_⟩;rw[aH (by simp[q])];exact cy.new (L:=LB) c O (IZ ok) (by rw[aM,aK,e];rfl) O (by simp[aK,aM,fy,mA,im])
def amc(ok:mo d p r n)(hc:d.oY):∃T,(g_ d=aa->BL T (cH (gg d)))/\aA T=T/\cy SB 42 [.agg (bH d (aA p) (aA r) (aA n))] (.tuple [T,im (if g_ d=aa then 0 else 170)]):=by
 obtain⟨k,e⟩:=ok.hold;obtain⟨j,i,c,⟨q,rfl⟩|⟨q,t,rfl⟩⟩:=avX ⟨[],[],0,[]⟩ d _ _ _ k hc (mW p) (mW r) (mW n)
 .refine⟨.ac .nil 0 [],λf=>by rw[q]at f;(first|cases f|contradiction),O,?_⟩;rw[aV (by simp[q])];exact cy.new (L:=LB) c O (IZ ok) (by rw[aM,aK,e];rfl) O O
 .refine⟨.ac (cK t) 1 (bW (cH (gg d))),λ_=>⟨_,_,O,λ_=>rfl⟩,by rw[aA,rh];cases t<;>rfl,?_⟩;rw[aH (by simp[q])];exact cy.new (L:=LB) c O (IZ ok) (by rw[aM,aK,e];rfl) O (by simp[aK,aM,fy,mA,im])
end
def d0:Dc:=⟨0,0,0,0,0,0,[],[],[],List.replicate 32 0⟩
structure CA where
 X:V
 Y:V
 C:V
 p:V
 r:V
 n:V
 W:V
 Pa:V
 Z:V
def aD(c:Ce)(a:CA):List V:=aJ c.ep a.X a.Y a.C++bH c.doc a.p a.r a.n++[a.W,a.Pa,a.Z]
structure c_(c:Ce)(a:CA):Prop where
 x:RL a.X c.U
 y:IL a.Y c.ae
 cm:IL a.C c.av
 d:mo c.doc a.p a.r a.n
 w:IL a.W c.am
 pa:PL a.Pa c.bO
 z:SL a.Z c.aW
def c0:Ce:=⟨[],[],0,[],d0,[],[],[]⟩
def a0:CA:=⟨nl,nl,nl,nl,nl,nl,nl,nl,nl⟩
def GA{A B B' C}{k}(e:F A=k)(h:F B'=F B):ej (A++B++C) k B'=A++B'++C:=by subst e;unfold ej;rw[jx,jx,List.take_left,<-rB,DW,h,DW,<-jx]
def PL.bP{x}{l}(h:PL x l):x.bP=J [x]:=by obtain⟨k,s,rfl,-⟩:=h;rfl
section
variable {c:Ce} {a:CA}
def c_.len(ok:c_ c a):F (aD c a)=48:=by unfold aD;rw[de,de,ok.d.len];unfold aJ;rfl
def c_.cells(ok:c_ c a):(V.agg (aD c a)).bP=J (aD c a):=by
 have h1:=mD (ep:=c.ep) ok.x ok.y ok.cm;have h2:=ok.d.cells;have f:a.W.dt=aa:=by obtain⟨k,s,e,-⟩:=ok.w;rw[e];rfl
 have i:a.Pa.dt=aa:=by obtain⟨k,s,e,-⟩:=ok.pa;rw[e];rfl
 have j:a.Z.dt=aa:=by obtain⟨k,s,e,-⟩:=ok.z;rw[e];rfl
 unfold V.bP at *
 simp only at h1 h2 ⊢;split at h1
 .split at h2
  .rename_i o u;rw[aH];unfold aD;rw[qP,qP,o,u];simp[f,i,j]
  .cases h2
 .cases h1
end
def gL:c_ c0 a0:=⟨⟨.nil,0,[],O,λq=>absurd O q,O,λe a r h=>by simp at h⟩,⟨.nil,0,O,λq=>absurd O q⟩,⟨.nil,0,O,λq=>absurd O q⟩,⟨⟨.nil,0,O,λq=>absurd O q⟩,⟨.nil,0,O,λq=>absurd O q⟩,⟨.nil,0,O,λq=>absurd O q⟩,O⟩,⟨.nil,0,O,λq=>absurd O q⟩,⟨.nil,0,O,λq=>absurd O q⟩,⟨.nil,0,O,λq=>absurd O q⟩⟩
def vH:(gp ag 35).bind V.bP=J (aD c0 a0):=by kernel_rfl
def abO:iP ag 35 []=J (.agg (aD c0 a0)):=by kernel_rfl
def ad4:f' ag 35=J aa:=by kernel_rfl
def aby:cQ ag 35=J 48:=by kernel_rfl
def ad8:f' ag 32=J au:=by kernel_rfl
def ad9:f' ag 33=J au:=by kernel_rfl
def iJ{H}{b}{D}(f:F D=48)(e:H.I[b]?=J D):aL ag Gt H 35 (.ptr (.box b) 0)=J (.agg D):=by rw[fS ad4 aby e af,gP,<-f,gy]
def qK{H}{b}{D D2}(i:F D=48)(e:F D2=48)(hc:(V.agg D2).bP=J D2)(f:H.I[b]?=J D):b9 ag H 35 (.ptr (.box b) 0) (.agg D2)=J (H.put b D2):=by rw[fI (off:=0) (cs:=D) (xs:=D2) hc aby f e af,vA af]
def uN:(∀b,eo ag 35 (.ptr (.box b) 0) 0=J (.ptr (.box b) 0))/\(∀b,eo ag 35 (.ptr (.box b) 0) 1=J (.ptr (.box b) 4))/\(∀b,eo ag 35 (.ptr (.box b) 0) 2=J (.ptr (.box b) 45))/\(∀b,eo ag 35 (.ptr (.box b) 0) 3=J (.ptr (.box b) 46))/\∀b,eo ag 35 (.ptr (.box b) 0) 4=J (.ptr (.box b) 47):=
 ⟨λ_=>by kernel_rfl,λ_=>by kernel_rfl,λ_=>by kernel_rfl,λ_=>by kernel_rfl,λ_=>by kernel_rfl⟩
def Es{K D T:List V}{i k l}(e:F K=k)(f:F D=l):(K++D++T).drop (k+l+i)=T.drop i:=by subst e;subst f;rw[<-rB,<-de,DW]
def jH{H}{b}{c}{a}(ok:c_ c a)(e:H.I[b]?=J (aD c a)):aL ag Gt H 27 (.ptr (.box b) 0)=J (.agg (aJ c.ep a.X a.Y a.C))/\aL ag Gt H 31 (.ptr (.box b) 4)=J (.agg (bH c.doc a.p a.r a.n))/\aL ag Gt H 23 (.ptr (.box b) 45)=J a.W/\aL ag Gt H 32 (.ptr (.box b) 46)=J a.Pa/\aL ag Gt H 33 (.ptr (.box b) 47)=J a.Z/\aL ag Gt H 35 (.ptr (.box b) 0)=J (.agg (aD c a)):=by
 have o:=ok.len;have f:F (aJ c.ep a.X a.Y a.C)=4:=rfl;have j:=ok.d.len;refine⟨?_,?_,?_,?_,?_,iJ o e⟩
 .rw[fS bX (by kernel_rfl:cQ ag 27=J 4) e af,gP];unfold aD;rw[jx,vP f]
 .rw[fS bX (by kernel_rfl:cQ ag 31=J 41) e af];unfold aD;rw[jx,aco f,vP j]
 .rw[fx mV e];unfold aD;rw[Es (i:=0) f j];rfl
 .rw[fx ad8 e];unfold aD;rw[Es (i:=1) f j];rfl
 .rw[fx ad9 e];unfold aD;rw[Es (i:=2) f j];rfl
def AL:Tryz.f34.results.toList=[]:=by kernel_rfl
def ap0:Tryz.f11.results.toList=[.cell 6 35,.tmp 7]:=by kernel_rfl
def AK:Tryz.f12.results.toList=[.cell 6 35,.tmp 7]:=by kernel_rfl
structure dS(a:CA):Prop where
 X:aA a.X=a.X
 Y:aA a.Y=a.Y
 C:aA a.C=a.C
 p:aA a.p=a.p
 r:aA a.r=a.r
 n:aA a.n=a.n
 W:aA a.W=a.W
 Pa:aA a.Pa=a.Pa
 Z:aA a.Z=a.Z
structure Hm(c:Ce)(a:CA):Prop where
 c35:∀h,SB.call 35 [.agg [a.X,a.Y]] h=J (.ret (im (cI c.U c.ae)),h)
 c40:∀h,SB.call 40 [.agg [a.X,a.Y]] h=J (.ret (im (cI c.U c.ae)),h)
 c37:∀h,SB.call 37 [.agg (aJ c.ep a.X a.Y a.C),.ac .nil 0 [],.ac .nil 0 []] h=J (.ret (.tuple [.ac .nil 0 [],im 0,im 0,im (eK c.U c.ae c.ep c.av [] [])]),h)
 TV:∀h,SB.call 41 [.agg (aJ c.ep a.X a.Y a.C)] h=J (.ret (.v (.bool (iI c.U c.ep c.av))),h)
 HM:∃T,∀h,SB.call 28 [.agg (bH c.doc a.p a.r a.n)] h=J (.ret (.tuple [T,im (if g_ c.doc=aa then 0 else 170)]),h)
 c42:∃T,∀h,SB.call 42 [.agg (bH c.doc a.p a.r a.n)] h=J (.ret (.tuple [T,im (if g_ c.doc=aa then 0 else 170)]),h)
 c38:∀h,SB.call 38 [a.W] h=J (.ret (.v (.bool (dL (-1) c.am))),h)
 c43:∀h,SB.call 43 [a.W] h=J (.ret (.v (.bool (dL (-1) c.am))),h)
 c39:∃Z,∀h,SB.call 39 [.agg [a.X,a.Y],a.W] h=J (.ret (.tuple [Z,.v (.bool (fm c.U c.ae c.am).2.1),im (fm c.U c.ae c.am).2.2]),h)
 c44:∃Z,∀h,SB.call 44 [.agg [a.X,a.Y],a.W] h=J (.ret (.tuple [Z,.v (.bool (fm c.U c.ae c.am).2.1),im (fm c.U c.ae c.am).2.2]),h)
def rJ{g}{a}{y}(c:cy W8 g a y)(h1:LA.contains g=aa)(h2:LB.contains g=aa):cy SB g a y:=(c.up (L:=LA) h1).up (L:=LB) h2
def anL{c}{a}(ok:c_ c a)(D:dS a)(fi:c.Fit):Hm c a:=by obtain⟨f1,f2,f3,f4,-,-⟩:=fi;have i:=rJ (alW ok.x ok.y) O O;have j:=rJ (X_ ok.x ok.y f1) O O;have o:=rJ (alV (ep:=c.ep) ok.x ok.y ok.cm f2) O O;have u:=rJ (X7 (ep:=c.ep) ok.x ok.y ok.cm f2) O O;obtain⟨T1,-,-,v⟩:=O6 ok.d f4;obtain⟨T2,-,-,A⟩:=amc ok.d f4;have B:cy SB 38 [aA a.W] (.v (.bool (dL (-1) c.am))):=(al5 ok.w af).up (L:=LB) O;have E:=rJ (al4 ok.w af) O O;obtain⟨Z1,f⟩:=alU ok.x ok.y ok.w af;obtain⟨Z2,e⟩:=al6 ok.x ok.y ok.w f1 af;have f:=rJ f O O;have e:=rJ e O O;simp only[D.X,D.Y,D.C,D.p,D.r,D.n,D.W]at i j o u v A B E f e;exact⟨i.call,j.call,o.call,u.call,⟨_,v.call⟩,⟨_,A.call⟩,B.call,E.call,⟨_,f.call⟩,⟨_,e.call⟩⟩
def YV(c:Ce):c.eC=if cI c.U c.ae≠0 then cI c.U c.ae else if iI c.U c.ep c.av=au then 380 else if g_ c.doc=au then 170 else if dL (-1) c.am=au then 1
 else if (fm c.U c.ae c.am).2.1=au∨(fm c.U c.ae c.am).2.2≠0 then 440 else 0:=by
 unfold Ce.eC NT.eC iI;rw[Bool.and_right_comm (decide (0<=c.ep)&&decide (c.ep<=64))]
def Ts{c}{a}(ok:c_ c a):iP ag 35 [(0,.agg (aJ c.ep a.X a.Y a.C)),(1,.agg (bH c.doc a.p a.r a.n)),(2,a.W)]=J (.agg (aJ c.ep a.X a.Y a.C++bH c.doc a.p a.r a.n++[a.W,nl,nl])):=by
 have h1:=mD (ep:=c.ep) ok.x ok.y ok.cm;have h2:=ok.d.cells;have D:=ok.w.bP;have j:=ok.d.len;have v:=gL.d.len;obtain⟨f,E,u,p0,p1,p2⟩:∃f,ag.underlying 35=J (.struct f)/\(f.all λz1=>(ag.info? z1.type).isSome)=aa/\placesOf ag f 0=J (0,4)/\placesOf ag f 1=J (4,41)/\placesOf ag f 2=J (45,1):=⟨_,Tryz.underlying35,by kernel_rfl,by kernel_rfl,by kernel_rfl,by kernel_rfl⟩;have hz:aD c0 a0=[]++aJ 0 nl nl nl++(bH d0 nl nl nl++[nl,nl,nl]):=by unfold aD;rw[eP,jx];rfl
 have i:F (aJ c.ep a.X a.Y a.C)=4:=rfl;have o:F (aJ 0 nl nl nl)=4:=rfl;have e:F (bH d0 nl nl nl)=41:=v;unfold iP;rw[E,vH];simp only;rw[aH u,hz];simp only[rM,p0,p1,p2,h1,h2,D];have s1:ej ([]++aJ 0 nl nl nl++(bH d0 nl nl nl++[nl,nl,nl])) 0 (aJ c.ep a.X a.Y a.C)=aJ c.ep a.X a.Y a.C++bH d0 nl nl nl++[nl,nl,nl]:=by rw[GA (A:=[]) (k:=0) O (by rw[i,o]),eP,jx]
 have s2:ej (aJ c.ep a.X a.Y a.C++bH d0 nl nl nl++[nl,nl,nl]) 4 (bH c.doc a.p a.r a.n)=aJ c.ep a.X a.Y a.C++bH c.doc a.p a.r a.n++[nl,nl,nl]:=GA i (by rw[j,e]);have s3:ej (aJ c.ep a.X a.Y a.C++bH c.doc a.p a.r a.n++[nl,nl,nl]) 45 [a.W]=aJ c.ep a.X a.Y a.C++bH c.doc a.p a.r a.n++[a.W,nl,nl]:=by
  have z0:aJ c.ep a.X a.Y a.C++bH c.doc a.p a.r a.n++[nl,nl,nl]=(aJ c.ep a.X a.Y a.C++bH c.doc a.p a.r a.n)++[nl]++[nl,nl]:=by simp
  have B:ej ((aJ c.ep a.X a.Y a.C++bH c.doc a.p a.r a.n)++[nl]++[nl,nl]) 45 [a.W]=(aJ c.ep a.X a.Y a.C++bH c.doc a.p a.r a.n)++[a.W]++[nl,nl]:=GA (by rw[de,i,j]) O;rw[z0,B];simp
 rw[s1,aH ⟨i,by simp only[de,o,e,gi,eZ];omega⟩,s2,aH ⟨j,by simp only[de,i,e,gi,eZ];omega⟩,s3,
  aH ⟨O,by simp only[de,i,j,gi,eZ];omega⟩]
 rfl
def anI(h:ah)(c:Ce)(a:CA)(ok:c_ c a)(nc:Hm c a)(o b1 b2 b3:Nat)(A:h.I[o]?=J (aJ c.ep a.X a.Y a.C))(B:h.I[b1]?=J (bH c.doc a.p a.r a.n))(D:h.I[b2]?=J [a.W])(E:h.I[b3]?=J (aD c0 a0)):
 ∃r h',SB.call 34 [.ptr (.box o) 0,.ptr (.box b1) 0,.ptr (.box b2) 0,.ptr (.box b3) 0] h=J (r,h')/\r=mc c.eC/\h'=if c.eC=0 then h.put b3 (aJ c.ep a.X a.Y a.C++bH c.doc a.p a.r a.n++[a.W,nl,nl]) else h:=by
 have l0:aL ag Gt h 25 (.ptr (.box o) 1)=J (.agg [a.X,a.Y]):=by rw[fS bX (by kernel_rfl:cQ ag 25=J 2) A (by decide:1+2<=4)];rfl
 have l1:aL ag Gt h 27 (.ptr (.box o) 0)=J (.agg (aJ c.ep a.X a.Y a.C)):=by rw[fS bX (by kernel_rfl:cQ ag 27=J 4) A (by decide:0+4<=4)];rfl
 have l2:=yi ok.d.len B;have l3:aL ag Gt h 23 (.ptr (.box b2) 0)=J a.W:=by rw[fx mV D];rfl
 have f1:=iM (b:=o);obtain⟨c35,-,f,-,⟨T,e⟩,-,u,-,⟨Z,i⟩,-⟩:=nc;have qw:=FU (pr:=Db) O;have z_:=FT (pr:=Db) O;have j:=Ts ok;have st:=qK (D2:=aJ c.ep a.X a.Y a.C++bH c.doc a.p a.r a.n++[a.W,nl,nl]) gL.len (by have:=ok.d.len;simp only[de,this];rfl) (by have ok2:c_ {c with bO:=[],aW:=[]} {a with Pa:=nl,Z:=nl}:=⟨ok.x,ok.y,ok.cm,ok.d,ok.w,gL.pa,gL.z⟩;exact ok2.cells) E;rw[ae1]at f;rw[YV];clear A B D E ok;generalize bH c.doc a.p a.r a.n=z0 at *
 generalize aJ c.ep a.X a.Y a.C=K at *
 generalize cI c.U c.ae=u1 at *
 generalize iI c.U c.ep c.av=u2 at *
 generalize g_ c.doc=u3 at *
 generalize dL (-1) c.am=u4 at *
 generalize (fm c.U c.ae c.am).2.1=u5 at *
 generalize (fm c.U c.ae c.am).2.2=u6 at *
 generalize a.X=X at *
 generalize a.Y=Y at *
 generalize a.W=Wa at *
 generalize K++z0++[Wa,nl,nl]=FC at *
 unfold im at *
 have z1:decide ((380:Int)=420)=au:=by decide
 have z2:decide ((170:Int)=0)=au:=by decide
 refine cA O Tryz.func34 O ?_;by_cases v:u1=0;rotate_left 1
 .have d1:decide (u1=0)=au:=cR v;clear f e u i j st qw;rw[aH v]
  repeat' (first|simp(maxSteps:=9999999) (disch:=first|exact dZ|fail) only[gW,reduceIte,aT,aN,AL,mn, *]|refine dX ?_ ?_<;>(intro _;try omega))
  exact⟨_,_,O,by unfold mc;rw[aV v];rfl,by first|rfl|rw[aV v]⟩
 subst v;cases u2 with
 |false=>
  simp only[ne_eq,not_true_eq_false,if_false,if_true]at f ⊢;clear e u i j st
  repeat' (first|simp(maxSteps:=9999999) (disch:=first|exact dZ|fail) only[gW,reduceIte,aT,aN,AL,mn, *]|refine dX ?_ ?_<;>(intro _;try omega))
  exact⟨_,_,O,O,O⟩
 |true=>
 simp only[ne_eq,not_true_eq_false,if_false,vJ]at f ⊢;cases u3 with
 |false=>
  simp only[jw,if_false,if_true]at e ⊢;clear u i j st
  repeat' (first|simp(maxSteps:=9999999) (disch:=first|exact dZ|fail) only[gW,reduceIte,aT,aN,AL,mn, *]|refine dX ?_ ?_<;>(intro _;try omega))
  exact⟨_,_,O,O,O⟩
 |true=>
 simp only[vJ,if_false,if_true]at e ⊢;cases u4 with
 |false=>
  simp only[jw,if_false,if_true]at ⊢;clear i j st
  repeat' (first|simp(maxSteps:=9999999) (disch:=first|exact dZ|fail) only[gW,reduceIte,aT,aN,AL,mn, *]|refine dX ?_ ?_<;>(intro _;try omega))
  exact⟨_,_,O,O,O⟩
 |true=>
 simp only[vJ,if_false]at ⊢;cases u5 with
 |false=>
  simp only[true_or,if_true]at ⊢;clear j st
  repeat' (first|simp(maxSteps:=9999999) (disch:=first|exact dZ|fail) only[gW,reduceIte,aT,aN,AL,mn, *]|refine dX ?_ ?_<;>(intro _;try omega))
  all_goals exact⟨_,_,O,O,O⟩
 |true=>
 by_cases e6:u6=0
 .subst e6;simp only[vJ,false_or,ne_eq,not_true_eq_false,if_false,if_true]at ⊢
  repeat' (first|simp(maxSteps:=9999999) (disch:=first|exact dZ|fail) only[gW,reduceIte,aT,aN,AL, *]|refine dX ?_ ?_<;>(intro _;try omega))
  all_goals exact⟨_,_,O,O,O⟩
 .have d6:decide (u6=0)=au:=cR e6;simp only[e6,vJ,false_or,ne_eq,not_false_eq_true,if_true]at ⊢;clear j st
  repeat' (first|simp(maxSteps:=9999999) (disch:=first|exact dZ|fail) only[gW,reduceIte,aT,aN,AL,mn, *]|refine dX ?_ ?_<;>(intro _;try omega))
  all_goals exact⟨_,_,O,O,O⟩
def jI(c:Ce):Ce:=if c.eC=0 then {c with bO:=[],aW:=[]} else c0
def jk(c:Ce)(a:CA):CA:=if c.eC=0 then {a with Pa:=nl,Z:=nl} else a0
def yn{c}{a}(ok:c_ c a):c_ (jI c) (jk c a):=by
 unfold jI jk;split
 .exact⟨ok.x,ok.y,ok.cm,ok.d,ok.w,gL.pa,gL.z⟩
 .exact gL
def YY(c)(a):aD (jI c) (jk c a)=if c.eC=0 then aJ c.ep a.X a.Y a.C++bH c.doc a.p a.r a.n++[a.W,nl,nl] else aD c0 a0:=by
 unfold jI jk;by_cases h:c.eC=0
 .rw[aH h,aH h,aH h];rfl
 .rw[aV h,aV h,aV h]
def ayU(h:ah)(c:Ce)(a:CA)(ok:c_ c a)(B:Hm c a):
 ∃r h',SB.call 11 [.agg (aJ c.ep a.X a.Y a.C),.agg (bH c.doc a.p a.r a.n),a.W] h=J (r,h')/\r=.ret (.tuple [.agg (aD (jI c) (jk c a)),im c.eC]):=by
 have b1:=mD (ep:=c.ep) ok.x ok.y ok.cm;have b2:=ok.d.cells;have b3:=ok.w.bP;have z:=vH;obtain⟨e,f⟩:∃e,(((h.push (aJ c.ep a.X a.Y a.C)).push (bH c.doc a.p a.r a.n)).push [a.W]).push (aD c0 a0)=e:=⟨_,O⟩;have l4:F e.I=F h.I+4:=by rw[<-f];simp[bV]
 have D:e.I[F h.I]?=J (aJ c.ep a.X a.Y a.C):=by rw[<-f];exact aX (aX (aX (aU _ _)))
 have E:e.I[F h.I+1]?=J (bH c.doc a.p a.r a.n):=by rw[<-f];refine aX (aX ?_);have:=aU (h.push (aJ c.ep a.X a.Y a.C)) (bH c.doc a.p a.r a.n);rwa [bV]at this
 have q2:e.I[F h.I+2]?=J [a.W]:=by rw[<-f];refine aX ?_;have:=aU ((h.push (aJ c.ep a.X a.Y a.C)).push (bH c.doc a.p a.r a.n)) [a.W];rwa [bV,bV]at this
 have v:e.I[F h.I+3]?=J (aD c0 a0):=by rw[<-f];have:=aU (((h.push (aJ c.ep a.X a.Y a.C)).push (bH c.doc a.p a.r a.n)).push [a.W]) (aD c0 a0);rwa [bV,bV,bV]at this
 obtain⟨_,h2,j,rfl,o⟩:=anI (e.push [.v (.int .i64 0)]) c a ok B (F h.I) (F h.I+1) (F h.I+2) (F h.I+3) (aX D) (aX E) (aX q2) (aX v);have r3:h2.I[F h.I+3]?=J (aD (jI c) (jk c a)):=by
  rw[YY,o];split
  .exact dM (by rw[bV];omega)
  .exact aX v
 have rb:h2.I[F e.I]?=J [.v (.int .i64 0)]:=by
  rw[o];split
  .rw[cS af];exact aU _ _
  .exact aU _ _
 obtain⟨h3,c33,A⟩:=HG (pr:=Db) O 34 _ e h2 c.eC j rb;have i:=A _ _ af r3;have u:=(yn ok).len;have ld:=iJ u i;have st:=qK u u (yn ok).cells i;rw[ju i]at st;have n1:F (h.push (aJ c.ep a.X a.Y a.C)).I=F h.I+1:=bV _ _;have n2:F ((h.push (aJ c.ep a.X a.Y a.C)).push (bH c.doc a.p a.r a.n)).I=F h.I+2:=by rw[bV,bV]
 have n3:F (((h.push (aJ c.ep a.X a.Y a.C)).push (bH c.doc a.p a.r a.n)).push [a.W]).I=F h.I+3:=by rw[bV,bV,bV]
 clear o j r3 rb A D E q2 v i ok B;generalize aD (jI c) (jk c a)=N at *
 generalize aJ c.ep a.X a.Y a.C=K at *
 generalize bH c.doc a.p a.r a.n=z0 at *
 generalize aD c0 a0=Z0 at *
 generalize c.eC=z1 at *
 generalize a.W=Wa at *
 unfold im at *
 refine cA O Tryz.func11 O ?_;refine bF @ap0 @f ?_;exact⟨_,_,O,O⟩
def azm(h:ah)(c:Ce)(a:CA)(ok:c_ c a)(nc:Hm c a):
 ∃r h',SB.call 12 [.agg (aJ c.ep a.X a.Y a.C),.agg (bH c.doc a.p a.r a.n),a.W] h=J (r,h')/\r=.ret (.tuple [.agg (aD (jI c) (jk c a)),im c.eC]):=by
 have b1:=mD (ep:=c.ep) ok.x ok.y ok.cm;have b2:=ok.d.cells;have z:=vH;have zb:=abO;obtain⟨f,e⟩:∃f,((h.push (aJ c.ep a.X a.Y a.C)).push (bH c.doc a.p a.r a.n)).push (aD c0 a0)=f:=⟨_,O⟩;have q0:f.I[F h.I]?=J (aJ c.ep a.X a.Y a.C):=by rw[<-e];exact aX (aX (aU _ _))
 have q1:f.I[F h.I+1]?=J (bH c.doc a.p a.r a.n):=by rw[<-e];refine aX ?_;have:=aU (h.push (aJ c.ep a.X a.Y a.C)) (bH c.doc a.p a.r a.n);rwa [bV]at this
 have v:f.I[F h.I+2]?=J (aD c0 a0):=by rw[<-e];have:=aU ((h.push (aJ c.ep a.X a.Y a.C)).push (bH c.doc a.p a.r a.n)) (aD c0 a0);rwa [bV,bV]at this
 have l0:aL ag Gt f 25 (.ptr (.box (F h.I)) 1)=J (.agg [a.X,a.Y]):=by rw[fS bX (by kernel_rfl:cQ ag 25=J 2) q0 (by decide:1+2<=4)];rfl
 have l1:aL ag Gt f 27 (.ptr (.box (F h.I)) 0)=J (.agg (aJ c.ep a.X a.Y a.C)):=by rw[fS bX (by kernel_rfl:cQ ag 27=J 4) q0 (by decide:0+4<=4)];rfl
 have l2:=yi ok.d.len q1;have f1:=iM (b:=h.I.length);obtain⟨-,c40,-,TV,-,⟨T,i⟩,-,A,-,⟨Z,j⟩⟩:=nc;have B:F (aJ c.ep a.X a.Y a.C++bH c.doc a.p a.r a.n++[a.W,nl,nl])=48:=by have:=ok.d.len;simp only[de,this];rfl
 have D:(V.agg (aJ c.ep a.X a.Y a.C++bH c.doc a.p a.r a.n++[a.W,nl,nl])).bP=J (aJ c.ep a.X a.Y a.C++bH c.doc a.p a.r a.n++[a.W,nl,nl]):=by have ok2:c_ {c with bO:=[],aW:=[]} {a with Pa:=nl,Z:=nl}:=⟨ok.x,ok.y,ok.cm,ok.d,ok.w,gL.pa,gL.z⟩;exact ok2.cells
 have o:=Ts ok;have st:=qK gL.len B D v;have s0:=qK gL.len gL.len gL.cells v;rw[ju v]at s0;have lZ:=iJ gL.len v;have u:=iJ (H:=f.put (F h.I+2) (aJ c.ep a.X a.Y a.C++bH c.doc a.p a.r a.n++[a.W,nl,nl])) B (dM (bk.1 v).1);have n1:F (h.push (aJ c.ep a.X a.Y a.C)).I=F h.I+1:=bV _ _;have n2:F ((h.push (aJ c.ep a.X a.Y a.C)).push (bH c.doc a.p a.r a.n)).I=F h.I+2:=by rw[bV,bV]
 rw[YY,YV];clear q0 q1 v ok B D;generalize bH c.doc a.p a.r a.n=z0 at *
 generalize aJ c.ep a.X a.Y a.C=K at *
 generalize aD c0 a0=Z0 at *
 generalize cI c.U c.ae=u1 at *
 generalize iI c.U c.ep c.av=u2 at *
 generalize g_ c.doc=u3 at *
 generalize dL (-1) c.am=u4 at *
 generalize (fm c.U c.ae c.am).2.1=u5 at *
 generalize (fm c.U c.ae c.am).2.2=u6 at *
 generalize a.X=X at *
 generalize a.Y=Y at *
 generalize a.W=Wa at *
 generalize K++z0++[Wa,nl,nl]=FC at *
 have z2:decide ((170:Int)=0)=au:=by decide
 unfold im at *
 refine cA O Tryz.func12 O ?_;by_cases E:u1=0;rotate_left 1
 .have d1:decide (u1=0)=au:=cR E;clear TV i A j o st u;simp only[E,ne_eq,not_false_eq_true,if_true,if_false]
  repeat' (first|simp(maxSteps:=9999999) (disch:=first|exact dZ|fail) only[gW,reduceIte,aT,aN,AK,e, *]|refine dX ?_ ?_<;>(intro _;try omega))
  all_goals exact⟨_,_,O,O⟩
 subst E;cases u2 with
 |false=>
  simp only[ne_eq,not_true_eq_false,if_false,if_true];clear i A j o st u
  repeat' (first|simp(maxSteps:=9999999) (disch:=first|exact dZ|fail) only[gW,reduceIte,aT,aN,AK,e, *]|refine dX ?_ ?_<;>(intro _;try omega))
  all_goals exact⟨_,_,O,O⟩
 |true=>
 cases u3 with
 |false=>
  simp only[jw,if_false,if_true,ne_eq,not_true_eq_false,vJ]at i ⊢;clear A j o st u
  repeat' (first|simp(maxSteps:=9999999) (disch:=first|exact dZ|fail) only[gW,reduceIte,aT,aN,AK,e, *]|refine dX ?_ ?_<;>(intro _;try omega))
  all_goals exact⟨_,_,O,O⟩
 |true=>
 simp only[vJ,if_false,if_true,ne_eq,not_true_eq_false]at i ⊢;cases u4 with
 |false=>
  simp only[jw,if_false,if_true]at ⊢;clear j o st u
  repeat' (first|simp(maxSteps:=9999999) (disch:=first|exact dZ|fail) only[gW,reduceIte,aT,aN,AK,e, *]|refine dX ?_ ?_<;>(intro _;try omega))
  all_goals exact⟨_,_,O,O⟩
 |true=>
 simp only[vJ,if_false]at ⊢;cases u5 with
 |false=>
  simp only[true_or,if_true]at ⊢;clear o st u
  repeat' (first|simp(maxSteps:=9999999) (disch:=first|exact dZ|fail) only[gW,reduceIte,aT,aN,AK,e, *]|refine dX ?_ ?_<;>(intro _;try omega))
  all_goals exact⟨_,_,O,O⟩
 |true=>
 by_cases e6:u6=0
 .subst e6;simp only[vJ,false_or,ne_eq,not_true_eq_false,if_false,if_true]at ⊢
  repeat' (first|simp(maxSteps:=9999999) (disch:=first|exact dZ|fail) only[gW,reduceIte,aT,aN,AK,e, *]|refine dX ?_ ?_<;>(intro _;try omega))
  all_goals exact⟨_,_,O,O⟩
 .have d6:decide (u6=0)=au:=cR e6;simp only[e6,vJ,false_or,ne_eq,not_false_eq_true,if_true]at ⊢;clear o st u
  repeat' (first|simp(maxSteps:=9999999) (disch:=first|exact dZ|fail) only[gW,reduceIte,aT,aN,AK,e, *]|refine dX ?_ ?_<;>(intro _;try omega))
  all_goals exact⟨_,_,O,O⟩
def ap3:Tryz.f112.results.toList=[.tmp 4]:=by kernel_rfl
def aqd:Tryz.f53.results.toList=[.tmp 4]:=by kernel_rfl
def aqf:Tryz.f57.results.toList=[.tmp 4]:=by kernel_rfl
def U2:(∀b,eo ag 46 (.ptr (.box b) 0) 0=J (.ptr (.box b) 0))/\(∀b,eo ag 46 (.ptr (.box b) 0) 1=J (.ptr (.box b) 1))/\(∀b,eo ag 46 (.ptr (.box b) 0) 2=J (.ptr (.box b) 2))/\∀b,eo ag 46 (.ptr (.box b) 0) 3=J (.ptr (.box b) 3):=
 ⟨λ_=>by kernel_rfl,λ_=>by kernel_rfl,λ_=>by kernel_rfl,λ_=>by kernel_rfl⟩
def M8:(∀b,eo ag 48 (.ptr (.box b) 0) 0=J (.ptr (.box b) 0))/\∀b,eo ag 48 (.ptr (.box b) 0) 1=J (.ptr (.box b) 1):=
 ⟨λ_=>by kernel_rfl,λ_=>by kernel_rfl⟩
def O9{H}{b}{p}(e:H.I[b]?=J (bB p)):aL ag Gt H 3 (.ptr (.box b) 0)=J (im p.bN)/\aL ag Gt H 3 (.ptr (.box b) 1)=J (im p.no)/\aL ag Gt H 3 (.ptr (.box b) 2)=J (im p.d)/\aL ag Gt H 3 (.ptr (.box b) 3)=J (im p.e)/\aL ag Gt H 46 (.ptr (.box b) 0)=J (.agg (bB p)):=by refine⟨?_,?_,?_,?_,wB e⟩<;>(rw[fx eH e];rfl)
def CK{H}{b}{q}(e:H.I[b]?=J (bI q)):aL ag Gt H 3 (.ptr (.box b) 0)=J (im q.1)/\aL ag Gt H 3 (.ptr (.box b) 1)=J (im q.2)/\aL ag Gt H 48 (.ptr (.box b) 0)=J (.agg (bI q)):=by refine⟨by rw[fx eH e];rfl,by rw[fx eH e];rfl,?_⟩;rw[fS bX (by kernel_rfl:cQ ag 48=J 2) e (bh 2)];rfl
def JL(p):(V.agg (bB p)).bP=J (bB p):=rfl
def JM(q):(V.agg (bI q)).bP=J (bI q):=rfl
section
variable {c:Ce} {a:CA} (ok:c_ c a) (D:dS a) (hw:c.am.length<=1000000)
include ok D hw
def abB(f:qO c.am)(h:ah)(k:Int):∃h',SB.call 112 [.agg (aD c a),im k] h=J (.ret (.v (.bool (c.am.contains k))),h')/\Ext h h':=by
 have j:=ok.cells;obtain⟨-,-,o,-,-,-⟩:=jH ok (aU h (aD c a));obtain⟨-,-,f2,-,-⟩:=uN;obtain⟨u,e⟩:=amd ok.w f hw k;rw[D.W]at e;have i:=(rJ e O O).call;have x:=Ext.push h (aD c a);clear ok f hw D e;generalize aD c a=N at *
 generalize c.am.contains k=v at *
 unfold im at *
 refine iG O Tryz.func112 O ?_;refine bF @ap3 @bC ?_;exact⟨_,O,x⟩
def asn(e:qO c.am)(h:ah)(p:Pr):∃r h',SB.call 53 [.agg (aD c a),.agg (bB p)] h=J (r,h')/\r=.ret (.v (.bool (oS c.am p))):=by
 have A:=ok.cells;have v:=JL p;obtain⟨h2,i,f⟩:=abB ok D hw e ((h.push (aD c a)).push (bB p)) p.bN;obtain⟨-,-,-,-,-,B⟩:=jH ok (aX (cs:=bB p) (aU h (aD c a)));have L:=O9 (aU (h.push (aD c a)) (bB p));have u:=O9 (f.box _ _ (aU (h.push (aD c a)) (bB p)));have z1:=U2;have j:=(rJ (X' p.d) O O).call;have o:=(rJ (X' p.e) O O).call;clear ok D hw e f;unfold oS;generalize bB p=z0 at *
 generalize aD c a=N at *
 generalize c.am.contains p.bN=z2 at *
 generalize cq p.d=u2 at *
 generalize cq p.e=u3 at *
 obtain⟨pk,pn,E,pe⟩:=p;simp only at L u i j o ⊢;unfold im at *
 refine cA O Tryz.func53 O ?_
 repeat' (first|simp(maxSteps:=9999999) (disch:=first|exact dZ|fail) only[gW,reduceIte,aT,aN,aqd,bC, *]|refine dX ?_ ?_<;>(intro _;try omega))
 all_goals exact⟨_,_,O,by simp[*]⟩
def aso(e:qO c.am)(h:ah)(p:Int × Int):∃r h',SB.call 57 [.agg (aD c a),.agg (bI p)] h=J (r,h')/\r=.ret (.v (.bool (oT c.am p))):=by
 have u:=ok.cells;have o:=JM p;obtain⟨h2,i,f⟩:=abB ok D hw e ((h.push (aD c a)).push (bI p)) p.1;obtain⟨-,-,-,-,-,v⟩:=jH ok (aX (cs:=bI p) (aU h (aD c a)));have L:=CK (aU (h.push (aD c a)) (bI p));have j:=CK (f.box _ _ (aU (h.push (aD c a)) (bI p)));have z0:=M8;clear ok D hw e f;unfold oT cG Qi;generalize bI p=E at *
 generalize aD c a=N at *
 generalize c.am.contains p.1=z1 at *
 obtain⟨A,B⟩:=p;simp only at L j i ⊢;unfold im at *
 refine cA O Tryz.func57 O ?_
 repeat' (first|simp(maxSteps:=9999999) (disch:=first|exact dZ|fail) only[gW,reduceIte,aT,aN,aqf,bC, *]|refine dX ?_ ?_<;>(intro _;try omega))
 all_goals exact⟨_,_,O,by simp[*]⟩
end
end Go.Proofs.YtcbhpkjbiehcpaaGreatDoor
end
section
namespace Go.AE
variable {P:bL}
def HV{w:b_}{dT sT elem:aO}{i:TypeInfo}(hu:P.underlying dT=J (.slice elem))(hi:P.info? elem=J i){g o dl m sl:Nat}{a:Addr}{cells:Array aQ}{e:aO}{vs:List aQ}
 (hg:w.heap[g]?=J (.cells cells e (0,0))) (hm:Nat.min sl dl=m) (B:F vs=m*i.size) (f:∀j v,vs[j]?=J v->w.cell? (a.add j)=J v) (E:o+F vs<=cells.size) (h1:∀v∈vs,mY v=aa):
 ∃w' ea,(∀ty u D,(Builtin.copy_ #[dT,sT] ty #[.slice (J ⟨g,o,aq⟩) dl u,.slice (J a) sl D]).run P w=.ok (goInt m) w')/\lM w w' g (.cells ea e (0,0))/\ea.toList=cells.toList.take o++vs++cells.toList.drop (o+F vs):=by
 obtain⟨w',ea,q1,q2,q3⟩:=Dx (P:=P) o e (0,0) vs 0 cells w hg af h1 λj _ _=>BY j;refine⟨w',ea,λty u D=>?_,q2,by rw[q3];rfl⟩;have A:=run_loadCells_list (P:=P) w a vs f;rw[B]at A;simp[Builtin.copy_,run_underlying hu,Builtin.lenOf,Builtin.firstCells,sizeOf,typeInfo,hi,hm,A,q1]
def atm(w:b_)(o tR e:aO)(ht:P.underlying o=J (.slice e))(size:Nat)(hz:∀w,(Go.sizeOf e).run P w=.ok size w)
 (a b:Addr) (u ca v cb:Nat) (D:a.block≠b.block) (tA tB:aO) (i f:Nat) (rQ:w.shape? a.block=J (tA,i)) (FD:w.shape? b.block=J (tB,f)) (hkA:i≠0) (hkB:f≠0) (B:∀j,w.frozen? ⟨b.block,j,aq⟩=au) (A:b.spot=aq):
 (Extern.SlicesOverlaps.overlaps #[o,o] #[tR] #[.slice (J a) u ca,.slice (J b) v cb]).run P w=.ok (.bool au) w:=by
 have rO:(a.block !=b.block)=aa:=by simpa using D
 have E:(a.block==b.block)=au:=by simpa using D
 have xR:w.frozen? b=au:=by obtain⟨g,z0,sp⟩:=b;simp only at A;subst A;exact B z0
 have qp:w.frozen? {block:=b.block,off:=f}=au:=B f;change Sem.run P (α:=aQ) (do
  let J t := (#[o, o] : Array aO)[0]? | stuck "slices.overlaps: no parameter types"
  let .slice elem <- underlying t | stuck "slices.overlaps: slice type expected"
  let size <-sizeOf elem
  match (J a:Option Addr),(J b:Option Addr) with
  |some a,J b=>
   if u=0∨v=0∨size=0 then pure (Value.bool au)
   else if a.block !=b.block&&(<-frozen a)&&(<-frozen b) then unsupported .addressObserved
   else do
    if a.block !=b.block then do
     noView a;noView b
     if <- mayBeOne a b then return Value.bool ((<- choose (.extern "sameAddr.stringBytes" 2)) == 1)
    pure (Value.bool (a.block==b.block&&a.off<b.off+v*size&&b.off<a.off+u*size))
  |_,_=>pure (Value.bool au)) w=_
 by_cases h0:u=0∨v=0∨size=0
 .simp[run_underlying ht,hz,h0]
 .cases f with
  |zero=>exact absurd O hkB|succ f=>cases i with
  |zero=>exact absurd O hkA|succ i=>
   cases hfa:w.frozen? a<;>cases hfe:w.frozen? {block:=a.block,off:=i+1}<;>
   simp[run_underlying ht,hz,h0,rO,E,frozen,noView,viewAt,mayBeOne,stringish,shape,Sem.run,rQ,FD,xR,qp,hfa,hfe]
def alC{α:Type}{L vs T e:List α}{a b s}(A:b+s<=F L)(B:a<=b)(v:F vs=s)(u:T=(L.take b).drop a)(f:e=L.take (a+s)++T++L.drop (a+s+F T)):
 (e.take a++vs++e.drop (a+s)).take (b+s)=L.take a++vs++T:=by
 have i:F T=b-a:=by rw[u,fJ,dJ];omega
 have j:e.take a=L.take a:=by rw[f,jx,List.take_append_of_le_length (by rw[dJ];omega),Hi];congr 1;omega
 have o:e.drop (a+s)=T++L.drop (a+s+F T):=by rw[f,jx];exact aco (by rw[dJ];omega)
 rw[j,o,<-jx];exact vP (by simp only[de,dJ,i,v];omega)
end Go.AE
end
section
namespace Go.Proofs.YtcbhpkjbiehcpaaGreatDoor
open Go.AE Go.Lib
def ZS16{p:Prop}(h:p:=by
 have h:(match ag.info? Q75 with|some i=>decide (i.size=Q76)&&decide (i.bytes<=64)&&(match i.zero with|some z=>decide (z.cells.size=Q76)|none=>au)|none=>au)=aa:=by kernel_rfl
 cases f:ag.info? Q75 with
 |none=>rw[f]at h;cases h
 |some i=>
  rw[f]at h;simp only at h;cases e:i.zero with|none=>rw[e]at h;simp at h|some z=>rw[e]at h;simp only[bQ,decide_eq_true_eq]at h;exact⟨i,O,h.1.1,h.1.2,z,e,h.2⟩):p:=h
section
open Go renaming kk46->Q75,kk4->Q76
def alq:∃i,ag.info? 46=J i/\i.size=4/\i.bytes<=64/\∃z,i.zero=J z/\z.cells.size=4:=ZS16
end
def alu(w:b_)(g n c i A ov vc:Nat)(cells:Array aQ)(e:aO)(hg:w.heap[g]?=J (.cells cells e (0,0)))(hi:i<n)(Fz:n+1<=c)(rO:n<1000000)(jr:c*4<=cells.size)(gb:A≠g)(vs:List aQ)(B:F vs=4)(iV:∀j v,vs[j]?=J v->w.cell? ⟨A,ov+j,aq⟩=J v)(uU:∀v∈vs,mY v=aa)(uT:∀v∈cells.toList.take (n*4),mY v=aa)(tA:aO)(kA:Nat)(f:w.shape? A=J (tA,kA)):
 Calls ag 116 #[.slice (J ⟨g,0,aq⟩) n c,.int .i64 i,.slice (J ⟨A,ov,aq⟩) 1 vc] w λr w'=>r=.returned (.slice (J ⟨g,0,aq⟩) (n+1) c)/\
  ∃ea,lM w w' g (.cells ea e (0,0))/\ea.size=cells.size/\ea.toList.take ((n+1)*4)=cells.toList.take (i*4)++vs++(cells.toList.take (n*4)).drop (i*4):=by
 obtain⟨inf,u,wk,-,-⟩:=alq;have u32:=xv;have fw:F (cells.toList.take (n*4))=n*4:=by rw[dJ,om];omega
 have tH:F ((cells.toList.take (n*4)).drop (i*4))=(n-i)*4:=by rw[fJ,fw];omega
 obtain⟨w1,c1,NP,E,q2⟩:=HV (P:=ag) (w:=w.drew) (dT:=32) (sT:=32) u32 u (g:=g) (o:=(i+1)*4) (dl:=n-i) (m:=n-i) (sl:=n+1-i) (a:=⟨g,i*4,aq⟩) (vs:=(cells.toList.take (n*4)).drop (i*4)) (hg:w.drew.heap[g]?=_) (by simp only[LV];split<;>omega) (by rw[tH,wk]) (λj v hj=>by
  rw[Addr.ji,cell_of (w:=w.drew) hg];rw[rD,o0]at hj;split at hj
  .simpa using hj
  .cases hj) (by rw[tH];omega) (λv hv=>uT v (Sd hv))
 have Wi:c1.size=cells.size:=by have:=congrArg F q2;simp only[de,dJ,fJ,om,tH]at this;rw[this];rw[fJ,dJ,om]at tH;omega
 obtain⟨w2,c2,NQ,q3,q4⟩:=HV (P:=ag) (w:=w1) (dT:=32) (sT:=32) u32 u (g:=g) (o:=i*4) (dl:=n+1-i) (m:=1) (sl:=1) (a:=⟨A,ov,aq⟩) (vs:=vs) E.this (by simp only[LV];split<;>omega) (by rw[B,wk]) (λj v hj=>by rw[Addr.ji];have:=iV j v hj;unfold World.cell? at this ⊢;rw[E.other A gb];exact this) (by rw[B,Wi];omega) uU;have hov:∀lb cb,(callFunc 180 #[.slice (J ⟨A,ov,aq⟩) 1 vc,.slice (J ⟨g,(i+1)*4,aq⟩) lb cb]).run ag w=.ok (.value (.bool au)) w:=λlb cb=>by
  rw[run_callFunc_extern Tryz.func180 bX bX bX (e:=Extern.SlicesOverlaps.overlaps #[32,32] #[4]) bX,
   atm w 32 4 46 u32 4 (λw=>by simp[sizeOf,typeInfo,u,wk]) ⟨A,ov,aq⟩ ⟨g,(i+1)*4,aq⟩ 1 vc lb cb gb tA e kA cells.size f (by unfold World.shape?;rw[hg]) ?_ af (λj=>by rw[we hg];exact BY j) O]
  .rfl
  .intro q;subst q;have h0:=iV 0 _ (aY af);unfold World.shape? at f;unfold World.cell? at h0;split at f
   .rename_i c e z D;simp only[d_,dz]at f;rw[D]at h0;simp only at h0;rw[KX af]at h0;cases h0
   .cases f
 have mixed:ag.follows .mixedOrders=aa:=Eg.mixed;have u0:=run_underlying xv;have Ji:¬((1:Int)=0):=by omega
 have qA:¬((i:Int)=(n:Int)):=by omega
 have OO:IntKind.i64.wrap ((i:Int)+1)=(i:Int)+1:=by rw[IntKind.wrap_i64];omega
 have rR:IntKind.i64.wrap ((n:Int)+1)=(n:Int)+1:=by rw[IntKind.wrap_i64];omega
 have qp:(0:Int)<=(i:Int)+1:=by omega
 have mg:i<=n:=by omega
 have OI:((i:Int)+1).toNat=i+1:=by omega
 have mC:¬(c=i+1):=by omega
 have xS:(i:Int)<=(n:Int)+1:=by omega
 have Ca:¬(c=i):=by omega
 have hJ:(ag.info? 46).map (·.size)=J 4:=by rw[u];simp[wk]
 have zW:∃ea,lM w w2 g (.cells ea e (0,0))/\ea.size=cells.size/\ea.toList.take ((n+1)*4)=cells.toList.take (i*4)++vs++(cells.toList.take (n*4)).drop (i*4):=by
  refine⟨c2,⟨q3.os.trans E.os,q3.tape.trans E.tape,q3.output.trans E.output,q3.size.trans E.size,λk hk=>(q3.other k hk).trans (E.other k hk),q3.this⟩,?_,?_⟩
  .have:=congrArg F q4;simp only[de,dJ,fJ,om,B]at this;omega
  .rw[q4,B,(af:(n+1)*4=n*4+4)];refine alC (by rw[om];omega) af B O ?_;rw[q2,(af:(i+1)*4=i*4+4)]
 clear E q2 q3 q4 hg f iV uU uT
 go_enter azJ,azL
 go_wp2_with (simp only[hov])
 go_region_law (refine step_copy_runI O _ _ 32 32 O _ _ (by simp[Act.eval,Act.put]) (by simp[Act.eval,Act.put]) (NP _ _ _) ?_)
 go_wp2_with (at_builtin;refine wpList_copy_runI _ O _ _ 32 32 O _ _ O O (NQ _ _ _) ?_)
 go_ret
 exact⟨O,zW⟩
def als(w w':b_)(e:Option Addr)(n c o:Nat)(a:Addr)(u:aQ)(hn:n<=c)(f:∀ty,(Builtin.append_ #[32,32] ty #[.slice e n c,.slice (J a) 1 o]).run ag w=.ok u w'):
 Calls ag 116 #[.slice e n c,.int .i64 n,.slice (J a) 1 o] w λr A=>r=.returned u/\A=w':=by
 have v:ag.follows .mixedOrders=aa:=Eg.mixed;have u0:=run_underlying xv;obtain⟨inf,i,j,-,-⟩:=alq;have D:(ag.info? 46).map (·.size)=J 4:=by rw[i];simp[j]
 have E:¬((1:Int)=0):=by omega
 go_enter azJ,azL
 cases e with
 |none=>
  go_wp2_with (at_builtin;refine Lib.wpList_append_run _ O _ _ _ _ O _ _ O O _ _ (f _) ?_)
  all_goals (go_ret;exact⟨O,O⟩)
 |some a0=>
  obtain⟨ab,ao,B⟩:=a0
  go_wp2_with (at_builtin;refine Lib.wpList_append_run _ O _ _ _ _ O _ _ O O _ _ (f _) ?_)
  all_goals (go_ret;exact⟨O,O⟩)
def alt(w:b_)(g n c i gv ov vc:Nat)(cells:Array aQ)(e:aO)(hg:w.heap[g]?=J (.cells cells e (0,0)))(hi:i<n)(hnc:n<=c)(Fz:c<n+1)(hb:n<1000000)(jr:n*4<=cells.size)(vs:List aQ)(E:F vs=4)(iV:∀j v,vs[j]?=J v->w.cell? ⟨gv,ov+j,aq⟩=J v)(uU:∀v∈vs,mY v=aa)(uT:∀v∈cells.toList.take (n*4),mY v=aa):
 Calls ag 116 #[.slice (J ⟨g,0,aq⟩) n c,.int .i64 i,.slice (J ⟨gv,ov,aq⟩) 1 vc] w λr w'=>∃c2 N c0 ea,r=.returned (.slice (J ⟨w.heap.size,0,aq⟩) (n+1) c2)/\n+1<=c2/\lM {w with drawn:=N,heap:=w.heap.push (.cells c0 46)} w' w.heap.size (.cells ea 46 (0,0))/\ea.size=c2*4/\ea.toList.take ((n+1)*4)=cells.toList.take (i*4)++vs++(cells.toList.take (n*4)).drop (i*4):=by
 obtain⟨inf,D,wk,xX,z,hz,Jj⟩:=alq;have u32:=xv;have fw:F (cells.toList.take (n*4))=n*4:=by rw[dJ,om];omega
 have tH:F ((cells.toList.take (n*4)).drop (i*4))=(n-i)*4:=by rw[fJ,fw];omega
 have hcn:c=n:=by omega
 subst hcn;have hold:(Builtin.firstCells inf.size i (.slice (J ⟨g,0,aq⟩) i c)).run ag w.drew=.ok (cells.toList.take (i*4)).toArray w.drew:=by
  have:=run_loadCells_list (P:=ag) w.drew ⟨g,0,aq⟩ (cells.toList.take (i*4)) (λj v A=>by
   rw[Addr.ji,cell_of (w:=w.drew) hg];simp only[o0]at A;split at A
   .simpa using A
   .cases A)
  rw[show(F (cells.toList.take (i*4)))=i*inf.size by rw[dJ,om,wk];omega]at this;exact this
 have IA:=Lib.run_append_grow_zeros (P:=ag) w 32 3 32 46 inf z .i64 .i64 u32 rG D hz (J ⟨g,0,aq⟩) i c (cells.toList.take (i*4)) hold (c+1-i) af af af af (by have:=kL (af:c+1-i<=1000001) xX;omega) (by have:=growslice_fits (bytes:=inf.bytes) (af:c<i+(c+1-i)) (by have:=kL (af:i+(c+1-i)<=1000001) xX;omega);omega);rw[(af:i+(c+1-i)=c+1)]at IA;obtain⟨u,zK⟩:∃u,u=grownCap w (c+1) c 46:=⟨_,O⟩;have ajK:c+1<=u:=by rw[zK];exact grownCap_ge w _ _ _
 have axY:u<=9223372036854775807:=by have:=grownCap_le_maxLen w (c+1) c 46 (by unfold maxLen;omega);rw[<-zK]at this;unfold maxLen at this;omega
 rw[<-zK]at IA;obtain⟨f,B⟩:∃f:Array aQ,f=(cells.toList.take (i*4)).toArray++Builtin.zeroCells z.cells (c+1-i)++Builtin.zeroCells z.cells (u-(c+1)):=⟨_,O⟩;rw[<-B]at IA;have VS:f.size=u*4:=by rw[B];simp only[Lb,acP,Q5,Jj,dJ,om];omega
 have VT:f.toList.take (i*4)=cells.toList.take (i*4):=by rw[B];simp only[A1];rw[jx];exact vP (by rw[dJ,om];omega)
 obtain⟨W1,Iy⟩:∃W1,W1=(w.alloc (.cells f 46)).drew:=⟨_,O⟩;have VY:W1.heap[w.heap.size]?=J (.cells f 46 (0,0)):=by rw[Iy];show(w.heap.push _)[w.heap.size]?=_;rw[RB,aH O]
 have Nz:∀k,k<w.heap.size->W1.heap[k]?=w.heap[k]?:=λk hk=>by rw[Iy];show(w.heap.push _)[k]?=_;rw[RB,aV af]
 have hgs:=pO hg;have OK:gv<w.heap.size:=block_lt_of_cell (iV 0 _ (aY af));obtain⟨w1,c1,NP,q1,q2⟩:=HV (P:=ag) (w:=W1) (dT:=32) (sT:=32) u32 D (g:=w.heap.size) (o:=i*4) (dl:=c+1-i) (m:=1) (sl:=1) (a:=⟨gv,ov,aq⟩) (vs:=vs) VY (by simp only[LV];split<;>omega) (by rw[E,wk]) (λj v A=>by rw[Addr.ji];have:=iV j v A;unfold World.cell? at this ⊢;rw[Nz gv OK];exact this) (by rw[E,VS];omega) uU;have Wi:c1.size=f.size:=by have:=congrArg F q2;simp only[de,dJ,fJ,om,E]at this;omega
 have N1:w1.heap[g]?=J (.cells cells e (0,0)):=by rw[q1.other g af,Nz g hgs];exact hg
 obtain⟨w2,c2,NQ,q3,q4⟩:=HV (P:=ag) (w:=w1.drew) (dT:=32) (sT:=32) u32 D (g:=w.heap.size) (o:=(i+1)*4) (dl:=c-i) (m:=c-i) (sl:=c-i) (a:=⟨g,i*4,aq⟩) (vs:=(cells.toList.take (c*4)).drop (i*4)) (q1.this:w1.drew.heap[_]?=_) (by simp only[LV];split<;>omega) (by rw[tH,wk]) (λj v A=>by
  rw[Addr.ji,cell_of (w:=w1.drew) N1];rw[rD,o0]at A;split at A
  .simpa using A
  .cases A) (by rw[tH];omega) (λv hv=>uT v (Sd hv))
 have mixed:ag.follows .mixedOrders=aa:=Eg.mixed;have u0:=run_underlying xv;have Ji:¬((1:Int)=0):=by omega
 have qA:¬((i:Int)=(c:Int)):=by omega
 have hz3:(c:Int)<(c:Int)+1:=by omega
 have OO:IntKind.i64.wrap ((i:Int)+1)=(i:Int)+1:=by rw[IntKind.wrap_i64];omega
 have rR:IntKind.i64.wrap ((c:Int)+1)=(c:Int)+1:=by rw[IntKind.wrap_i64];omega
 have hw3:IntKind.i64.wrap ((c:Int)+1-(i:Int))=((c+1-i:Nat):Int):=by rw[IntKind.wrap_i64];omega
 have IP:(c:Int)+1-(i:Int)=((c+1-i:Nat):Int):=by omega
 have qp:(0:Int)<=(i:Int)+1:=by omega
 have mg:i<=c:=by omega
 have OI:((i:Int)+1).toNat=i+1:=by omega
 have hGi:¬(u=i):=by omega
 have axZ:¬(u=i+1):=by omega
 have zS:¬(c=i):=by omega
 have xS:(i:Int)<=(c:Int):=by omega
 have hJ:(ag.info? 46).map (·.size)=J 4:=by rw[D];simp[wk]
 have zW:∃c3 N c0 ea,(.returned (.slice (J ⟨w.heap.size,0,aq⟩) (c+1) u):Ending)=.returned (.slice (J ⟨w.heap.size,0,aq⟩) (c+1) c3)/\c+1<=c3/\lM {w with drawn:=N,heap:=w.heap.push (.cells c0 46)} w2 w.heap.size (.cells ea 46 (0,0))/\ea.size=c3*4/\ea.toList.take ((c+1)*4)=cells.toList.take (i*4)++vs++(cells.toList.take (c*4)).drop (i*4):=by
  subst Iy;refine⟨u,w.drew.drawn,f,c2,O,ajK,⟨q3.os.trans q1.os,q3.tape.trans q1.tape,q3.output.trans q1.output,q3.size.trans q1.size,λk hk=>(q3.other k hk).trans (q1.other k hk),q3.this⟩,?_,?_⟩
  .have:=congrArg F q4;simp only[de,dJ,fJ,om,tH]at this;omega
  .rw[q4,tH];have e1:c1.toList.take ((i+1)*4)=cells.toList.take (i*4)++vs:=(by rw[q2,VT];exact vP (by simp only[de,dJ,om,E];omega));rw[e1];exact vP (by simp only[de,dJ,fJ,om,E];omega)
 clear q1 q2 q3 q4 hg iV uU uT VT B hold VY Nz N1 zK VS;subst Iy
 go_enter azJ,azL
 go_wp2_with (first
  |(at_builtin;refine Lib.wpList_append_run _ O _ _ _ _ O _ _ O O _ _ (IA) ?_)
  |(at_builtin;refine wpList_copy_runI _ O _ _ 32 32 O _ _ O O (NP _ _ _) ?_))
 go_region_law (refine step_copy_runI O _ _ 32 32 O (.slice (J ⟨w.heap.size,(i+1)*4,aq⟩) (c-i) (u-(i+1))) (.slice (J ⟨g,i*4,aq⟩) (c-i) (c-i)) (by simp[Act.eval,Act.put]) (by simp[Act.eval,Act.put]) (NQ _ _ _) ?_)
 go_wp2
 go_ret
 exact zW
section
open Go renaming kk48->Q75,kk2->Q76
def XK:∃i,ag.info? 48=J i/\i.size=2/\i.bytes<=64/\∃z,i.zero=J z/\z.cells.size=2:=ZS16
end
def aly(w:b_)(g n c i A ov vc:Nat)(cells:Array aQ)(e:aO)(hg:w.heap[g]?=J (.cells cells e (0,0)))(hi:i<n)(Fz:n+1<=c)(rO:n<1000000)(jr:c*2<=cells.size)(gb:A≠g)(vs:List aQ)(B:F vs=2)(iV:∀j v,vs[j]?=J v->w.cell? ⟨A,ov+j,aq⟩=J v)(uU:∀v∈vs,mY v=aa)(uT:∀v∈cells.toList.take (n*2),mY v=aa)(tA:aO)(kA:Nat)(f:w.shape? A=J (tA,kA)):
 Calls ag 120 #[.slice (J ⟨g,0,aq⟩) n c,.int .i64 i,.slice (J ⟨A,ov,aq⟩) 1 vc] w λr w'=>r=.returned (.slice (J ⟨g,0,aq⟩) (n+1) c)/\
  ∃ea,lM w w' g (.cells ea e (0,0))/\ea.size=cells.size/\ea.toList.take ((n+1)*2)=cells.toList.take (i*2)++vs++(cells.toList.take (n*2)).drop (i*2):=by
 obtain⟨inf,u,wk,-,-⟩:=XK;have u33:=uC;have fw:F (cells.toList.take (n*2))=n*2:=by rw[dJ,om];omega
 have tH:F ((cells.toList.take (n*2)).drop (i*2))=(n-i)*2:=by rw[fJ,fw];omega
 obtain⟨w1,c1,NP,E,q2⟩:=HV (P:=ag) (w:=w.drew) (dT:=33) (sT:=33) u33 u (g:=g) (o:=(i+1)*2) (dl:=n-i) (m:=n-i) (sl:=n+1-i) (a:=⟨g,i*2,aq⟩) (vs:=(cells.toList.take (n*2)).drop (i*2)) (hg:w.drew.heap[g]?=_) (by simp only[LV];split<;>omega) (by rw[tH,wk]) (λj v hj=>by
  rw[Addr.ji,cell_of (w:=w.drew) hg];rw[rD,o0]at hj;split at hj
  .simpa using hj
  .cases hj) (by rw[tH];omega) (λv hv=>uT v (Sd hv))
 have Wi:c1.size=cells.size:=by have:=congrArg F q2;simp only[de,dJ,fJ,om,tH]at this;rw[this];rw[fJ,dJ,om]at tH;omega
 obtain⟨w2,c2,NQ,q3,q4⟩:=HV (P:=ag) (w:=w1) (dT:=33) (sT:=33) u33 u (g:=g) (o:=i*2) (dl:=n+1-i) (m:=1) (sl:=1) (a:=⟨A,ov,aq⟩) (vs:=vs) E.this (by simp only[LV];split<;>omega) (by rw[B,wk]) (λj v hj=>by rw[Addr.ji];have:=iV j v hj;unfold World.cell? at this ⊢;rw[E.other A gb];exact this) (by rw[B,Wi];omega) uU;have hov:∀lb cb,(callFunc 182 #[.slice (J ⟨A,ov,aq⟩) 1 vc,.slice (J ⟨g,(i+1)*2,aq⟩) lb cb]).run ag w=.ok (.value (.bool au)) w:=λlb cb=>by
  rw[run_callFunc_extern Tryz.func182 bX bX bX (e:=Extern.SlicesOverlaps.overlaps #[33,33] #[4]) bX,
   atm w 33 4 48 u33 2 (λw=>by simp[sizeOf,typeInfo,u,wk]) ⟨A,ov,aq⟩ ⟨g,(i+1)*2,aq⟩ 1 vc lb cb gb tA e kA cells.size f (by unfold World.shape?;rw[hg]) ?_ af (λj=>by rw[we hg];exact BY j) O]
  .rfl
  .intro q;subst q;have h0:=iV 0 _ (aY af);unfold World.shape? at f;unfold World.cell? at h0;split at f
   .rename_i c e z D;simp only[d_,dz]at f;rw[D]at h0;simp only at h0;rw[KX af]at h0;cases h0
   .cases f
 have mixed:ag.follows .mixedOrders=aa:=Eg.mixed;have u0:=run_underlying uC;have Ji:¬((1:Int)=0):=by omega
 have qA:¬((i:Int)=(n:Int)):=by omega
 have OO:IntKind.i64.wrap ((i:Int)+1)=(i:Int)+1:=by rw[IntKind.wrap_i64];omega
 have rR:IntKind.i64.wrap ((n:Int)+1)=(n:Int)+1:=by rw[IntKind.wrap_i64];omega
 have qp:(0:Int)<=(i:Int)+1:=by omega
 have mg:i<=n:=by omega
 have OI:((i:Int)+1).toNat=i+1:=by omega
 have mC:¬(c=i+1):=by omega
 have xS:(i:Int)<=(n:Int)+1:=by omega
 have Ca:¬(c=i):=by omega
 have hJ:(ag.info? 48).map (·.size)=J 2:=by rw[u];simp[wk]
 have zW:∃ea,lM w w2 g (.cells ea e (0,0))/\ea.size=cells.size/\ea.toList.take ((n+1)*2)=cells.toList.take (i*2)++vs++(cells.toList.take (n*2)).drop (i*2):=by
  refine⟨c2,⟨q3.os.trans E.os,q3.tape.trans E.tape,q3.output.trans E.output,q3.size.trans E.size,λk hk=>(q3.other k hk).trans (E.other k hk),q3.this⟩,?_,?_⟩
  .have:=congrArg F q4;simp only[de,dJ,fJ,om,B]at this;omega
  .rw[q4,B,(af:(n+1)*2=n*2+2)];refine alC (by rw[om];omega) af B O ?_;rw[q2,(af:(i+1)*2=i*2+2)]
 clear E q2 q3 q4 hg f iV uU uT
 go_enter azK,azM
 go_wp2_with (simp only[hov])
 go_region_law (refine step_copy_runI O _ _ 33 33 O _ _ (by simp[Act.eval,Act.put]) (by simp[Act.eval,Act.put]) (NP _ _ _) ?_)
 go_wp2_with (at_builtin;refine wpList_copy_runI _ O _ _ 33 33 O _ _ O O (NQ _ _ _) ?_)
 go_ret
 exact⟨O,zW⟩
def alw(w w':b_)(e:Option Addr)(n c o:Nat)(a:Addr)(u:aQ)(hn:n<=c)(f:∀ty,(Builtin.append_ #[33,33] ty #[.slice e n c,.slice (J a) 1 o]).run ag w=.ok u w'):
 Calls ag 120 #[.slice e n c,.int .i64 n,.slice (J a) 1 o] w λr A=>r=.returned u/\A=w':=by
 have v:ag.follows .mixedOrders=aa:=Eg.mixed;have u0:=run_underlying uC;obtain⟨inf,i,j,-,-⟩:=XK;have D:(ag.info? 48).map (·.size)=J 2:=by rw[i];simp[j]
 have E:¬((1:Int)=0):=by omega
 go_enter azK,azM
 cases e with
 |none=>
  go_wp2_with (at_builtin;refine Lib.wpList_append_run _ O _ _ _ _ O _ _ O O _ _ (f _) ?_)
  all_goals (go_ret;exact⟨O,O⟩)
 |some a0=>
  obtain⟨ab,ao,B⟩:=a0
  go_wp2_with (at_builtin;refine Lib.wpList_append_run _ O _ _ _ _ O _ _ O O _ _ (f _) ?_)
  all_goals (go_ret;exact⟨O,O⟩)
def alx(w:b_)(g n c i gv ov vc:Nat)(cells:Array aQ)(e:aO)(hg:w.heap[g]?=J (.cells cells e (0,0)))(hi:i<n)(hnc:n<=c)(Fz:c<n+1)(hb:n<1000000)(jr:n*2<=cells.size)(vs:List aQ)(E:F vs=2)(iV:∀j v,vs[j]?=J v->w.cell? ⟨gv,ov+j,aq⟩=J v)(uU:∀v∈vs,mY v=aa)(uT:∀v∈cells.toList.take (n*2),mY v=aa):
 Calls ag 120 #[.slice (J ⟨g,0,aq⟩) n c,.int .i64 i,.slice (J ⟨gv,ov,aq⟩) 1 vc] w λr w'=>∃c2 N c0 ea,r=.returned (.slice (J ⟨w.heap.size,0,aq⟩) (n+1) c2)/\n+1<=c2/\lM {w with drawn:=N,heap:=w.heap.push (.cells c0 48)} w' w.heap.size (.cells ea 48 (0,0))/\ea.size=c2*2/\ea.toList.take ((n+1)*2)=cells.toList.take (i*2)++vs++(cells.toList.take (n*2)).drop (i*2):=by
 obtain⟨inf,D,wk,xX,z,hz,Jj⟩:=XK;have u33:=uC;have fw:F (cells.toList.take (n*2))=n*2:=by rw[dJ,om];omega
 have tH:F ((cells.toList.take (n*2)).drop (i*2))=(n-i)*2:=by rw[fJ,fw];omega
 have hcn:c=n:=by omega
 subst hcn;have hold:(Builtin.firstCells inf.size i (.slice (J ⟨g,0,aq⟩) i c)).run ag w.drew=.ok (cells.toList.take (i*2)).toArray w.drew:=by
  have:=run_loadCells_list (P:=ag) w.drew ⟨g,0,aq⟩ (cells.toList.take (i*2)) (λj v A=>by
   rw[Addr.ji,cell_of (w:=w.drew) hg];simp only[o0]at A;split at A
   .simpa using A
   .cases A)
  rw[show(F (cells.toList.take (i*2)))=i*inf.size by rw[dJ,om,wk];omega]at this;exact this
 have IA:=Lib.run_append_grow_zeros (P:=ag) w 33 3 33 48 inf z .i64 .i64 u33 rG D hz (J ⟨g,0,aq⟩) i c (cells.toList.take (i*2)) hold (c+1-i) af af af af (by have:=kL (af:c+1-i<=1000001) xX;omega) (by have:=growslice_fits (bytes:=inf.bytes) (af:c<i+(c+1-i)) (by have:=kL (af:i+(c+1-i)<=1000001) xX;omega);omega);rw[(af:i+(c+1-i)=c+1)]at IA;obtain⟨u,zK⟩:∃u,u=grownCap w (c+1) c 48:=⟨_,O⟩;have ajK:c+1<=u:=by rw[zK];exact grownCap_ge w _ _ _
 have axY:u<=9223372036854775807:=by have:=grownCap_le_maxLen w (c+1) c 48 (by unfold maxLen;omega);rw[<-zK]at this;unfold maxLen at this;omega
 rw[<-zK]at IA;obtain⟨f,B⟩:∃f:Array aQ,f=(cells.toList.take (i*2)).toArray++Builtin.zeroCells z.cells (c+1-i)++Builtin.zeroCells z.cells (u-(c+1)):=⟨_,O⟩;rw[<-B]at IA;have VS:f.size=u*2:=by rw[B];simp only[Lb,acP,Q5,Jj,dJ,om];omega
 have VT:f.toList.take (i*2)=cells.toList.take (i*2):=by rw[B];simp only[A1];rw[jx];exact vP (by rw[dJ,om];omega)
 obtain⟨W1,Iy⟩:∃W1,W1=(w.alloc (.cells f 48)).drew:=⟨_,O⟩;have VY:W1.heap[w.heap.size]?=J (.cells f 48 (0,0)):=by rw[Iy];show(w.heap.push _)[w.heap.size]?=_;rw[RB,aH O]
 have Nz:∀k,k<w.heap.size->W1.heap[k]?=w.heap[k]?:=λk hk=>by rw[Iy];show(w.heap.push _)[k]?=_;rw[RB,aV af]
 have hgs:=pO hg;have OK:gv<w.heap.size:=block_lt_of_cell (iV 0 _ (aY af));obtain⟨w1,c1,NP,q1,q2⟩:=HV (P:=ag) (w:=W1) (dT:=33) (sT:=33) u33 D (g:=w.heap.size) (o:=i*2) (dl:=c+1-i) (m:=1) (sl:=1) (a:=⟨gv,ov,aq⟩) (vs:=vs) VY (by simp only[LV];split<;>omega) (by rw[E,wk]) (λj v A=>by rw[Addr.ji];have:=iV j v A;unfold World.cell? at this ⊢;rw[Nz gv OK];exact this) (by rw[E,VS];omega) uU;have Wi:c1.size=f.size:=by have:=congrArg F q2;simp only[de,dJ,fJ,om,E]at this;omega
 have N1:w1.heap[g]?=J (.cells cells e (0,0)):=by rw[q1.other g af,Nz g hgs];exact hg
 obtain⟨w2,c2,NQ,q3,q4⟩:=HV (P:=ag) (w:=w1.drew) (dT:=33) (sT:=33) u33 D (g:=w.heap.size) (o:=(i+1)*2) (dl:=c-i) (m:=c-i) (sl:=c-i) (a:=⟨g,i*2,aq⟩) (vs:=(cells.toList.take (c*2)).drop (i*2)) (q1.this:w1.drew.heap[_]?=_) (by simp only[LV];split<;>omega) (by rw[tH,wk]) (λj v A=>by
  rw[Addr.ji,cell_of (w:=w1.drew) N1];rw[rD,o0]at A;split at A
  .simpa using A
  .cases A) (by rw[tH];omega) (λv hv=>uT v (Sd hv))
 have mixed:ag.follows .mixedOrders=aa:=Eg.mixed;have u0:=run_underlying uC;have Ji:¬((1:Int)=0):=by omega
 have qA:¬((i:Int)=(c:Int)):=by omega
 have hz3:(c:Int)<(c:Int)+1:=by omega
 have OO:IntKind.i64.wrap ((i:Int)+1)=(i:Int)+1:=by rw[IntKind.wrap_i64];omega
 have rR:IntKind.i64.wrap ((c:Int)+1)=(c:Int)+1:=by rw[IntKind.wrap_i64];omega
 have hw3:IntKind.i64.wrap ((c:Int)+1-(i:Int))=((c+1-i:Nat):Int):=by rw[IntKind.wrap_i64];omega
 have IP:(c:Int)+1-(i:Int)=((c+1-i:Nat):Int):=by omega
 have qp:(0:Int)<=(i:Int)+1:=by omega
 have mg:i<=c:=by omega
 have OI:((i:Int)+1).toNat=i+1:=by omega
 have hGi:¬(u=i):=by omega
 have axZ:¬(u=i+1):=by omega
 have zS:¬(c=i):=by omega
 have xS:(i:Int)<=(c:Int):=by omega
 have hJ:(ag.info? 48).map (·.size)=J 2:=by rw[D];simp[wk]
 have zW:∃c3 N c0 ea,(.returned (.slice (J ⟨w.heap.size,0,aq⟩) (c+1) u):Ending)=.returned (.slice (J ⟨w.heap.size,0,aq⟩) (c+1) c3)/\c+1<=c3/\lM {w with drawn:=N,heap:=w.heap.push (.cells c0 48)} w2 w.heap.size (.cells ea 48 (0,0))/\ea.size=c3*2/\ea.toList.take ((c+1)*2)=cells.toList.take (i*2)++vs++(cells.toList.take (c*2)).drop (i*2):=by
  subst Iy;refine⟨u,w.drew.drawn,f,c2,O,ajK,⟨q3.os.trans q1.os,q3.tape.trans q1.tape,q3.output.trans q1.output,q3.size.trans q1.size,λk hk=>(q3.other k hk).trans (q1.other k hk),q3.this⟩,?_,?_⟩
  .have:=congrArg F q4;simp only[de,dJ,fJ,om,tH]at this;omega
  .rw[q4,tH];have e1:c1.toList.take ((i+1)*2)=cells.toList.take (i*2)++vs:=(by rw[q2,VT];exact vP (by simp only[de,dJ,om,E];omega));rw[e1];exact vP (by simp only[de,dJ,fJ,om,E];omega)
 clear q1 q2 q3 q4 hg iV uU uT VT B hold VY Nz N1 zK VS;subst Iy
 go_enter azK,azM
 go_wp2_with (first
  |(at_builtin;refine Lib.wpList_append_run _ O _ _ _ _ O _ _ O O _ _ (IA) ?_)
  |(at_builtin;refine wpList_copy_runI _ O _ _ 33 33 O _ _ O O (NP _ _ _) ?_))
 go_region_law (refine step_copy_runI O _ _ 33 33 O (.slice (J ⟨w.heap.size,(i+1)*2,aq⟩) (c-i) (u-(i+1))) (.slice (J ⟨g,i*2,aq⟩) (c-i) (c-i)) (by simp[Act.eval,Act.put]) (by simp[Act.eval,Act.put]) (NQ _ _ _) ?_)
 go_wp2
 go_ret
 exact zW
end Go.Proofs.YtcbhpkjbiehcpaaGreatDoor
end
section
namespace Go.AE
open Go.RowKit (Below)
def yg(z:Nat)(args:List V)(h:ah):Option (V × ah):=
 match args with
 | [.arr b f n n',.v (.int .i64 i),.ac _ s [row]]=>
  match h.I[b]? with
  |some e=>if f=0/\n'=n/\0<n/\n<1000000/\0<=i/\i<=n/\s=z/\F e=n*z then
   J (.arr (F h.I) 0 (n+1) (n+1),(h.put b []).push (e.take (i.toNat*z)++row++e.drop (i.toNat*z))) else aq
  |none=>aq
 | [.ac k _ [],.v (.int .i64 0),.ac _ s [row]]=>if (k=.nil∨k=.aP)/\s=z then J (.arr (F h.I) 0 1 1,h.push row) else aq
 |_=>aq
structure Lq(P:bL)(f t:Nat)(E:aO)(z:Nat):Prop where
 body:∃fn,P.funcs[f]?=J fn/\fn.body.isSome=aa
 pos:0<z
 KO:P.underlying t=J (.slice E)
 inf:∃i,P.info? E=J i/\i.size=z/\i.bytes<=64/\∃v,i.zero=J v/\v.cells.size=z
 shift:∀(w:b_) (g n c i gv ov vc:Nat) (cells:Array aQ) (e:aO) (_:w.heap[g]?=J (.cells cells e (0,0))) (_:i<n) (_:n+1<=c) (_:n<1000000) (_:c * z<=cells.size) (_:gv≠g) (vs:List aQ) (_:vs.length=z) (_:∀j v,vs[j]?=J v->w.cell? ⟨gv,ov+j,aq⟩=J v) (_:∀v∈vs,mY v=aa) (_:∀v∈cells.toList.take (n * z),mY v=aa) (tA:aO) (kA:Nat) (_:w.shape? gv=J (tA,kA)),
  Calls P f #[.slice (J ⟨g,0,aq⟩) n c,.int .i64 i,.slice (J ⟨gv,ov,aq⟩) 1 vc] w λr w'=>r=.returned (.slice (J ⟨g,0,aq⟩) (n+1) c)/\
   ∃ea,lM w w' g (.cells ea e (0,0))/\ea.size=cells.size/\ea.toList.take ((n+1) * z)=cells.toList.take (i * z)++vs++(cells.toList.take (n * z)).drop (i * z)
 fin:∀(w w':b_) (base:Option Addr) (n c vc:Nat) (a:Addr) (vr:aQ) (_:n<=c) (_:∀ty,(Builtin.append_ #[t,t] ty #[.slice base n c,.slice (J a) 1 vc]).run P w=.ok vr w'),
  Calls P f #[.slice base n c,.int .i64 n,.slice (J a) 1 vc] w λr w2=>r=.returned vr/\w2=w'
 grow:∀(w:b_) (g n c i gv ov vc:Nat) (cells:Array aQ) (e:aO) (_:w.heap[g]?=J (.cells cells e (0,0))) (_:i<n) (_:n<=c) (_:c<n+1) (_:n<1000000) (_:n * z<=cells.size) (vs:List aQ) (_:vs.length=z) (_:∀j v,vs[j]?=J v->w.cell? ⟨gv,ov+j,aq⟩=J v) (_:∀v∈vs,mY v=aa) (_:∀v∈cells.toList.take (n * z),mY v=aa),
  Calls P f #[.slice (J ⟨g,0,aq⟩) n c,.int .i64 i,.slice (J ⟨gv,ov,aq⟩) 1 vc] w λr w'=>∃c2 N c0 ea,r=.returned (.slice (J ⟨w.heap.size,0,aq⟩) (n+1) c2)/\n+1<=c2/\lM {w with drawn:=N,heap:=w.heap.push (.cells c0 E)} w' w.heap.size (.cells ea E (0,0))/\ea.size=c2 * z/\ea.toList.take ((n+1) * z)=cells.toList.take (i * z)++vs++(cells.toList.take (n * z)).drop (i * z)
section
variable {P:bL} {G:Nat->Option (List V)} {ok:a_->Nat->Code->Bool} {w0 w w':b_} {K:bA} {h:ah} {z:Nat}
def bZ.KV(s:bZ K G ok w0 h w){b g:Nat}(e:K.β[b]?=J g):g<w.heap.size:=by have f:=(bk.1 e).1;rw[s.jd]at f;obtain⟨-,-,-,cells,i,q,-⟩:=s.box b g _ e (aY f);exact pO q
def XN(s:bZ K G ok w0 h w){g n c2:Nat}{f:List V}{cells c0:Array aQ}{e e0:aO}{z0:Nat × Nat}(hg:K.base<=g)(xY:∀j,K.ic g j=aq)(i:∀b:Nat,K.β[b]?=J g->h.I[b]?=J [])
 (A:∀t,alive h t=aa->(K.tk t).1≠g) (B:w.heap[g]?=J (.cells c0 e0 z0)) (c:lM w w' g (.cells cells e (0,0))) (hz:0<z) (hl:F f=(n+1)*z) (hv:aR K f (cells.toList.take ((n+1)*z))) (D:f.all V.dt=aa) (hc2:n+1<=c2) (o:c2*z<=cells.size):
 ∃u,K.Le u/\aZ u (.arr (F h.I) 0 (n+1) (n+1)) (.slice (J ⟨g,0,aq⟩) (n+1) c2)/\bZ u G ok w0 (h.push f) w':=by
 obtain⟨s3,E⟩:=s.abA (g:=g) (cs:=f) (cells:=cells) (e:=e) hg xY i A B (J (n+1,z,cells.size)) (λN sz room q=>by injection q with q;injection q with q1 q;injection q with q2 q3;subst q1 q2 q3;exact .inr ⟨hl,bh _⟩) c (by rw[hl];exact hv) D;refine⟨_,K.Az _ _,.arr _ _ _ _ _ _ _ E (bh _) hc2 (.inl O) (.inr (.inr (.inr ⟨z,cells.size,?_,hz,o⟩))),s3⟩;have v:F h.I=F K.β:=s.jd.symm;simp only[bA.nw,v,if_true]
def Yx{k:Tok}{s:Nat}{row:List V}{c:aQ}(E:aZ K (.ac k s [row]) c):∃e f u vs,c=.slice (J ⟨e,f,aq⟩) 1 u/\F row=s/\aR K row vs/\(∀j v,vs[j]?=J v->K.ic e (f+j)=J v)/\row.all V.dt=aa:=by
 cases E with|ac _ _ _ e f m u vs A B o D htk i=>simp only[eZ,gi,Nat.zero_add]at A;subst A;simp only[kJ,List.flatten_nil,iB]at o i;exact⟨e,f,u,vs,O,B row gt,o,D,i⟩
def aes{b n:Nat}{c:aQ}(A:aZ K (.arr b 0 n n) c)(E:0<n):∃g e,c=.slice (J ⟨g,0,aq⟩) n e/\K.β[b]?=J g/\n<=e/\(e=n∨∃sz f,K.lb b=J (n,sz,f)/\0<sz/\e*sz<=f):=by
 cases A with
 |arr _ g _ _ _ i e B D j u v=>
  have o:i=0:=by rcases u with p|p<;>omega
  subst o;refine⟨g,e,O,B,j,?_⟩;rcases v with r|r|r|r
  .exact .inl r
  .omega
  .exact absurd O r
  .exact .inr r
def abD{f i j:V}{l:List aQ}(B:aR K [f,i,j] l):∃e c2 o,l=[e,c2,o]/\aZ K f e/\aZ K i c2/\aZ K j o:=by rcases B with _|⟨_,c0,_,_,v,_|⟨_,e,_,_,u,_|⟨_,c2,_,_,A,_|_⟩⟩⟩;exact⟨_,_,_,O,v,u,A⟩
def XM{f t:Nat}{E:aO}(o:Lq P f t E z)(z3:b_):lV P G z3 f (yg z):=by
 refine⟨o.body,λargs h x h' hx K w j hv v=>?_⟩;obtain⟨inf,WB,A,xX,v0,rk,hvz⟩:=o.inf;have Al:(inf.zero.map λz=>z.cells.size)=J inf.size:=by rw[rk,A];simp[hvz]
 unfold yg at hx;split at hx
 .rename_i b off n n' i k s row;split at hx
  .rename_i u jr;split at hx
   .rename_i hc;obtain⟨rfl,rfl,tI,rO,N2,mg,rfl,fw⟩:=hc;obtain⟨i,rfl⟩:=Int.eq_ofNat_of_zero_le N2;simp only[d_,dz]at hx;obtain⟨rfl,rfl⟩:=hx;have mg:i<=n':=(by omega);have hti:(i:Int).toNat=i:=fe i;rw[hti];obtain⟨j⟩:=j;obtain⟨c0,c1,c2,rfl,ha,Fi,hr⟩:=abD hv;cases Fi;have eS:=hr;have B_:=ha;obtain⟨gv,ov,vc,vs,rfl,mX,iV,OL,NL⟩:=Yx hr;obtain⟨g,c,rfl,hb,qs,ri⟩:=aes ha tI;have qy:F vs=s:=(by rw[<-iV.length,mX]);have uU:=yX iV NL;have ON:∀z1 z0,vs[z1]?=J z0->w.cell? ⟨gv,ov+z1,aq⟩=J z0:=λz1 z0 hj=>v.ic _ _ _ (OL z1 z0 hj);have ayb:(n'+1)*s=n' * s+s:=(by rw[jm,Nat.one_mul]);obtain⟨k1,k2,ka,cells,z2,k3,k4⟩:=v.box b g u hb jr;have gb:u≠[]:=λq=>(by subst q;have:=Nat.mul_pos tI o.pos;simp only[gi]at fw;omega);have Wg:=(bk.1 jr).1;have Fa:=v.UU b;have IV:F (h.put b []).I=F h.I:=(by simp[ah.put]);have IC:=k4.1;have jR:=k4.le;rw[fw]at IC jR;have uT:∀z0∈cells.toList.take (n' * s),mY z0=aa:=yX IC ka;have hgv:gv≠g:=λq=>(by subst q;have h0:=o.pos;have:=OL 0 _ (aY af);rw[k2]at this;cases this);by_cases zW:i=n'
    .subst zW;have OH:=GJ (P:=P) (t0:=t) (t1:=t) (h:=h) (b:=b) (len:=i) (cs:=u) (new:=[row]) (i:=inf) (x:=.ac k s [row]) o.KO o.KO WB (by rw[A];exact o.pos) Al cE (by have:=kL (show i+F [row]<=1000001 by simp;omega) xX;omega) (by simp;omega) jr tI (by rw[A];exact fw.symm) (by rw[A];exact CU);obtain⟨K',z0,w',le,s',e,x_⟩:=Ro (P:=P) (ty:=0) v OH B_ eS;have akM:∀ty,(Builtin.append_ #[t,t] ty #[.slice (J ⟨g,0,aq⟩) i c,.slice (J ⟨gv,ov,aq⟩) 1 vc]).run P w=.ok z0 w':=λty=>x_;refine Calls.mono (o.fin w w' _ i c vc _ z0 qs akM) ?_;rintro r w2 ⟨rfl,rfl⟩;refine⟨z0,K',O,le,e,?_⟩;rw[fK af,oo af,iB];simpa using s'
    .have e_:i<n':=(by omega);have WC:F (u.take (i*s)++row++u.drop (i*s))=(n'+1)*s:=(by have:=mR s mg;simp only[de,dJ,fJ,mX,fw];omega);have zN:(u.take (i*s)++row++u.drop (i*s)).all V.dt=aa:=(by rw[qP,qP,NL];simp only[bQ,ff]at ka ⊢;exact⟨⟨λx hx=>ka x (List.mem_of_mem_take hx),br⟩,λx hx=>ka x (Sd hx)⟩);have Xh:aR K (u.take (i*s)++row++u.drop (i*s)) (cells.toList.take (i*s)++vs++(cells.toList.take (n' * s)).drop (i*s)):=by
      refine((?_:aR K (u.take (i*s)) (cells.toList.take (i*s))).append iV).append (IC.drop _);have:=IC.take (i*s)
      rwa [Hi,Nat.min_eq_left (mR s mg)]at this
     rcases eg c (n'+1) with B|B
     .refine Calls.mono (o.grow w g n' c i gv ov vc cells z2 k3 e_ qs B rO jR vs qy ON uU uT) ?_;rintro r w2 ⟨c2,N,c0,ea,rfl,q1,q2,q3,q4⟩;have s1:=(Fa.drew N).push (.cells c0 E);obtain⟨K',le,e,s'⟩:=XN (h:=h.put b []) (z:=s) (n:=n') (c2:=c2) s1 (g:=w.heap.size) v.size (λz1=>by
       cases hq:K.ic w.heap.size z1 with
       |none=>rfl|some c=>have:=v.wD hq;omega) (λb2 mC=>by have:=v.KV mC;omega) (λt ht hq=>by obtain⟨-,-,-,c,z2,z,q,-⟩:=v.tok t ht;have:=pO q;omega) (by show(w.heap.push _)[w.heap.size]?=_;rw[RB,aH O]) q2 o.pos WC (by rw[q4];exact Xh) zN q1 (by rw[q3];exact bh _)
      rw[IV]at e;exact⟨_,K',O,le,e,s'⟩
     .rcases ri with r|⟨sz,room,r1,r2,r3⟩
      .omega
      .rcases k4.2 _ _ _ r1 with q|⟨q1,q2⟩
       .exact absurd q gb
       .have hJ:s=sz:=Nat.eq_of_mul_eq_mul_left tI (fw.symm.trans q1);subst hJ;have NU:c*s<=cells.size:=Nat.le_trans r3 q2;have h0:=ON 0 _ (aY (by have:=o.pos;omega));obtain⟨tA,kA,rQ⟩:∃tA kA,w.shape? gv=J (tA,kA):=by
         unfold World.cell? at h0;unfold World.shape?;split at h0
         .rename_i D;rw[D];exact⟨_,_,O⟩
         .cases h0
        refine Calls.mono (o.shift w g n' c i gv ov vc cells z2 k3 e_ B rO NU hgv vs qy ON uU uT tA kA rQ) ?_;rintro r w2 ⟨rfl,ea,p1,p2,p3⟩;obtain⟨K',le,e,s'⟩:=XN (h:=h.put b []) (z:=s) (n:=n') (c2:=c) Fa (g:=g) k1 k2 (λb2 mC=>by
         show(h.I.set b [])[b2]?=J [];rw[List.getElem?_set];by_cases nD:b=b2
         .subst nD;rw[aH O,aH Wg]
         .rw[aV nD];rcases v.nQ _ _ _ hb mC with p|p|p
          .exact absurd p nD
          .rw[jr]at p;injection p with p;exact absurd p gb
          .exact p) (λt ht hq=>by
         obtain⟨_,q,_⟩:=v.tok t ht;exact q b (by rw[hq];exact hb)) k3 p1 o.pos WC (by rw[p3];exact Xh) zN B (by rw[p2];exact NU)
        rw[IV]at e;exact⟨_,K',O,le,e,s'⟩
   .cases hx
  .cases hx
 .rename_i k s0 k2 s row;split at hx
  .rename_i hc;obtain⟨hk,rfl⟩:=hc;simp only[d_,dz]at hx;obtain⟨rfl,rfl⟩:=hx;obtain⟨j⟩:=j;obtain⟨c0,c1,c2,rfl,ha,Fi,hr⟩:=abD hv;cases Fi;have eS:=hr;obtain⟨gv,ov,vc,vs,rfl,mX,iV,OL,NL⟩:=Yx hr;have OH:=AT (P:=P) (t0:=t) (t1:=t) (h:=h) (k:=k) (sz:=s0) (es:=[]) (new:=[row]) (i:=inf) (x:=.ac k2 s [row]) o.KO o.KO WB (by rw[A];exact o.pos) Al cE (by simp;omega) cE (.inr O) hk (by rw[A];exact CU);obtain⟨c,rfl⟩:∃b,c0=.slice b 0 0:=by
    cases ha with
    |nil=>exact⟨_,O⟩|gH=>exact⟨_,O⟩|ac _ _ _ g off m ba cells hn Ah e hc' ht V0=>
     have h0:m=0:=(by simpa using hn);subst h0;rcases hk with rfl|rfl
     .exact ht.2.elim
     .have:=ht.2;simp only at this;subst this;exact⟨_,O⟩
   obtain⟨K',z0,w',le,s',e,x_⟩:=Ro (P:=P) (ty:=0) v OH ha eS;refine Calls.mono (o.fin w w' c 0 0 vc _ z0 (bh _) λty=>x_) ?_;rintro r w2 ⟨rfl,rfl⟩;exact⟨z0,K',O,le,e,by simpa using s'⟩
  .cases hx
 .cases hx
end
end Go.AE
end
section
namespace Go.Proofs.YtcbhpkjbiehcpaaGreatDoor
open Go.AE
def alr:Lq ag 116 32 46 4:=⟨⟨_,Tryz.func116,by kernel_rfl⟩,by decide,xv,alq,alu,als,alt⟩
def alv:Lq ag 120 33 48 2:=⟨⟨_,Tryz.func120,by kernel_rfl⟩,by decide,Tryz.underlying33,XK,aly,alw,alx⟩
def vi(g:a_):Option (List V->ah->Option (V × ah)):=if g=116 then J (yg 4) else if g=120 then J (yg 2) else aq
def OX{G}:∀e g p,vi g=some p->lV Tryz.prog G e g p:=by
 intro e g p h;unfold vi at h;split at h
 .rename_i q;subst q;injection h with h;subst h;exact XM alr e
 .split at h
  .rename_i q;subst q;injection h with h;subst h;exact XM alv e
  .cases h
end Go.Proofs.YtcbhpkjbiehcpaaGreatDoor
end
section
namespace Go.Proofs.YtcbhpkjbiehcpaaGreatDoor
open Go.AE Go.NT
def LC:List a_:=LB++[11,12,53,57,50,51,9]
noncomputable def nL:a_->Option (List V->ah->Option (V × ah)):=mF SB LC (λ_=>0) vi
noncomputable abbrev SC:=whole ag Gt nL
def xA:mN nL LC:=λg e=>⟨wC SB g,by unfold nL mF;rw[aH (by simpa using e)];rfl⟩
def rm{x}{k}{s}{es}(e:x=.ac k s es)(D:aA x=x)(h):et h x=x:=by subst e;rw[aA]at D;injection D with h1 h2 f;rw[et,h1]
def Jk(h):∀a b:List V,jb h (a++b)=jb h a++jb h b
 | [],_=>rfl
 |x::a,b=>by rw[eY,jb,Jk h a b];rfl
def ak7(h)(l:List UInt8):jb h (l.map gm)=l.map gm:=by
 induction l with
 |nil=>rfl|cons b l e=>show et h (gm b)::jb h (l.map gm)=_;rw[e];rfl
section
variable {c:Ce} {a:CA}
def MK(ok:c_ c a)(D:dS a)(h:ah):jb h (aD c a)=aD c a:=by obtain⟨E,s1,xs,e,-⟩:=ok.x.form;obtain⟨k2,s2,f,-⟩:=ok.y;obtain⟨k3,s3,i,-⟩:=ok.cm;obtain⟨k4,s4,j,-⟩:=ok.d.p;obtain⟨k5,s5,o,-⟩:=ok.d.r;obtain⟨k6,s6,u,-⟩:=ok.d.n;obtain⟨k7,s7,v,-⟩:=ok.w;obtain⟨k8,s8,A,-⟩:=ok.pa;obtain⟨k9,s9,B,-⟩:=ok.z;unfold aD aJ bH;rw[Jk,Jk,Jk,ak7];simp only[jb,rm e D.X,rm f D.Y,rm i D.C,rm j D.p,rm o D.r,rm u D.n,rm v D.W,rm A D.Pa,rm B D.Z];rfl
def tq(D:dS a):bE (aD c a)=aD c a:=by unfold aD aJ;rw[Ab,Ab,xF,D.p,D.r,D.n];simp only[bE,D.X,D.Y,D.C,D.W,D.Pa,D.Z];rfl
def pi(ok:c_ c a)(D:dS a):aM 0 0 0 (aD c a)=aa:=by obtain⟨h1,h2,u,e⟩:=CJ c.ep ok.x ok.y ok.cm;obtain⟨-,f⟩:=ok.d.hold;obtain⟨-,i⟩:=ok.w.hold;obtain⟨-,j⟩:=ok.pa.ip;obtain⟨-,o⟩:=ok.z.hold;rw[D.X,D.Y,D.C]at e;rw[D.p,D.r,D.n]at f;rw[D.W]at i;rw[D.Pa]at j;rw[D.Z]at o;unfold aD;rw[If,If,e,f];simp[aM,i,j,o]
def xV:dS a0:=⟨O,O,O,O,O,O,O,O,O⟩
def PI(D:dS a):dS (jk c a):=by
 unfold jk;split
 .exact⟨D.X,D.Y,D.C,D.p,D.r,D.n,D.W,O,O⟩
 .exact xV
def aep(D:dS a):bE [.agg (aJ c.ep a.X a.Y a.C),.agg (bH c.doc a.p a.r a.n),a.W]=[.agg (aJ c.ep a.X a.Y a.C),.agg (bH c.doc a.p a.r a.n),a.W]:=by
 have e:bE (aJ c.ep a.X a.Y a.C)=aJ c.ep a.X a.Y a.C:=by unfold aJ;simp only[bE,D.X,D.Y,D.C];rfl
 have f:bE (bH c.doc a.p a.r a.n)=bH c.doc a.p a.r a.n:=by rw[xF,D.p,D.r,D.n]
 simp only[bE,aA,e,f,D.W]
def aeo(ok:c_ c a)(D:dS a):aM 0 0 0 [.agg (aJ c.ep a.X a.Y a.C),.agg (bH c.doc a.p a.r a.n),a.W]=aa:=by obtain⟨h1,h2,j,e⟩:=CJ c.ep ok.x ok.y ok.cm;obtain⟨-,f⟩:=ok.d.hold;obtain⟨-,i⟩:=ok.w.hold;rw[D.X,D.Y,D.C]at e;rw[D.p,D.r,D.n]at f;rw[D.W]at i;simp[aM,aK,e,f,i]
def ZS20{p:Prop}(h:p:=by
 obtain⟨_,_,q,rfl⟩:=Q99 ⟨[],[],0,[]⟩ c a ok (anL ok D e);refine cy.AC (L:=LC) q O (aep D) (aeo ok D) ?_ ?_
 .simp only[et,jb,MK (yn ok) (PI D)];rfl
 .simp[aK,aM,pi (yn ok) (PI D),im]):p:=h
section
open Go.Proofs.YtcbhpkjbiehcpaaGreatDoor renaming ayU->Q99
def X9(ok:c_ c a)(D:dS a)(e:c.Fit):cy SC 11 [.agg (aJ c.ep a.X a.Y a.C),.agg (bH c.doc a.p a.r a.n),a.W] (.tuple [.agg (aD (jI c) (jk c a)),im c.eC]):=ZS20
end
section
open Go.Proofs.YtcbhpkjbiehcpaaGreatDoor renaming azm->Q99
def al8(ok:c_ c a)(D:dS a)(e:c.Fit):cy SC 12 [.agg (aJ c.ep a.X a.Y a.C),.agg (bH c.doc a.p a.r a.n),a.W] (.tuple [.agg (aD (jI c) (jk c a)),im c.eC]):=ZS20
end
def P9(p):bE (bB p)=bB p:=rfl
def al9(ok:c_ c a)(D:dS a)(hw:F c.am<=1000000)(e:qO c.am)(p:Pr):cy SC 53 [.agg (aD c a),.agg (bB p)] (.v (.bool (oS c.am p))):=by obtain⟨_,_,q,rfl⟩:=asn ok D hw e ⟨[],[],0,[]⟩ p;exact cy.AC (L:=LC) q O (by simp only[bE,aA,tq D,P9]) (by simp only[aM,aK,pi ok D];rfl) O rfl
def ama(ok:c_ c a)(D:dS a)(hw:F c.am<=1000000)(e:qO c.am)(p:Int × Int):cy SC 57 [.agg (aD c a),.agg (bI p)] (.v (.bool (oT c.am p))):=by obtain⟨_,_,q,rfl⟩:=aso ok D hw e ⟨[],[],0,[]⟩ p;exact cy.AC (L:=LC) q O (by simp only[bE,aA,tq D];rfl) (by simp only[aM,aK,pi ok D];rfl) O rfl
end
abbrev pz00:Pr:=⟨0,0,0,0⟩
def ap7:Tryz.f179.results.toList=[.tmp 2]:=by kernel_rfl
def Qk:Tryz.f115.results.toList=[.tmp 4]:=by kernel_rfl
def aqe:Tryz.f55.results.toList=[.tmp 2]:=by kernel_rfl
def ay2:Tryz.f114.results.toList=[.tmp 5]:=by kernel_rfl
def ay1:Tryz.f113.results.toList=[.tmp 6,.tmp 7]:=by kernel_rfl
def YS(n:Int)(h:ah):SC.call 179 [((n:Int):V)] h=J (.ret (au:V),h):=by
 have e:decide (n=n)=aa:=by simp
 refine da O Tryz.func179 O ?_;exact iU @ap7
def xD(a b:Int):Int:=if a<b then -1 else if b<a then 1 else 0
def agT(a b:Int)(h:ah):SC.call 115 [((a:Int):V),((b:Int):V)] h=J (.ret ((xD a b:Int):V),h):=by
 have e:=YS a h;have f:=YS b h;unfold xD;by_cases h1:a<b
 .rw[aH h1];have d1:decide (a<b)=aa:=cD h1;refine da O SP O ?_;exact iU @Qk
 .rw[aV h1];have d1:decide (a<b)=au:=cR h1;by_cases h2:b<a
  .rw[aH h2];have d2:decide (a>b)=aa:=cD h2;refine da O SP O ?_;exact iU @Qk
  .rw[aV h2];have d2:decide (a>b)=au:=cR h2;refine da O SP O ?_;exact iU @Qk
def ayV(p:Pr)(h:ah):SC.call 55 [.agg (bB p)] h=J (.ret ((p.bN:Int):V),h.push (bB p)):=by
 have e:=JL p;have L:=O9 (aU h (bB p));have i:=U2;generalize bB p=f at *
 unfold im at *
 refine da O Tryz.func55 O ?_;exact f_ @aqe @bC
def axA:f' ag 98=J au:=by kernel_rfl
def ZS21{p:Prop}(h:p:=by
 have bp:=Q106 p;have bq:=Q106 q;obtain⟨e,f⟩:∃e,(h.push (Q107 p)).push (Q107 q)=e:=⟨_,O⟩;have j:Ext h e:=by rw[<-f];exact(Ext.push _ _).trans (.push _ _)
 have D:e.I[F h.I]?=J (Q107 p):=by rw[<-f];exact aX (aU _ _)
 have o:e.I[F (h.push (Q107 p)).I]?=J (Q107 q):=by rw[<-f];exact aU _ _
 have u:=j.box _ _ A;have L0:=Q108 D;have L1:=Q108 o;have L1':=Q108 (aX (cs:=Q107 p) o);have F0:aL ag Gt e Q109 (.ptr (.box i) 0)=J (.func (.func Q110) [] []):=by rw[fx Q111 u];rfl
 have F1:aL ag Gt (e.push (Q107 p)) Q109 (.ptr (.box i) 0)=J (.func (.func Q110) [] []):=by rw[fx Q111 (aX u)];rfl
 have k1:=Q112 p e;have k2:=Q112 q (e.push (Q107 p));have k3:=agT (Q113 p) (Q113 q) ((e.push (Q107 p)).push (Q107 q));have x:=(j.trans (.push e (Q107 p))).trans (.push _ (Q107 q));have s1:dh (.agg (Q107 q)) (.agg (Q107 q))=aa:=by simp[dh,gI,iz,Q107]
 have s2:dh (.func (.func Q110) [] []) (.func (.func Q110) [] [])=aa:=rfl;clear A D o u j;generalize Q107 p=z0 at *
 generalize Q107 q=E at *
 refine iG O Q114 O ?_;refine dA @Q115 @bC @f ?_;refine jY [(2,3),(2,4)] xA bX (λz B=>?_) ?_
 .simp only[hh,qR,or_false]at B;rcases B with rfl|rfl
  .refine nO (x:=.ptr (.box i) 0) (v:=.func (.func Q110) [] []) bX O O O bX (s2) ?_ ?_<;>(simp only[dY,dG];exact f_ @Q115 @and_self)
  .refine nO (x:=.ptr (.box (F (h.push z0).I)) 0) (v:=.agg E) bX O O O bX (s1) ?_ ?_<;>(simp only[dY,dG];exact f_ @Q115 @and_self)
 refine bD @Q115 ?_;exact⟨_,O,x⟩):p:=h
section
open Go.Proofs.YtcbhpkjbiehcpaaGreatDoor renaming JL->Q106,bB->Q107,wB->Q108,axA->Q111,ayV->Q112,ay2->Q115
open Go renaming kk98->Q109,kk55->Q110
open Go.NT.Pr renaming bN->Q113
open Go.Proofs.Tryz renaming func114->Q114
def ayR(p q:Pr)(i:Nat)(h:ah)(A:h.I[i]?=J [.func (.func 55) [] []]):∃h',SC.call 114 [.agg (bB p),.agg (bB q),.ptr (.box i) 0] h=J (.ret ((xD p.bN q.bN:Int):V),h')/\Ext h h':=ZS21
end
def agU(a b):decide (xD a b<0)=decide (a<b):=by
 unfold xD;by_cases h:a<b
 .rw[aH h];simp[h]
 .rw[aV h];split<;>simp[h]
def agV(a b):decide (xD a b=0)=decide (a=b):=by
 unfold xD;by_cases h:a<b
 .rw[aH h];simp;omega
 .rw[aV h];split<;>simp<;>omega
def G8{α:Type}(k:α->Int)(l:List α):Prop:=∀(e f:Nat) (x y:α),l[e]?=J x->l[f]?=J y->e<f->k x<k y
def atW{α}{k}{l:List α}{n}{lo}(h1:lo<=F l)(h2:∀j y,j<lo->l[j]?=J y->k y<n)(e:∀j y,lo<=j->l[j]?=J y->n<=k y):kY k n l=lo:=aeD h1 h2 λy E=>by have:=e lo y (bh _) E;omega
def vj{α:Type}(k:α->Int)(n:Int)(l:List α):Bool:=(pz k n l).isSome
def ZS22{p:Prop}(h:p:=by
 have kk:=aj.mk (ar hs N6);clear hs N6;have u32:=Q116;have z46:=Q117;have bp:=Q118 p;have e_:F (Q119 l)=F l:=by unfold Q119;rw[bJ]
 have kx0:=aj.mk (Ext.push h (Q120 p));have kb0:=aj.mk (aX (cs:=Q120 p) hb);have kp0:=aj.mk (aU h (Q120 p));clear hb;refine cA O Q121 O ?_;refine bF @Q122 @bC ?_;refine bM.gen λB o ja fM eS=>?_;have f0:B.get 0=.ac k s (Q119 l):=by rw[o];exact gS
 have f2:B.get 2=.func (.func Q123) [] [.ptr (.box A) 0]:=by rw[o];exact gS
 have f4:B.get 4=.ptr (.box (F h.I)) 0:=by rw[o];exact gS
 have f8:B.get 8=(F l:Nat):=by rw[o];simp only[gW,reduceIte,aT,aN,e_]
 have f9:B.get 9=(0:Nat):=by rw[o];exact gR
 have f10:B.get 10=(F l:Nat):=by rw[o];simp only[gW,reduceIte,aT,aN,e_]
 have fd:B.defers=[]:=by rw[ja];exact gS
 clear o ja fM eS;refine cJ (λm z0 H=>∃e f:Nat,e<=f/\f<=F l/\m=f-e/\aj ((∀j y,j<e->l[j]?=J y->(Q124 y)<(Q124 p))/\∀j y,f<=j->l[j]?=J y->(Q124 p)<=(Q124 y))/\z0.get 0=.ac k s (Q119 l)/\z0.get 2=.func (.func Q123) [] [.ptr (.box A) 0]/\z0.get 4=.ptr (.box (F h.I)) 0/\z0.get 8=(F l:Nat)/\z0.get 9=(e:Nat)/\z0.get 10=(f:Nat)/\z0.defers=[]/\aj (Ext h H)/\aj (H.I[A]?=J [.func (.func Q125) [] []])/\aj (H.I[F h.I]?=J (Q120 p))) ?_ (F l) _ _ ?_;rotate_left 1
 .exact⟨0,l.length,cC _,bh _,O,⟨λj y hj=>absurd hj (Nat.not_lt_zero _),λj y h1 h2=>by have:=(bk.1 h2).1;omega⟩,f0,f2,f4,f8,f9,f10,fd,kx0,kb0,kp0⟩
 clear f0 f2 f4 f8 f9 f10 fd kx0 kb0 kp0;rintro m z0 H ⟨e,f,h1,h2,rfl,kI,g0,g2,g4,g8,g9,g10,hd,kx,kb,kp⟩;have lp:=Q126 kp.M;by_cases dD:e<f
 .have eM:s=Q127:=kk.M.1 (by intro q;rw[q,gi]at h2;omega);subst eM;obtain⟨i,v⟩:∃i:Nat,(e+f)/2=i:=⟨_,O⟩;obtain⟨y,E⟩:∃y,l[i]?=J y:=⟨_,aY af⟩;have ld:=Q128 (H:=H) (s:=Q127) E;obtain⟨H2,ls,D⟩:=Q129 y p A H kb.M;have gG:(e:Int)<(f:Int):=by omega
  have zO:(e:Int)+(f:Int)=((e+f:Nat):Int):=by omega
  have OO:IntKind.u64.wrap ((e+f:Nat):Int)=((e+f:Nat):Int):=wrap_u64 af;have rR:IntKind.i64.wrap (((e+f)/2:Nat):Int)=((i:Nat):Int):=by rw[v];exact jq af af
  have akv:(i:Int)<(F l:Int):=by omega
  have cn:=agU (Q124 y) (Q124 p);have kx2:=aj.mk (kx.M.trans D);have kb2:=aj.mk (D.box _ _ kb.M);have kp2:=aj.mk (D.box _ _ kp.M);have khy:=aj.mk E;clear E D;by_cases hc:(Q124 y)<(Q124 p)
  .have kI2:aj ((∀j y,j<i+1->l[j]?=J y->(Q124 y)<(Q124 p))/\∀j y,f<=j->l[j]?=J y->(Q124 p)<=(Q124 y)):=⟨λj w hj hw=>by
    rcases eg j i with q|q
    .exact Int.lt_trans (kk.M.2 j i w y hw khy.M q) hc
    .have:j=i:=(by omega);subst this;rw[khy.M]at hw;injection hw with hw;rw[<-hw];exact hc,kI.M.2⟩
   rw[cD hc]at cn;have khm:=aj.mk v;clear hc v;refine cg @Q122 @eY.{0} @eP.{0} (ar @bj (ar @po (ar @BG @DE))) ?_;refine dW xA bX ?_;refine cg @Q122 @eY.{0} @eP.{0} (ar @bj (ar @po (ar @BG @DE))) ?_;have:=khm.M;exact⟨f-(i+1),by omega,i+1,f,by omega,h2,O,kI2,by simp,by first|exact kx2|trivial,by first|exact kb2|trivial,by first|exact kp2|trivial⟩
  .have kI2:aj ((∀j y,j<e->l[j]?=J y->(Q124 y)<(Q124 p))/\∀j y,i<=j->l[j]?=J y->(Q124 p)<=(Q124 y)):=⟨kI.M.1,λj w hj hw=>by
    rcases eg i j with q|q
    .have:=kk.M.2 i j y w khy.M hw q;omega
    .have:j=i:=(by omega);subst this;rw[khy.M]at hw;injection hw with hw;rw[<-hw];omega⟩
   rw[cR hc]at cn;have khm:=aj.mk v;clear hc v;refine cg @Q122 @eY.{0} @eP.{0} (ar @bj (ar @po (ar @BG @DE))) ?_;refine dW xA bX ?_;refine cg @Q122 @eY.{0} @eP.{0} (ar @bj (ar @po (ar @BG @DE))) ?_;have:=khm.M;exact⟨i-e,by omega,e,i,by omega,by omega,O,kI2,by simp,by first|exact kx2|trivial,by first|exact kb2|trivial,by first|exact kp2|trivial⟩
 .have jR:e=f:=by omega
  subst jR;have u:=atW h2 kI.M.1 kI.M.2;by_cases mg:e<F l
  .have eM:s=Q127:=kk.M.1 (by intro q;rw[q,gi]at mg;omega);subst eM;obtain⟨y,E⟩:∃y,l[e]?=J y:=⟨_,aY mg⟩;have ld:=Q128 (H:=H) (s:=Q127) E;obtain⟨H2,ls,D⟩:=Q129 y p A H kb.M;have gG:(e:Int)<(F l:Int):=(by omega);have NV:decide ((e:Int)<(F l:Int))=aa:=(by simp[mg]);have cz:=agV (Q124 y) (Q124 p);have hf:vj Q130 (Q124 p) l=decide ((Q124 y)=(Q124 p)):=(by unfold vj pz;rw[u,E];simp only;split<;>simp[*]);have kf:=aj.mk hf;have ka:=aj.mk u;have kx2:=aj.mk (kx.M.trans D);clear hf u E D;refine cg @Q122 @eY.{0} @eP.{0} @bj ?_;refine dW xA bX ?_;refine cg @Q122 @eY.{0} @eP.{0} @bj ?_;exact⟨_,_,O,by rw[kf.M,ka.M],kx2.M⟩
  .have hf:vj Q130 (Q124 p) l=au:=(by unfold vj pz;rw[u,sQ af];rfl);have NV:decide ((e:Int)<(F l:Int))=au:=(by simp;omega);have kf:=aj.mk hf;have ka:=aj.mk u;clear hf u;refine cg @Q122 @eY.{0} @eP.{0} @bj ?_;refine dW xA bX ?_;refine cg @Q122 @eY.{0} @eP.{0} @bj ?_;exact⟨_,_,O,by rw[kf.M,ka.M],kx.M⟩):p:=h
section
open Go.Proofs.Tryz renaming underlying32->Q116,func113->Q121
open Go.Proofs.YtcbhpkjbiehcpaaGreatDoor renaming vD->Q117,JL->Q118,cL->Q119,bB->Q120,ay1->Q122,wB->Q126,vm->Q128,ayR->Q129
open Go renaming kk114->Q123,kk55->Q125,kk4->Q127
open Go.NT.Pr renaming bN->Q124,bN->Q130
def azB(h:ah)(k:Tok)(s:Nat)(l:List Pr)(p:Pr)(A:Nat)(hb:h.I[A]?=J [.func (.func 55) [] []])(hs:l≠[]->s=4)(N6:G8 Pr.bN l)(hl:F l<=1000000):
 ∃r h',SC.call 113 [.ac k s (cL l),.agg (bB p),.func (.func 114) [] [.ptr (.box A) 0]] h=J (r,h')/\r=.ret (.tuple [((kY Pr.bN p.bN l:Nat):V),.v (.bool (vj Pr.bN p.bN l))])/\Ext h h':=ZS22
end
def xJ(d)(a b):dQ ag (Op.equalIn (d+1) 3 (.int .i64 a) (.int .i64 b))=J (a==b):=by unfold Op.equalIn;rw[iD,Dd rG,jO];simp[dQ];rfl
def yu{α}{P}(a):dQ P (pure a:Sem α)=J a:=rfl
def C_(p:Pr):Array aQ:=#[.int .i64 p.bN,.int .i64 p.no,.int .i64 p.d,.int .i64 p.e]
def axR(d)(p q):dQ ag (Op.equalIn (d+2) 46 (.agg (C_ p)) (.agg (C_ q)))=J (decide (p=q)):=by
 have h1:∀p,dQ ag (part 3 (C_ p) 0)=J (.int .i64 p.bN):=λp=>by kernel_rfl
 have h2:∀p,dQ ag (part 3 (C_ p) 1)=J (.int .i64 p.no):=λp=>by kernel_rfl
 have f:∀p,dQ ag (part 3 (C_ p) 2)=J (.int .i64 p.d):=λp=>by kernel_rfl
 have i:∀p,dQ ag (part 3 (C_ p) 3)=J (.int .i64 p.e):=λp=>by kernel_rfl
 have j:ag.stoodInHeld 46=au:=by kernel_rfl
 have hp:dQ ag program=J ag:=rfl;have A:(p=q)↔(p.bN=q.bN/\p.no=q.no/\p.d=q.d/\p.e=q.e):=by
  constructor
  .intro z0;subst z0;exact⟨O,O,O,O⟩
  .obtain⟨a,b,c,d⟩:=p;obtain⟨D,E,c',d'⟩:=q;rintro⟨rfl,rfl,rfl,rfl⟩;rfl
 have B:decide (p=q)=(decide (p.bN=q.bN)&&decide (p.no=q.no)&&decide (p.d=q.d)&&decide (p.e=q.e)):=by rw[Bool.eq_iff_iff];simp[A,and_assoc]
 rw[B];unfold Op.equalIn;rw[iD,Dd Tryz.underlying46,jO];by_cases e:p.bN=q.bN
 .by_cases o:p.no=q.no
  .by_cases u:p.d=q.d
   .by_cases v:p.e=q.e
    .simp[iD,yu,hp,j,h1,h2,f,i,xJ,e,o,u,v]
    .simp[iD,yu,hp,j,h1,h2,f,i,xJ,e,o,u,v]
   .simp[iD,yu,hp,j,h1,h2,f,i,xJ,e,o,u]
  .simp[iD,yu,hp,j,h1,h2,f,i,xJ,e,o]
 .simp[iD,yu,hp,j,h1,h2,f,i,xJ,e]
def ZS23{p:Prop}(h:p:=by
 have e:dQ ag (eqGuard .eql Q131 x y (.agg (Q132 p)) (.agg (Q132 q)))=J ():=by kernel_rfl
 show(dQ ag (do eqGuard .eql Q131 x y (.agg (Q132 p)) (.agg (Q132 q));binOp .eql Q131 (.agg (Q132 p)) (.agg (Q132 q)))).bind lH=_;rw[iD,e,jO];show(dQ ag (do pure (.bool (<-Op.equal Q131 (.agg (Q132 p)) (.agg (Q132 q)))))).bind lH=_;rw[iD];have:=Q133 9998 p q;unfold Op.equal Op.maxDepth;rw[this];rfl):p:=h
section
open Go renaming kk46->Q131
open Go.Proofs.YtcbhpkjbiehcpaaGreatDoor renaming C_->Q132,axR->Q133
def axQ{x y}(p q):df ag .eql 46 x y (.agg (bB p)) (.agg (bB q))=J (.v (.bool (decide (p=q)))):=ZS23
end
def ZS24{p:Prop}(h:p:=by
 have e:dQ ag (eqGuard .neq Q134 x y (.agg (Q135 p)) (.agg (Q135 q)))=J ():=by kernel_rfl
 show(dQ ag (do eqGuard .neq Q134 x y (.agg (Q135 p)) (.agg (Q135 q));binOp .neq Q134 (.agg (Q135 p)) (.agg (Q135 q)))).bind lH=_;rw[iD,e,jO];show(dQ ag (do pure (.bool (!(<-Op.equal Q134 (.agg (Q135 p)) (.agg (Q135 q))))))).bind lH=_;rw[iD];have:=Q136 9998 p q;unfold Op.equal Op.maxDepth;rw[this];rfl):p:=h
section
open Go renaming kk46->Q134
open Go.Proofs.YtcbhpkjbiehcpaaGreatDoor renaming C_->Q135,axR->Q136
def anG{x y}(p q):df ag .neq 46 x y (.agg (bB p)) (.agg (bB q))=J (.v (.bool (!decide (p=q)))):=ZS24
end
def ay3:Tryz.f117.results.toList=[.tmp 2]:=by kernel_rfl
def azc:Tryz.f54.results.toList=[.tmp 6]:=by kernel_rfl
def axG:fC ag 32 0 []=J (.ac .aP 4 []):=by kernel_rfl
def ZS25{p:Prop}(h:p:=by
 subst u;obtain⟨A,h1,f,v,i⟩:=Q137;have B:=kL j v;have e:F (Q138 l)=F l:=by unfold Q138;rw[bJ]
 have:=AT (P:=ag) (t0:=Q139) (t1:=Q139) (h:=h) (k:=.aP) (sz:=Q140) (es:=[]) (new:=Q138 l) (i:=A) (x:=.ac k Q140 (Q138 l)) Q141 Q141 h1 af (by rw[f];exact i) (by intro q;apply o;unfold Q138 at q;simpa using q) (by simp[e];omega) (by simp[e];omega) (.inl f.symm) (.inr O) (by rw[f];exact CU);simpa [e] using this):p:=h
section
open Go.Proofs.YtcbhpkjbiehcpaaGreatDoor renaming alf->Q137,cL->Q138
open Go renaming kk32->Q139,kk4->Q140
open Go.Proofs.Tryz renaming underlying32->Q141
def azG{h}{s}{l}(o:l≠[])(j:F l<=1000000)(k)(u:s=4):ng ag h #[32,32] (.ac .aP 4 []) (.ac k s (cL l))=J (.arr (F h.I) 0 (F l) (F l),h.push (cL l).flatten):=ZS25
end
def ZS26{p:Prop}(h:p:=by
 have u32:=Q142;have b:=Q143;by_cases e:l=[]
 .subst e;clear j;have z0:Q144 ([]:List Q145)=[]:=rfl;rw[z0];by_cases i:k=.nil
  .subst i;refine cA O Q146 O ?_;have v:∀x y,df ag .eql Q147 x y (.ac .nil s []) (.ac .nil 0 [])=J (aa:V):=λ_ _=>(by kernel_rfl);refine bD @Q148 ?_;exact⟨_,_,O,.inl ⟨by first|rfl|trivial,O,_,_,O,.inl O⟩⟩
  .have v:∀x y,df ag .eql Q147 x y (.ac k s []) (.ac .nil 0 [])=J (au:V):=λ_ _=>by cases k<;>first|exact absurd O i|kernel_rfl
   have ta:ng ag h #[Q147,Q147] (.ac .aP Q149 []) (.ac k s [])=J (.ac .aP Q149 [],h):=(by obtain⟨z1,h1,q2,q3,h4⟩:=Q150;unfold ng;simp only[List.getElem?_toArray,List.getElem?_cons_zero,nR,jO,u32,h1,jT,rowsOf];simp[q2,h4]);refine cA O Q146 O ?_;refine bD @Q148 ?_;exact⟨_,_,O,.inl ⟨by first|rfl|trivial,O,_,_,O,.inr O⟩⟩
 .have E:=D e;subst E;have u:Q144 l≠[]:=by intro q;apply e;unfold Q144 at q;simpa using q
  have ta:=Q151 (h:=h) (s:=Q149) e B k O;obtain⟨o,R,A⟩:∃o R,Q144 l=o::R:=by
   cases hq:Q144 l with|nil=>exact absurd hq u|cons o R=>exact⟨o,R,O⟩
  by_cases i:k=.nil
  .exact absurd (j i) e
  .have v:∀x y,df ag .eql Q147 x y (.ac k Q149 (Q144 l)) (.ac .nil 0 [])=J (au:V):=λ_ _=>by rw[A];cases k<;>first|exact absurd O i|kernel_rfl
   have f:=aj.mk e;clear u A D B e j;generalize Q144 l=P at *
   refine cA O Q146 O ?_;refine bD @Q148 ?_;exact⟨_,_,O,.inr ⟨by first|exact f.M|trivial,O,O⟩⟩):p:=h
section
open Go.Proofs.Tryz renaming underlying32->Q142,func117->Q146
open Go.Proofs.YtcbhpkjbiehcpaaGreatDoor renaming axG->Q143,cL->Q144,ay3->Q148,alf->Q150,azG->Q151
open Go.NT renaming Pr->Q145
open Go renaming kk32->Q147,kk4->Q149
def axK(h:ah)(k:Tok)(s:Nat)(l:List Pr)(D:l≠[]->s=4)(j:k=.nil->l=[])(B:F l<=1000000):∃r h',SC.call 117 [.ac k s (cL l)] h=J (r,h')/\((l=[]/\h'=h/\∃kk s0,r=.ret (.ac kk s0 [])/\(kk=.nil∨kk=.aP))∨(l≠[]/\r=.ret (.arr (F h.I) 0 (F l) (F l))/\h'=h.push (cL l).flatten)):=ZS26
end
def ayN{h}{b n i}{cs row}{k}(e:h.I[b]?=J cs)(j:0<n)(f:n<1000000)(hi:i<=n)(hc:F cs=n*4):SC.call 116 [.arr b 0 n n,((i:Nat):V),.ac k 4 [row]] h=J (.ret (.arr (F h.I) 0 (n+1) (n+1)),(h.put b []).push (cs.take (i*4)++row++cs.drop (i*4))):=by rw[sM];unfold mf nL mF vi;rw[aV bm];simp only[if_true];unfold yg;simp only[e];rw[aH ⟨br,br,j,f,by omega,by omega,br,hc⟩,fe];rfl
def ayO{h}{kk k}{s0}{row}(e:kk=.nil∨kk=.aP):SC.call 116 [.ac kk s0 [],.v (.int .i64 0),.ac k 4 [row]] h=J (.ret (.arr (F h.I) 0 1 1),h.push row):=by rw[sM];unfold mf nL mF vi;rw[aV bm];simp only[if_true];unfold yg;simp only;rw[aH ⟨e,br⟩];rfl
def Zn(l):F (cL l).flatten=F l*4:=by
 induction l with
 |nil=>rfl|cons p l e=>show(F (bB p++(cL l).flatten))=_;rw[de,e,eZ,jm];show 4+_=_;omega
def Zr:∀(l:List Pr) (i:Nat),(cL l).flatten.take (i*4)=(cL (l.take i)).flatten/\(cL l).flatten.drop (i*4)=(cL (l.drop i)).flatten
 | [],i=>by simp[cL]
 |p::l,0=>by simp[cL]
 |p::l,i+1=>by obtain⟨h1,h2⟩:=Zr l i;have f:(cL (p::l)).flatten=bB p++(cL l).flatten:=rfl;have e:F (bB p)=4:=rfl;rw[f,show(i+1)*4=F (bB p)+i*4 by rw[e];omega,List.take_length_add_append,List.drop_length_add_append,h1,h2];exact⟨O,O⟩
def ayX(l)(p)(i):(cL l).flatten.take (i*4)++bB p++(cL l).flatten.drop (i*4)=(cL (l.take i++p::l.drop i)).flatten:=by obtain⟨h1,h2⟩:=Zr l i;rw[h1,h2];unfold cL;rw[jN,dR,List.flatten_append,kJ,jx]
def axF(p):fC ag 32 1 [(0,.agg (bB p))]=J (.ac .aP 4 [bB p]):=by kernel_rfl
def aiL(g:Nat):(V.func (.func g) [] []).bP=J [.func (.func g) [] []]:=rfl
def Sx(h h':ah)(x:V)(l:List Pr)(p:Pr)(r:dV):Prop:=
 match pz Pr.bN p.bN l with
 |some y=>if y=p then r=.ret x else r=.panic (mn 151)
 |none=>∃b,r=.ret (.arr b 0 (F l+1) (F l+1))/\F h.I<=b/\h'.I[b]?=J (cL (nE Pr.bN p l)).flatten
def ZS27{p:Prop}(h:p:=by
 have bp:=Q152 p;have bf:=aiL Q153;obtain⟨D,e⟩:∃D,(h.push (Q154 p)).push [.func (.func Q153) [] []]=D:=⟨_,O⟩;have e2:Ext h D:=by rw[<-e];exact(Ext.push _ _).trans (.push _ _)
 have q0:D.I[F h.I]?=J (Q154 p):=by rw[<-e];exact aX (aU _ _)
 have u:D.I[F (h.push (Q154 p)).I]?=J [.func (.func Q153) [] []]:=by rw[<-e];exact aU _ _
 have n1:=bV h (Q154 p);rw[n1]at u;obtain⟨_,f,cs,rfl,x3⟩:=Q155 D k s l p (F h.I+1) u A o af;have L2:=Q156 q0;have L3:=Q156 (x3.box _ _ q0);have sB:dh (.agg (Q154 p)) (.agg (Q154 p))=aa:=by simp[dh,gI,iz,Q154]
 have u32:=Q157;have z46:=Q158;have e_:F (Q159 l)=F l:=by unfold Q159;rw[bJ]
 have kx:=aj.mk (e2.trans x3);have qw:=FU (pr:=nL) O;have z_:=FT (pr:=nL) O;unfold Q160;cases j:pz Q161 (Q162 p) l with
 |some y=>
  have hi:vj Q161 (Q162 p) l=aa:=by unfold vj;rw[j];rfl
  rw[hi]at cs;have E:l[kY Q161 (Q162 p) l]?=J y:=by
   unfold pz at j;split at j
   .split at j
    .rename_i z1 _;rw[z1];exact j
    .cases j
   .cases j
  have dD:=(bk.1 E).1;have OA:=A (by intro q;rw[q]at dD;simp at dD);subst OA;have ld:=Q163 (H:=f) (s:=Q164) E;have eq:=λx z=>Q165 (x:=x) (y:=z) y p;generalize kY Q161 (Q162 p) l=at' at *
  have gG:(at':Int)<(F l:Int):=by omega
  clear j hi E A B o q0 u e2 x3;by_cases hp:y=p
  .rw[cD hp]at eq;have khp:=aj.mk hp;clear hp;refine cA O Q166 O ?_;refine cg @Q167 @bC @e @bj ?_;refine dW xA bX ?_;refine cg @Q167 @bC @e @bj ?_;exact⟨_,_,O,kx.M,by rw[aH khp.M]⟩
  .rw[cR hp]at eq;have khp:=aj.mk hp;clear hp;refine cA O Q166 O ?_;refine cg @Q167 @bC @e @bj ?_;refine ati (n:=6) O bX bX bX ?_;simp only[dY,dG];refine cg @Q167 @bC @e (ar @bj (ar @List.drop_succ_cons.{0} (ar @gP.{0} (ar @amh (ar @avP @avQ))))) ?_;exact⟨_,_,O,kx.M,by rw[aV khp.M]⟩
 |none=>
  have hi:vj Q161 (Q162 p) l=au:=by unfold vj;rw[j];rfl
  rw[hi]at cs;have tF:=Tq (k:=Q161) (Q162 p) l;have bl:=Q168 p;obtain⟨_,H4,cc,⟨hn,rfl,kk,s0,rfl,IP⟩|⟨hn,rfl,rfl⟩⟩:=Q169 f k s l A B af
  .subst hn;have B_:kY Q161 (Q162 p) ([]:List Q170)=0:=rfl;rw[B_]at cs;have ci:SC.call Q171 [.ac kk s0 [],((0:Nat):V),.ac .aP Q164 [Q154 p]] H4=_:=Q172 (h:=H4) (k:=.aP) (s0:=s0) (row:=Q154 p) IP;have kb:aj (F h.I<=F H4.I):=⟨by have:=(bk.1 (x3.box _ _ u)).1;omega⟩;have kl:=aj.mk (aU H4 (Q154 p));have kx2:=aj.mk (kx.M.trans (.push H4 (Q154 p)));clear j hi A B o q0 u e2 x3 tF qw z_;have el:Q159 ([]:List Q170)=[]:=rfl;simp only[el]at cs cc ⊢;generalize hB:Q154 p=z0 at *
   refine cA O Q166 O ?_;refine dA @Q167 @bC @e ?_;refine jY [(1,3)] xA bX (λz hz=>?_) ?_
   .simp only[iL]at hz;subst hz;refine nO (x:=.ptr (.box (F h.I)) 0) (v:=.agg z0) bX O O O bX (sB) ?_ ?_<;>(simp only[dY,dG];exact f_ @Q167 @and_self)
   refine dA @Q167 @bC @e ?_;exact⟨_,_,O,kx2.M,_,O,kb.M,by rw[<-hB]at kl;rw[<-hB];exact kl.M⟩
  .have OA:=A hn;subst OA;have Ca:=aU f (Q159 l).flatten;have ci:=Q173 (h:=f.push (Q159 l).flatten) (b:=f.I.length) (n:=l.length) (i:=kY Q161 (Q162 p) l) (row:=Q154 p) (k:=.aP) Ca (by cases l with|nil=>exact absurd O hn|cons _ _=>simp) hl tF (Q174 l);rw[Q175]at ci;have ei:l.take (kY Q161 (Q162 p) l)++p::l.drop (kY Q161 (Q162 p) l)=nE Q161 p l:=rfl;rw[ei]at ci;have L4:=Q156 (aX (cs:=(Q159 l).flatten) (x3.box _ _ q0));have kb:aj (F h.I<=F (f.push (Q159 l).flatten).I):=⟨by have:=(bk.1 (x3.box _ _ u)).1;rw[bV];omega⟩;have kl:aj ((((f.push (Q159 l).flatten).put (F f.I) []).push (Q159 (nE Q161 p l)).flatten).I[F (f.push (Q159 l).flatten).I]?=J (Q159 (nE Q161 p l)).flatten):=⟨by
    have:=aU ((f.push (Q159 l).flatten).put (F f.I) []) (Q159 (nE Q161 p l)).flatten
    rwa [jV]at this⟩
   have kx2:aj (Ext h (((f.push (Q159 l).flatten).put (F f.I) []).push (Q159 (nE Q161 p l)).flatten)):=⟨((kx.M.trans (.push f _)).gw (by have:=(bk.1 (x3.box _ _ u)).1;omega) []).trans (.push _ _)⟩;clear j hi A B o q0 u e2 x3 tF qw z_ Ca ei;generalize hB:Q154 p=z0 at *
   generalize kY Q161 (Q162 p) l=at' at *
   generalize (Q159 l).flatten=PF at *
   generalize (Q159 (nE Q161 p l)).flatten=IF at *
   refine cA O Q166 O ?_;refine dA @Q167 @bC @e ?_;refine jY [(1,3)] xA bX (λz hz=>?_) ?_
   .simp only[iL]at hz;subst hz;refine nO (x:=.ptr (.box (F h.I)) 0) (v:=.agg z0) bX O O O bX (sB) ?_ ?_<;>(simp only[dY,dG];exact f_ @Q167 @and_self)
   refine dA @Q167 @bC @e ?_;exact⟨_,_,O,kx2.M,_,O,kb.M,kl.M⟩):p:=h
section
open Go.Proofs.YtcbhpkjbiehcpaaGreatDoor renaming JL->Q152,bB->Q154,azB->Q155,wB->Q156,vD->Q158,cL->Q159,Sx->Q160,vm->Q163,axQ->Q165,azc->Q167,axF->Q168,axK->Q169,ayO->Q172,ayN->Q173,Zn->Q174,ayX->Q175
open Go renaming kk55->Q153,kk4->Q164,kk116->Q171
open Go.Proofs.Tryz renaming underlying32->Q157,func54->Q166
open Go.NT.Pr renaming bN->Q161,bN->Q162
open Go.NT renaming Pr->Q170
def apN(h:ah)(k:Tok)(s:Nat)(l:List Pr)(p:Pr)(A:l≠[]->s=4)(B:k=.nil->l=[])(o:G8 Pr.bN l)(hl:F l<1000000):
 ∃r h',SC.call 54 [.ac k s (cL l),.agg (bB p),.func (.func 55) [] []] h=J (r,h')/\Ext h h'/\Sx h h' (.ac k s (cL l)) l p r:=ZS27
end
end Go.Proofs.YtcbhpkjbiehcpaaGreatDoor
end
