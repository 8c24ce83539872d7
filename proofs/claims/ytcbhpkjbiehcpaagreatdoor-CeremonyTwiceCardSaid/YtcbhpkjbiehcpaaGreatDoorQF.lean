/-
  The engine, part 54: as part 48, where what is answered lies in boxes of rows of more than one cell; and functions of the library taken by contracts beside calm ones.
-/
import Derived.Test.YtcbhpkjbiehcpaaGreatDoorQE
import Derived.Test.YtcbhpkjbiehcpaaGreatDoorQC
import Derived.Test.YtcbhpkjbiehcpaaGreatDoorQD
import Derived.WalkKit
import Derived.Shelf.Spec.SlicesInsert
import Derived.Lib.AppendZerosOnto
import Derived.Laws.Externs
import Derived.Test.YtcbhpkjbiehcpaaGreatDoorChecked
import Derived.Test.YtcbhpkjbiehcpaaGreatDoorQB
import Derived.KernelRfl
open True renaming intro->aX
open Go renaming FuncId->aR,Program->bk,World->bP,Value->aG,TypeId->aF
open Go.Proofs.Tryz renaming prog->aa,func143->abA,func170->abD,underlying23->cU,func184->abE,underlying116->lO,func28->abO,func42->abQ,func36->abP,underlying20->abX,func85->abT,underlying32->lP,checked->wG,func116->KA,ntmps116->Ri,underlying3->jF,underlying33->mV,func120->KB,ntmps120->Rj,func115->Q_,func117->Q',func54->KC
open Option renaming some->J,none->ag,map_some->fF,some.injEq->dt,bind_some->iR
open List renaming length->F,mem_cons->gU,length_cons->ef,length_append->ck,length_take->cR,length_drop->eC,getElem?_cons_succ->jE,mem_cons_of_mem->gx,filter_cons->tg,mem_cons_self->gH,mem_of_getElem?->cT,contains_iff_mem->J7,drop_eq_getElem_cons->s_,drop_length->FM,all_eq_true->eJ,length_map->br,all_append->sZ,drop_zero->gG,take_length->fK,drop_of_length_le->nq,getElem?_eq_some_iff->aT,getElem?_eq_getElem->aP,ext_getElem?->oh,getElem?_map->ec,getElem?_eq_none->uS,map_cons->eI,nil_append->dO,append_nil->gj,getElem?_take->mM,getElem?_drop->o0,cons_append->ey,take_of_length_le->ga,length_nil->f_,drop_drop->pW,drop_left->CD,getElem?_append_left->qH,getElem?_append_right->wB,mem_singleton->ig,take_succ_cons->dw,take_zero->cX,not_mem_nil->qJ,append_assoc->iO,take_left'->qK,drop_left'->aaN,take_take->FR,mem_of_mem_drop->FP,size_toArray->Kf,flatten_cons->jP
open Bool renaming false->ah,true->V,and_eq_true->bm,true_and->mL,false_and->uO,and_true->aak,true_eq_false->uP,false_eq_true->jB
open Nat renaming le_of_ble_eq_true->jR,le_refl->aV,zero_le->bY,le_trans->e8,reduceEqDiff->aH,lt_or_ge->dp,add_mul->js,mul_le_mul->jt,mul_one->jS,min_def->xV,mul_le_mul_right->mz
open And renaming intro->aj
open Prod renaming fst->dM,mk.inj->eD,mk.injEq->cL
open Int renaming le_refl->Cx,toNat_natCast->fD
open Array renaming length_toList->ip,getElem?_eq_none->Cq,size_append->Cs,toList_append->wp,getElem?_push->FB
set_option maxHeartbeats 64000000
set_option maxRecDepth 100000
set_option linter.unusedSimpArgs false
set_option linter.unusedVariables false
set_option linter.constructorNameAsVariable false
set_option linter.defProp false
section
namespace Go.Proofs.YtcbhpkjbiehcpaaGreatDoor
open Go.AE Go.NT
section
variable (R:Rec) (L:List aR)
noncomputable def up:Rec:=whole aa Gt (lU R L)
def wt:Prop:=∀n h,R.call 97 [I n] h=J (.ret (.agg (cO n)),h)
def ww:Prop:=∀s h,R.call 99 [sv s] h=J (.ret (.agg (ar 2 0 s .nil 0 [])),h)
def JP:Prop:=∀(e b:List UInt8) (k:Tok),F b<=1099511610000->F e<=1099511610000->∀h,R.call 241 [.v (.string (bs e)),.list k 1 (bJ b)] h=J (.ret (I (pF (kn e b):Nat)),h)
def ws:Prop:=∀(e:Vl) (r:List U),b9 e r->fA e<=16->F (cB e)<=1099511600000->∃t,∀h,R.call 100 [.agg r] h=J (.ret (.tuple [.list t 1 (bJ (cB e)),.v (.int .i64 0)]),h)
def wu:Prop:=∀(l:List Vl) (rows:List (List U)),fX l rows->dm rows=rows->∀k:Tok,F rows<=1000000->∀h,R.call 96 [.list k 4 rows] h=J (.ret (.agg (ar 3 0 [] (bU k) 4 rows)),h)
def JT(g:aR):Prop:=∀x n h,R.call g [I x,I n] h=J (.ret (I (fj x n)),h)
def JR(g:aR):Prop:=∀x n h,R.call g [I x,I n] h=J (.ret (I (nV x n)),h)
def JN(g:aR):Prop:=∀x n h,R.call g [I x,I n] h=J (.ret (I (dx x n)),h)
def JO(g:aR):Prop:=∀x n h,R.call g [I x,I n] h=J (.ret (I (cS x n)),h)
def Cv(g:aR):Prop:=∀x h,R.call g [I x] h=J (.ret (.v (.bool (bX x))),h)
def JS:Prop:=∀p h,R.call 253 [.agg (aB p)] h=J (.ret (.v (.bool (amw p))),h)
def JQ:Prop:=∀x l,PL x l->F l<=1000000->∃X,IL X (l.map Pr.aO)/\∀h,R.call 197 [x] h=J (.ret X,h)
def xM:Prop:=∀x y rows ac,RL x rows->IL y ac->F rows<=1000000->∀h,R.call 40 [.agg [x,y]] h=J (.ret (I (cH rows ac)),h)
def zZ:Prop:=∀x y z rows ac who,RL x rows->IL y ac->IL z who->F rows<=1000000->F who<=1099511627776->
 (∃e,fG rows ac who=([],ah,e)/\∀h,R.call 44 [.agg [x,y],z] h=J (.ret (.tuple [.list .nil 0 [],.v (.bool ah),.v (.int .i64 e)]),h))∨
 ∃l,fG rows ac who=(l,V,0)/\F l=F rows/\∀h,R.call 44 [.agg [x,y],z] h=J (.ret (.tuple [.list .held 1 (ints l),.v (.bool V),.v (.int .i64 0)]),h)
def FF:Prop:=∀x y z rows ac ai,RL x rows->IL y ac->IL z ai->F ai<=1000000->∀h,R.call 94 [.agg [x,y],z] h=J (.ret (.v (.bool (ai.all bX&&decide (F ai=cg rows)))),h)
def FG:Prop:=∀x y rows ac,RL x rows->IL y ac->∃b,(b=V->F rows<=80/\F ac<=80)/\∀h,R.call 84 [.agg [x,y]] h=J (.ret (.v (.bool b)),h)
def xN:Prop:=∀(k:Tok) (l:List Int),F l<=1000->l≠[]->(∀n∈l,0<=n/\n<=4611686018427387903)->∀h,R.call 98 [.list k 1 (ints l)] h=J (.ret (.agg (ar 3 0 [] .held 4 (l.map cO))),h)
def JU(g:aR):Prop:=∀x y a b,IL x a->IL y b->F a<=1000000->F b<=1000000->∀h,R.call g [x,y] h=J (.ret (.v (.bool (decide (a=b)))),h)
end
section
variable {R:Rec} {L:List aR}
def PL.fk{x}{l}(h:PL x l):PL (al x) l/\au 0 0 0 (al x)=V:=by
 obtain⟨k,s,rfl,f⟩:=h;have h1:∀l:List Pr,dm (bH l)=bH l:=λl=>by
  induction l with
  |nil=>rfl|cons p l e=>show a_ (aB p)::dm (bH l)=_;rw[e];rfl
 have h2:∀l:List Pr,fg 0 0 0 (bH l)=V:=λl=>by
  induction l with
  |nil=>rfl|cons p l e=>show(aA 0 0 0 (aB p)&&fg 0 0 0 (bH l))=V;rw[e];rfl
 rw[al,h1];exact⟨⟨bU k,s,O,f⟩,by rw[au,eo,h2];rfl⟩
def wt.up(e:L.contains 97=V)(c:wt R):wt (up R L):=λn=>bT e O O (c n _) O rfl
def ww.up(e:L.contains 99=V)(c:ww R):ww (up R L):=λs=>bT e O O (c s _) O rfl
def JP.up(i:L.contains 241=V)(c:JP R):JP (up R L):=λe b k f ht=>
 bT (B:=[.v (.string (bs e)),.list (bU k) 1 (bJ b)]) i (by rw[a_,a_,al.eq_1,qn];rfl) (by simp[aA,au,eo,jl]) (c e b _ f ht _) O rfl
def ws.up(f:L.contains 100=V)(c:ws R):ws (up R L):=λo r j e i=>by obtain⟨h1,h2⟩:=b9.hold o r j;obtain⟨t,c⟩:=c o _ h1 e i;exact⟨bU t,bT (B:=[.agg (a_ r)]) f O (by simpa [aA,au] using h2) (c _) O (by simp[au,aA,eo,jl])⟩
def wu.up(i:L.contains 96=V)(c:wu R):wu (up R L):=λl rows e D k f=>by
 have j:b9 (.list l) (ar 3 0 [] k 4 rows):=.list l k 4 rows e.1 (λ_=>rfl) f e.2;obtain⟨h1,h2⟩:=b9.hold _ _ j;have o:a_ (ar 3 0 [] k 4 rows)=ar 3 0 [] (bU k) 4 (dm rows):=rfl;rw[o,D]at h1 h2;refine bT (B:=[.list (bU k) 4 rows]) i ?_ ?_ (c l rows e D (bU k) f _) ?_ ?_
 .simp only[a_,al,D]
 .unfold ar at h2;simp only[aA,bm]at h2 ⊢;exact⟨h2.2.2.2.1,aX⟩
 .show U.agg [I 3,I 0,sv [],.list (bU (bU (bU k))) 4 rows]=_;rw[fk,fk];rfl
 .rw[au];exact h2
def JT.up{g:aR}(e:L.contains g=V)(c:JT R g):JT (up R L) g:=λx n=>bT e O O (c x n _) O rfl
def JR.up{g:aR}(e:L.contains g=V)(c:JR R g):JR (up R L) g:=λx n=>bT e O O (c x n _) O rfl
def JN.up{g:aR}(e:L.contains g=V)(c:JN R g):JN (up R L) g:=λx n=>bT e O O (c x n _) O rfl
def JO.up{g:aR}(e:L.contains g=V)(c:JO R g):JO (up R L) g:=λx n=>bT e O O (c x n _) O rfl
def Cv.up{g:aR}(e:L.contains g=V)(c:Cv R g):Cv (up R L) g:=λx=>bT e O O (c x _) O rfl
def JS.up(e:L.contains 253=V)(c:JS R):JS (up R L):=λp=>bT e O O (c p _) O rfl
def IL.ajg{x}{l}(hx:IL x l)(h):IL (dE h x) l/\au 0 0 0 (dE h x)=V:=by obtain⟨k,s,rfl,e⟩:=hx;refine⟨⟨bU k,s,O,e⟩,?_⟩;show au 0 0 0 (.list (bU k) s (ints l))=V;rw[au,eo,ju];rfl
def JQ.up(j:L.contains 197=V)(c:JQ R):JQ (up R L):=λx l hx o=>by obtain⟨h1,h2⟩:=hx.fk;obtain⟨X,i,c⟩:=c _ l h1 o;obtain⟨e,f⟩:=i.ajg ⟨[],[],0,[]⟩;exact⟨_,e,bT (B:=[al x]) j O (by simp[aA,h2]) (c _) O f⟩
def xM.up(i:L.contains 40=V)(c:xM R):xM (up R L):=λx y rows ac hx E j=>by obtain⟨h1,h2⟩:=hx.fk;obtain⟨e,f⟩:=E.hold;exact bT (B:=[.agg [al x,al y]]) i O (by simp[aA,au,h2,f]) (c _ _ rows ac h1 e j _) O rfl
def zZ.up(j:L.contains 44=V)(c:zZ R):zZ (up R L):=λx y z rows ac who hx E hz D A=>by
 obtain⟨h1,h2⟩:=hx.fk;obtain⟨u,f⟩:=E.hold;obtain⟨v,i⟩:=hz.hold;rcases c _ _ _ rows ac who h1 u v D A with⟨z0,e,hc⟩|⟨l,e,o,hc⟩
 .exact .inl ⟨z0,e,bT (B:=[.agg [al x,al y],al z]) j O (by simp[aA,au,h2,f,i]) (hc _) O O⟩
 .exact .inr ⟨l,e,o,bT (B:=[.agg [al x,al y],al z]) j O (by simp[aA,au,h2,f,i]) (hc _) O (by simp[au,aA,ju,oY])⟩
def FF.up(o:L.contains 94=V)(c:FF R):FF (up R L):=λx y z rows ac ai hx E v u=>by obtain⟨h1,h2⟩:=hx.fk;obtain⟨e,f⟩:=E.hold;obtain⟨i,j⟩:=v.hold;exact bT (B:=[.agg [al x,al y],al z]) o O (by simp[aA,au,h2,f,j]) (c _ _ _ rows ac ai h1 e i u _) O rfl
def FG.up(u:L.contains 84=V)(c:FG R):FG (up R L):=λx y rows ac hx E=>by obtain⟨e,f⟩:=hx.fk;obtain⟨i,j⟩:=E.hold;obtain⟨b,o,hc⟩:=c _ _ rows ac e i;exact⟨b,o,bT (B:=[.agg [al x,al y]]) u O (by simp[aA,au,f,j]) (hc _) O O⟩
def Hr:∀l:List Int,dm (l.map cO)=l.map cO/\fg 0 0 0 (l.map cO)=V
 | []=>⟨O,O⟩
 |n::l=>by
  obtain⟨h1,h2⟩:=Hr l;refine⟨?_,?_⟩
  .show a_ (cO n)::dm (l.map cO)=_;rw[h1];rfl
  .show(aA 0 0 0 (cO n)&&fg 0 0 0 (l.map cO))=V;rw[h2];rfl
def xN.up(f:L.contains 98=V)(c:xN R):xN (up R L):=λk l i j e=>
 bT (B:=[.list (bU k) 1 (ints l)]) f (by rw[a_,a_,al,rT]) (by simp[aA,au,eo,ju]) (c _ l i j e _) O (by simp only[ar,au,aA,(Hr l).2];rfl)
def JU.up{g:aR}(o:L.contains g=V)(c:JU R g):JU (up R L) g:=λx y a b hx E i j=>by obtain⟨h1,h2⟩:=hx.hold;obtain⟨e,f⟩:=E.hold;exact bT (B:=[al x,al y]) o O (by simp[aA,h2,f]) (c _ _ a b h1 e i j _) O rfl
end
def ajH:wt W7:=wt.up O λn h=>Yw n h
def atB:ww W7:=ww.up O λs h=>aqS s h
def aga:ws W7:=ws.up O λj r i e f=>aot i e f
def akY:wu W7:=wu.up O λl rows f D k e h=>by rw[apx f D k e h]
def auc:Cv W7 111:=Cv.up O λx h=>YY x h
def ab3:zZ W6:=λx y z rows ac who hx E hz D A=>by
 obtain⟨h1,h2⟩:=hx.fk;obtain⟨u,i⟩:=E.hold;obtain⟨v,j⟩:=hz.hold;obtain⟨r,h',hc,⟨z0,e,rfl⟩|⟨l,b,e,f,rfl,o⟩⟩:=ab8 ⟨[],[],0,[]⟩ O _ _ _ rows ac who h1 u v D A
 .exact .inl ⟨z0,e,bT (L:=L6) (B:=[.agg [al x,al y],al z]) O O (by simp[aA,au,h2,i,j]) hc O O⟩
 .refine .inr ⟨l,e,f,bT (L:=L6) (B:=[.agg [al x,al y],al z]) O O (by simp[aA,au,h2,i,j]) hc ?_ (by simp[au,aA,ju,oY])⟩;rw[dE,iF,zt o f];rfl
def ab4:zZ W7:=zZ.up O ab3
def aeU:xM W6:=xM.up O λx y rows ac hx E e h=>Yl x y rows ac hx E e h
def aeV:xM W7:=xM.up O aeU
def aft:FF W7:=λx y z rows ac ai hx E u o=>by obtain⟨h1,h2⟩:=hx.fk;obtain⟨e,f⟩:=E.hold;obtain⟨i,j⟩:=u.hold;obtain⟨r,v,c,-,rfl⟩:=afu ⟨[],[],0,[]⟩ _ _ _ rows ac ai h1 e i o;exact bT (L:=L7) (B:=[.agg [al x,al y],al z]) O O (by simp[aA,au,h2,f,j]) c O rfl
def agE:FG W7:=λx y rows ac hx E=>by obtain⟨e,f⟩:=hx.fk;obtain⟨i,j⟩:=E.hold;obtain⟨r,u,c,-,b,rfl,o⟩:=agD ⟨[],[],0,[]⟩ _ _ rows ac e i;exact⟨b,o,bT (L:=L7) (B:=[.agg [al x,al y]]) O O (by simp[aA,au,f,j]) c O O⟩
def ajK:xN W7:=λk l f i e=>by obtain⟨r,j,c,n,rfl⟩:=ajJ ⟨[],[],0,[]⟩ O (bU k) l f i e;exact bT (L:=L7) (B:=[.list (bU k) 1 (ints l)]) O (by rw[a_,a_,al,rT]) (by simp[aA,au,eo,ju]) c O (by simp only[ar,au,aA,(Hr l).2];rfl)
def O_:Tryz.f31.results.toList=[.tmp 6]:=by kernel_rfl
def O5:Tryz.f41.results.toList=[.tmp 2]:=by kernel_rfl
def agC(h:Heap)(ep:Int)(X Y C T L:U)(rows:List (List Int))(ac ai:List Int)(text:List UInt8)(l:List Pr)(hx:RL X rows)(E:IL Y ac)(hc:IL C ai)(ht:BL T text)(hp:PL L l):
 ∃h' b,W7.call 31 [.agg (aM ep X Y C),T,L] h=J (.ret (.v (.bool b)),h')/\(b=V->F rows<=80/\F ac<=80/\F ai<=80/\F text<=70000/\F l<=80):=by
 obtain⟨b,A,c1⟩:=agE X Y rows ac hx E;have bx:=nC (ep:=ep) hx E hc;have i:=aK h (aM ep X Y C);have l1:aD aa Gt (h.push (aM ep X Y C)) 25 (.ptr (.box (F h.boxes)) 1)=J (.agg [X,Y]):=by rw[fR Ao PU i (jR O)];rfl
 have l2:aD aa Gt (h.push (aM ep X Y C)) 23 (.ptr (.box (F h.boxes)) 3)=J C:=dF mW i O;have lc:=hc.dB;have lt:=ht.dB;have lp:=hp.dB;have j:=ae.mk A;clear A hx E hc ht hp i;obtain⟨H,e⟩:∃H,h.push (aM ep X Y C)=H:=⟨_,O⟩;rw[e]at l1 l2;generalize aM ep X Y C=K at *
 suffices hs:∃r h',W7.call 31 [.agg K,T,L] h=J (r,h')/\∃b,r=.ret (.v (.bool b))/\(b=V->F rows<=80/\F ac<=80/\F ai<=80/\F text<=70000/\F l<=80) by obtain⟨r,h',c,b,rfl,q⟩:=hs;exact⟨h',b,c,q⟩
 refine bL O Tryz.func31 O ?_;cases b with
 |false=>refine bA @O_ @bg @e (aj @gX @iU) ?_;exact⟨_,_,O,ah,O,λq=>by cases q⟩|true=>
 obtain⟨B,D⟩:=j.out O;by_cases f:(F ai:Int)<=80;rotate_left 1
 .have d1:decide ((F ai:Int)<=80)=ah:=b7 f;clear j f;refine bA @O_ @bg @e (aj @gX @iU) ?_;exact⟨_,_,O,ah,O,λq=>by cases q⟩
 have d1:decide ((F ai:Int)<=80)=V:=bQ f;have key:((F text:Int)<=300)∨(¬(F text:Int)<=300/\¬(65536:Int)<F text)∨(¬(F text:Int)<=300/\(65536:Int)<F text/\¬(F text:Int)<=70000)∨(¬(F text:Int)<=300/\(65536:Int)<F text/\(F text:Int)<=70000):=by omega
 have o:((F l:Int)<=8)∨(¬(F l:Int)<=8/\¬(64:Int)<F l)∨(¬(F l:Int)<=8/\(64:Int)<F l/\¬(F l:Int)<=80)∨(¬(F l:Int)<=8/\(64:Int)<F l/\(F l:Int)<=80):=by omega
 have u:ae (F rows<=80/\F ac<=80/\F ai<=80):=⟨B,D,by omega⟩;clear B D f j;rcases key with t1|⟨t1,t2⟩|⟨t1,t2,t3⟩|⟨t1,t2,t3⟩<;>rcases o with v|⟨v,p2⟩|⟨v,p2,p3⟩|⟨v,p2,p3⟩
 all_goals
  refine bA @O_ @bg @e (aj @gX @iU) ?_
  first|exact⟨_,_,O,ah,O,λq=>by cases q⟩|exact⟨_,_,O,V,O,λ_=>⟨u.out.1,u.out.2.1,u.out.2.2,by omega,by omega⟩⟩
def ako(h:Heap)(ep:Int)(X Y C:U)(rows:List (List Int))(ac ai:List Int)(hx:RL X rows)(E:IL Y ac)(hc:IL C ai)(v:F ai<=1000000):
 ∃r h',W7.call 41 [.agg (aM ep X Y C)] h=J (r,h')/\r=.ret (.v (.bool (iW rows ep ai))):=by
 have c1:=aft X Y C rows ac ai hx E hc v;have bx:=nC (ep:=ep) hx E hc;have f:=aK h (aM ep X Y C);have B:aD aa Gt (h.push (aM ep X Y C)) 3 (.ptr (.box (F h.boxes)) 0)=J (.v (.int .i64 ep)):=dF dY f O;have D:aD aa Gt (h.push (aM ep X Y C)) 25 (.ptr (.box (F h.boxes)) 1)=J (.agg [X,Y]):=by rw[fR Ao PU f (jR O)];rfl
 have l2:aD aa Gt (h.push (aM ep X Y C)) 23 (.ptr (.box (F h.boxes)) 3)=J C:=dF mW f O;have e:ae (iW rows ep ai=(decide (0<=ep)&&decide (ep<=64)&&decide (F ai=cg rows)&&ai.all bX)):=⟨O⟩;generalize iW rows ep ai=res at *
 clear hx E hc f;obtain⟨H,i⟩:∃H,h.push (aM ep X Y C)=H:=⟨_,O⟩;rw[i]at B D l2;generalize aM ep X Y C=K at *
 refine bL O Tryz.func41 O ?_;by_cases h1:0<=ep;rotate_left 1
 .have u:res=ah:=by rw[e.out];simp[h1]
  have j:decide (0<=ep)=ah:=b7 h1;clear h1 e;subst u;refine bA @O5 @bg @i (aj @qR (aj @gX @iU)) ?_;exact⟨_,_,O,O⟩
 have j:decide (0<=ep)=V:=bQ h1;by_cases h2:ep<=64;rotate_left 1
 .have u:res=ah:=by rw[e.out];simp[h2]
  have o:decide (ep<=64)=ah:=b7 h2;clear h1 h2 e;subst u;refine bA @O5 @bg @i (aj @qR (aj @gX @iU)) ?_;exact⟨_,_,O,O⟩
 have o:decide (ep<=64)=V:=bQ h2;have A:ae (res=(ai.all bX&&decide (F ai=cg rows))):=⟨by rw[e.out,j,o,mL,mL,Bool.and_comm]⟩;clear h1 h2 e;generalize (ai.all bX&&decide (F ai=cg rows))=dd at *
 refine bA @O5 @bg @i (aj @qR (aj @gX @iU)) ?_;exact⟨_,_,O,by rw[A.out]⟩
def vU(p:Pr):List U:=ar 3 0 [] .held 4 ([p.aO,p.no,p.d,p.e].map cO)
def aby(p:Pr):Prop:=∀n∈[p.aO,p.no,p.d,p.e],0<=n/\n<=4611686018427387903
def Vk:∀l:List Pr,dm (l.map vU)=l.map vU/\fg 0 0 0 (l.map vU)=V
 | []=>⟨O,O⟩
 |p::l=>by
  obtain⟨h1,h2⟩:=Vk l;refine⟨?_,?_⟩
  .show a_ (vU p)::dm (l.map vU)=_;rw[h1];rfl
  .show(aA 0 0 0 (vU p)&&fg 0 0 0 (l.map vU))=V;rw[h2];rfl
def L8:List aR:=L7++[60,61,31,41,240,243]
noncomputable def OG:aR->Option (List U->Heap->Option (U × Heap)):=lU W7 L8
noncomputable abbrev W8:=whole aa Gt OG
def C6:mo OG L8:=rK
section
variable (R:Rec)
def JV:Prop:=∀(k:Tok) (l:List Pr),F l<=1000->l≠[]->(∀p∈l,aby p)->∀h,R.call 240 [.list k 4 (bH l)] h=J (.ret (.agg (ar 3 0 [] .held 4 (l.map vU))),h)
def FI:Prop:=∀ep X Y C rows ac ai,RL X rows->IL Y ac->IL C ai->F ai<=1000000->∀h,R.call 41 [.agg (aM ep X Y C)] h=J (.ret (.v (.bool (iW rows ep ai))),h)
def FH:Prop:=∀ep X Y C T L rows ac ai text l,RL X rows->IL Y ac->IL C ai->BL T text->PL L l->
 ∃b,(b=V->F rows<=80/\F ac<=80/\F ai<=80/\F text<=70000/\F l<=80)/\∀h,R.call 31 [.agg (aM ep X Y C),T,L] h=J (.ret (.v (.bool b)),h)
end
def BL.fk{x}{b}(h:BL x b):BL (al x) b/\au 0 0 0 (al x)=V:=by obtain⟨k,s,rfl,e⟩:=h;rw[al,qn];exact⟨⟨bU k,s,O,e⟩,by rw[au,eo,jl];rfl⟩
def XD(l):dm (bH l)=bH l/\fg 0 0 0 (bH l)=V:=by
 induction l with
 |nil=>exact⟨O,O⟩|cons p l e=>
  refine⟨?_,?_⟩
  .show a_ (aB p)::dm (bH l)=_;rw[e.1];rfl
  .show(aA 0 0 0 (aB p)&&fg 0 0 0 (bH l))=V;rw[e.2];rfl
section
variable {R:Rec} {L:List aR}
def agN(l:List Pr):au 0 0 0 (.agg (ar 3 0 [] .held 4 (l.map vU)))=V:=by simp only[ar,au,aA,(Vk l).2];rfl
def JV.up(f:L.contains 240=V)(c:JV R):JV (up R L):=λk l i j e=>
 bT (B:=[.list (bU k) 4 (bH l)]) f (by rw[a_,a_,al,(XD l).1]) (by simp[aA,au,eo,(XD l).2]) (c _ l i j e _) O (agN l)
def FI.up(o:L.contains 41=V)(c:FI R):FI (up R L):=λep X Y C rows ac ai hx E hc u=>by obtain⟨h1,h2⟩:=hx.fk;obtain⟨e,f⟩:=E.hold;obtain⟨i,j⟩:=hc.hold;exact bT (B:=[.agg (aM ep (al X) (al Y) (al C))]) o O (by simp[aM,aA,au,h2,f,j]) (c ep _ _ _ rows ac ai h1 e i u _) O rfl
def FH.up(hg:L.contains 31=V)(c:FH R):FH (up R L):=λep X Y C T l' rows ac ai text l hx E hc ht hp=>by obtain⟨h1,h2⟩:=hx.fk;obtain⟨f,i⟩:=E.hold;obtain⟨j,o⟩:=hc.hold;obtain⟨u,v⟩:=ht.fk;obtain⟨A,e⟩:=hp.fk;obtain⟨b,D,c⟩:=c ep _ _ _ _ _ rows ac ai text l h1 f j u A;exact⟨b,D,bT (B:=[.agg (aM ep (al X) (al Y) (al C)),al T,al l']) hg O (by simp[aM,aA,au,h2,i,o,v,e]) (c _) O O⟩
end
def ajI:wt W8:=ajH.up rfl
def atC:ww W8:=atB.up rfl
def agb:ws W8:=aga.up rfl
def ak1:wu W8:=akY.up rfl
def akp:FI W8:=λep X Y C rows ac ai hx E hc o=>by obtain⟨h1,h2⟩:=hx.fk;obtain⟨e,f⟩:=E.hold;obtain⟨i,j⟩:=hc.hold;obtain⟨r,u,c,rfl⟩:=ako ⟨[],[],0,[]⟩ ep _ _ _ rows ac ai h1 e i o;exact bT (L:=L8) (B:=[.agg (aM ep (al X) (al Y) (al C))]) O O (by simp[aM,aA,au,h2,f,j]) c O rfl
def agF:FH W8:=λep X Y C T l' rows ac ai text l hx E hc ht hp=>by obtain⟨h1,h2⟩:=hx.fk;obtain⟨f,i⟩:=E.hold;obtain⟨j,o⟩:=hc.hold;obtain⟨u,v⟩:=ht.fk;obtain⟨A,e⟩:=hp.fk;obtain⟨h',b,c,D⟩:=agC ⟨[],[],0,[]⟩ ep _ _ _ _ _ rows ac ai text l h1 f j u A;exact⟨b,D,bT (L:=L8) (B:=[.agg (aM ep (al X) (al Y) (al C)),al T,al l']) O O (by simp[aM,aA,au,h2,i,o,v,e]) c O O⟩
end Go.Proofs.YtcbhpkjbiehcpaaGreatDoor
end
section
namespace Go.NT
structure Dc where
 no:Int
 tm:Int
 kd:Int
 vl:Int
 fr:Int
 un:Int
 pa:List Int
 rv:List Int
 nd:List Int
 tx:List UInt8
def nA(qw:Int):Int->List Int->Bool
 |_,[]=>V
 |zB,n::l=>decide (zB<n)&&decide (n<qw)&&nA qw n l
def h_(l:List Int)(qw:Int):Bool:=nA qw (-1) l&&decide (F l<=16)
def xI(t:Int):Bool:=decide (0<=t)&&decide (t<1099511627776)
def iB(d:Dc):Bool:=decide (0<=d.no)&&decide (d.no<4096)&&xI d.tm&&decide (0<=d.kd)&&decide (d.kd<16)&&decide (0<=d.vl)&&decide (d.vl<=1099511627776)&&decide (0<=d.fr)&&decide (d.fr<d.un)&&decide (d.un<=1099511627776)&&h_ d.pa 1048577&&h_ d.rv d.no&&h_ d.nd d.no
def Dc.sV(d:Dc):Prop:=F d.pa<=9223372036854775807/\F d.rv<=9223372036854775807/\F d.nd<=9223372036854775807
def Bo(l:List Int):Vl:=.list (l.map .int)
def ja(d:Dc):Vl:=.list [.int d.no,.int d.tm,.int d.kd,.int d.vl,.int d.fr,.int d.un,Bo d.pa,Bo d.rv,Bo d.nd,.text d.tx]
structure Ce where
 rows:List (List Int)
 ac:List Int
 ep:Int
 ai:List Int
 doc:Dc
 who:List Int
 bI:List Pr
 parts:List (Int × Int)
def Ce.Fit(c:Ce):Prop:=F c.rows<=1000000/\F c.ai<=1000000/\F c.who<=1000000/\c.doc.sV/\F c.bI<=1000000/\F c.parts<=1000000
def e_(rows:List (List Int))(ac:List Int)(ep:Int)(ai:List Int)(d:Dc)(who:List Int):Int:=
 if cH rows ac≠0 then cH rows ac
 else if (decide (0<=ep)&&decide (ep<=64)&&ai.all bX&&decide (F ai=cg rows))=ah then 380
 else if iB d=ah then 170
 else if dy (-1) who=ah then 1
 else if (fG rows ac who).2.1=ah∨(fG rows ac who).2.2≠0 then 440
 else 0
end Go.NT
end
section
namespace Go.NT
section
variable {α:Type} (o:α->Bool) (k:α->Int)
def ea:Int->List α->Bool
 |_,[]=>V
 |zB,x::l=>o x&&decide (zB<k x)&&ea (k x) l
def ir(n:Int):List α->Nat
 | []=>0
 |y::l=>if k y<n then ir n l+1 else 0
def jd(x:α)(l:List α):List α:=l.take (ir k (k x) l)++x::l.drop (ir k (k x) l)
def jv(n:Int)(l:List α):Option α:=
 match l[ir k n l]? with
 |some y=>if k y=n then J y else ag
 |none=>ag
end
section
variable {α:Type} {o:α->Bool} {k:α->Int}
def sd{e:Int}{x:α}{l:List α}:ea o k e (x::l)=V↔o x=V/\e<k x/\ea o k (k x) l=V:=by rw[ea,bm,bm,decide_eq_true_eq,and_assoc]
def Om{l:List α}:∀{e:Int},ea o k e l=V->∀x∈l,o x=V/\e<k x:=by
 induction l with
 |nil=>intro _ _ x hx;cases hx
 |cons y l f=>
  intro e h x hx;rw[sd]at h;rcases gU.1 hx with rfl|hx
  .exact⟨h.1,h.2.1⟩
  .have:=f h.2.2 x hx;exact⟨this.1,by omega⟩
def KT(n:Int)(l:List α):ir k n l<=F l:=by
 induction l with
 |nil=>exact aV _|cons y l e=>rw[ir,ef];split<;>omega
def VS{x y:α}{l:List α}(h:k y<k x):jd k x (y::l)=y::jd k x l:=by unfold jd;rw[ir,av h];rfl
def VR{x y:α}{l:List α}(h:¬k y<k x):jd k x (y::l)=x::y::l:=by unfold jd;rw[ir,aL h];rfl
def NC(x:α)(l:List α):F (jd k x l)=F l+1:=by unfold jd;have:=KT (k:=k) (k x) l;rw[ck,ef,cR,eC];omega
def TN{n:Int}{y:α}{l:List α}(h:k y<n):jv k n (y::l)=jv k n l:=by unfold jv;rw[ir,av h,jE]
def LU{n:Int}{y:α}{l:List α}(h:¬k y<n):jv k n (y::l)=if k y=n then J y else ag:=by unfold jv;rw[ir,aL h];rfl
def amg{x:α}(hx:o x=V):∀{l:List α} {e:Int},ea o k e l=V->e<k x->jv k (k x) l=ag->ea o k e (jd k x l)=V:=by
 intro l
 induction l with
 |nil=>intro e _ h _;show ea o k e [x]=V;rw[sd];exact⟨hx,h,O⟩|cons y l j=>
  intro e h i f;rw[sd]at h;by_cases c:k y<k x
  .rw[VS c,sd];rw[TN c]at f;exact⟨h.1,h.2.1,j h.2.2 c f⟩
  .rw[VR c,sd,sd];rw[LU c]at f;have:¬k y=k x:=λq=>(by rw[av q]at f;cases f);exact⟨hx,i,h.1,by omega,h.2.2⟩
def agZ{x:α}:∀{l:List α},jv k (k x) (jd k x l)=J x:=by
 intro l
 induction l with
 |nil=>show jv k (k x) [x]=J x;rw[LU M,av O]|cons y l e=>
  by_cases c:k y<k x
  .rw[VS c,TN c,e]
  .rw[VR c,LU M,av O]
def amh{who:List Int}:∀{l:List α} {f:Int},ea o k f l=V->(∀x∈l,k x∈who)->F l<=F (who.filter λn=>decide (f<n)):=by
 intro l
 induction l with
 |nil=>intro _ _ _;exact bY _|cons x l D=>
  intro f h A;rw[sd]at h;have h1:=D h.2.2 λy E=>A y (gx _ E);have B:∀who:List Int,k x∈who->F (who.filter λn=>decide (k x<n))+1<=F (who.filter λn=>decide (f<n)):=by
   intro who
   induction who with
   |nil=>intro q;cases q
   |cons w who i=>
    intro q;by_cases c:k x<w
    .have j:f<w:=(by omega);rw[tg,av (by simpa using c),tg,av (by simpa using j),ef,ef];have:=i (by rcases gU.1 q with e|e<;>first|omega|exact e);omega
    .rw[tg,aL (by simpa using c)];by_cases e:w=k x
     .have j:f<w:=(by omega);rw[tg,av (by simpa using j),ef];have:F (who.filter λn=>decide (k x<n))<=F (who.filter λn=>decide (f<n)):=by
       clear i q
       induction who with
       |nil=>exact aV _|cons z0 who v=>
        rw[tg,tg];by_cases d:k x<z0
        .rw[av (by simpa using d),av (by simp;omega),ef,ef];omega
        .rw[aL (by simpa using d)];split
         .rw[ef];omega
         .exact v
      omega
     .have:=i (by rcases gU.1 q with u|u<;>first|exact absurd u.symm e|exact u);rw[tg];split
      .rw[ef];omega
      .exact this
  have:=B who (A x gH);rw[ef];omega
def Xy{who:List Int}{l:List α}{e:Int}(h:ea o k e l=V)(A:∀x∈l,k x∈who):F l<=F who:=
 e8 (amh h A) (List.length_filter_le _ _)
def acY{l:List α}{n:Int}{i:Nat}(hi:i<=F l)(h1:∀(j:Nat) y,j<i->l[j]?=J y->k y<n)(h2:∀y,l[i]?=J y->¬k y<n):ir k n l=i:=by
 induction l generalizing i with
 |nil=>simp at hi;subst hi;rfl|cons y l f=>
  cases i with|zero=>rw[ir,aL (h2 y O)]|succ i=>rw[ir,av (h1 0 y (Nat.zero_lt_succ _) O),f (i:=i) (by simpa using hi) (λj z o e=>h1 (j+1) z M (by simpa using e)) λz e=>h2 z (by simpa using e)]
def Xx{l:List α}:∀{e:Int},ea o k e l=V->∀{i j:Nat} {x y:α},l[i]?=J x->l[j]?=J y->i<j->k x<k y:=by
 induction l with
 |nil=>intro _ _ i j x y h;simp at h|cons z l f=>
  intro e h i j x y hx E u;rw[sd]at h;cases j with
  |zero=>omega|succ j=>
   cases i with|zero=>simp at hx;subst hx;exact(Om h.2.2 y (cT (by simpa using E))).2|succ i=>exact f h.2.2 (by simpa using hx) (by simpa using E) M
end
end Go.NT
end
section
namespace Go.NT
deriving instance DecidableEq for Pr
def fT(who:List Int)(p:Pr):Bool:=who.contains p.aO&&decide (0<=p.no)&&decide (p.no<4096)&&bX p.d&&bX p.e
def fU(who:List Int)(z:Int × Int):Bool:=who.contains z.1&&cN z.2
def Ce.e_(c:Ce):Int:=NT.e_ c.rows c.ac c.ep c.ai c.doc c.who
def dD(c:Ce):Int:=
 if c.e_≠0 then 440
 else if (ea (fT c.who) Pr.aO (-1) c.bI&&ea (fU c.who) dM (-1) c.parts)=ah then 440
 else if F c.bI≠F c.who/\c.parts≠[] then 440 else 0
def oc{α:Type}[DecidableEq α](k:α->Int)(x:α)(l:List α):Int × List α:=
 match jv k (k x) l with
 |some y=>if y=x then (0,l) else (151,[])
 |none=>(0,jd k x l)
def fx(c:Ce)(p:Pr):Int × List Pr:=
 if dD c≠0 then (440,[]) else if fT c.who p=ah then (420,[]) else oc Pr.aO p c.bI
def fB(c:Ce)(z:Int × Int):Int × List (Int × Int):=
 if dD c≠0 then (440,[]) else if fU c.who z=ah then (400,[]) else if F c.bI≠F c.who then (420,[]) else oc dM z c.parts
section
variable {α:Type} [DecidableEq α] {k:α->Int} {o:α->Bool} {x y:α} {l m:List α}
def OL(h:oc k x l=(0,m)):(jv k (k x) l=J x/\m=l)∨(jv k (k x) l=ag/\m=jd k x l):=by
 unfold oc at h;split at h
 .rename_i y E;split at h
  .rename_i f;subst f;exact .inl ⟨E,(eD h).2.symm⟩
  .exact absurd (eD h).1 aY
 .rename_i e;exact .inr ⟨e,(eD h).2.symm⟩
def XY(h:oc k x l=(0,m)):jv k (k x) m=J x:=by
 rcases OL h with⟨q,rfl⟩|⟨-,rfl⟩
 .exact q
 .exact agZ
def XX(h:oc k x l=(0,m)):oc k x m=(0,m):=by unfold oc;rw[XY h];simp
def X0(h:oc k x l=(0,m))(E:k y=k x)(e:y≠x):oc k y m=(151,[]):=by unfold oc;rw[E,XY h];simp only;rw[aL λq=>e q.symm]
def Ix(h:oc k x l=(0,m)):F l<=F m/\F m<=F l+1:=by
 rcases OL h with⟨-,rfl⟩|⟨-,rfl⟩
 .omega
 .rw[NC];omega
def XZ(h:oc k x l=(0,m))(hx:o x=V)(e:ea o k (-1) l=V)(f: -1<k x):ea o k (-1) m=V:=by
 rcases OL h with⟨-,rfl⟩|⟨q,rfl⟩
 .exact e
 .exact amg hx e f q
end
def yk{c}:dD c=0↔c.e_=0/\ea (fT c.who) Pr.aO (-1) c.bI=V/\ea (fU c.who) dM (-1) c.parts=V/\(c.parts≠[]->F c.bI=F c.who):=by
 unfold dD;by_cases e:c.e_=0
 .rw[aL (by simp[e])];cases j:ea (fT c.who) Pr.aO (-1) c.bI<;>cases o:ea (fU c.who) dM (-1) c.parts<;>simp[e];by_cases f:c.parts=[]
  .simp[f]
  .by_cases i:F c.bI=F c.who
   .simp[i]
   .simp[f,i]
 .rw[av (by simp[e])];simp[e]
def IP{who}{p}(h:fT who p=V):p.aO∈who:=by unfold fT at h;simp only[bm,J7]at h;exact h.1.1.1.1
def Yv{who}{z}(h:fU who z=V):z.1∈who:=by unfold fU at h;simp only[bm,J7]at h;exact h.1
def Ov{who}:∀{e:Int},dy e who=V->∀n∈who,e<n:=by
 induction who with
 |nil=>intro _ _ n f;cases f
 |cons w who i=>
  intro e h n f;rw[dy]at h;simp only[bm,decide_eq_true_eq]at h;rcases gU.1 f with rfl|f
  .omega
  .have:=i h.2 n f;omega
def ED{c:Ce}(h:c.e_=0):dy (-1) c.who=V:=by
 unfold Ce.e_ NT.e_ at h;split at h
 .rename_i q;exact absurd h q
 split at h
 .exact absurd h aY
 split at h
 .exact absurd h aY
 split at h
 .exact absurd h aY
 .rename_i q;simpa using q
def Oq{c}{p}{l}(hc:dD c=0)(h:fx c p=(0,l)):dD {c with bI:=l}=0/\F c.bI<=F l/\fT c.who p=V:=by
 unfold fx at h;rw[aL (by simp[hc])]at h;split at h
 .exact absurd (eD h).1 aY
 rename_i e;have e:fT c.who p=V:=by simpa using e
 obtain⟨h1,h2,j,o⟩:=yk.1 hc;have hp:=Ov (ED h1) _ (IP e);have f:=XZ h e h2 hp;have u:=Xy f λx hx=>IP (Om f x hx).1;have i:=Ix h;refine⟨yk.2 ⟨h1,f,j,λq=>?_⟩,i.1,e⟩;have:=o q;show F l=F c.who;omega
def amy{c}{p}{l}(hc:dD c=0)(h:fx c p=(0,l)):fx {c with bI:=l} p=(0,l):=by obtain⟨h1,-,e⟩:=Oq hc h;unfold fx at h ⊢;rw[aL (by simp[hc]),aL (by simp[e])]at h;rw[aL (by simp[h1]),aL (by simp[e])];exact XX h
def amD{c}{p q}{l}(hc:dD c=0)(h:fx c p=(0,l))(i:q.aO=p.aO)(e:q≠p):(fx {c with bI:=l} q).1=151∨(fx {c with bI:=l} q).1=420:=by
 obtain⟨h1,-,f⟩:=Oq hc h;unfold fx at h ⊢;rw[aL (by simp[hc]),aL (by simp[f])]at h;rw[aL (by simp[h1])];split
 .exact .inr O
 .rw[show oc Pr.aO q l=(151,[]) from X0 h i e];exact .inl rfl
def Ot{c}{z}{l}(hc:dD c=0)(h:fB c z=(0,l)):dD {c with parts:=l}=0/\F c.parts<=F l/\fU c.who z=V/\F c.bI=F c.who:=by
 unfold fB at h;rw[aL (by simp[hc])]at h;split at h
 .exact absurd (eD h).1 aY
 rename_i e;have e:fU c.who z=V:=by simpa using e
 split at h
 .exact absurd (eD h).1 aY
 rename_i f;have f:F c.bI=F c.who:=by omega
 obtain⟨h1,h2,i,j⟩:=yk.1 hc;have hp:=Ov (ED h1) _ (Yv e);exact⟨yk.2 ⟨h1,h2,XZ h e i hp,λ_=>f⟩,(Ix h).1,e,f⟩
def amM{c}{z}{l}(hc:dD c=0)(h:fB c z=(0,l)):fB {c with parts:=l} z=(0,l):=by obtain⟨h1,-,e,f⟩:=Ot hc h;unfold fB at h ⊢;rw[aL (by simp[hc]),aL (by simp[e]),aL (by simp[f])]at h;rw[aL (by simp[h1]),aL (by simp[e]),aL (by simp[f])];exact XX h
def amO{c}{z q}{l}(hc:dD c=0)(h:fB c z=(0,l))(j:q.1=z.1)(f:q≠z):(fB {c with parts:=l} q).1=151∨(fB {c with parts:=l} q).1=400:=by
 obtain⟨h1,-,i,e⟩:=Ot hc h;unfold fB at h ⊢;rw[aL (by simp[hc]),aL (by simp[i]),aL (by simp[e])]at h;rw[aL (by simp[h1])];split
 .exact .inr O
 .rw[aL (by simp[e]),show oc dM q l=(151,[]) from X0 h j f];exact .inl rfl
end Go.NT
end
section
namespace Go.Proofs.YtcbhpkjbiehcpaaGreatDoor
open Go.AE Go.NT
def Yd:Tryz.f143.results.toList=[.tmp 2]:=by kernel_rfl
def Ye:Tryz.f170.results.toList=[.tmp 2]:=by kernel_rfl
def EN:Tryz.f144.results.toList=[.tmp 4]:=by kernel_rfl
def ri:Tryz.f171.results.toList=[.tmp 4]:=by kernel_rfl
def EP:Tryz.f38.results.toList=[.tmp 2]:=by kernel_rfl
def atI(t:Int)(h:Heap):W8.call 143 [I t] h=J (.ret (.v (.bool (xI t))),h):=by
 unfold I xI;by_cases e:0<=t
 .refine cr O abA O ?_;have:decide (0<=t)=V:=by simp[e]
  exact dV @Yd @mL
 .refine cr O abA O ?_;have:decide (0<=t)=ah:=by simp[e]
  exact dV @Yd @uO
def atJ(t:Int)(h:Heap):W8.call 170 [I t] h=J (.ret (.v (.bool (xI t))),h):=by
 unfold I xI;by_cases e:0<=t
 .refine cr O abD O ?_;have:decide (0<=t)=V:=by simp[e]
  exact dV @Ye @mL
 .refine cr O abD O ?_;have:decide (0<=t)=ah:=by simp[e]
  exact dV @Ye @uO
def Th{l}{i}(h:i<F l):l.drop i=af l i::l.drop (i+1):=by rw[s_ h,gb h]
def akW(h:Heap)(x:U)(l:List Int)(e:Int)(hx:IL x l)(hl:F l<=9223372036854775807):∃r h',W8.call 144 [x,I e] h=J (r,h')/\h'=h/\r=.ret (.v (.bool (h_ l e))):=by
 obtain⟨k,s,rfl,E⟩:=hx;have ks:=ae.mk E;clear E;have u23:=cU;have z3:=eX;have eH:=cG l;unfold I;refine bL O Tryz.func144 O ?_;refine bh @EN ?_;refine b_ (λm A H=>∃(j:Nat) (i:Int),j<=F l/\m=F l-j/\ae (nA e i (l.drop j)=nA e (-1) l)/\A.get 0=.list k s (ints l)/\A.get 1=.v (.int .i64 e)/\A.get 5=.v (.int .i64 i)/\A.get 8=.list k s (ints l)/\A.get 9=.v (.int .i64 (F l:Nat))/\A.get 10=.v (.int .i64 (j:Nat))/\A.defers=[]/\H=h) ?_ (F l) _ _ ?_;rotate_left 1
 .refine⟨0,-1,bY _,O,⟨O⟩,?_,?_,?_,?_,?_,?_,?_,O⟩<;>exact gR
 rintro m A H ⟨j,i,hi,rfl,kP,g0,g1,g5,g8,g9,g10,hd,rfl⟩;by_cases o:j<F l
 .have ev:s=1:=ks.out (by intro q;rw[q]at o;simp at o);subst ev;have ld:=eS (H:=H) (s:=1) o;have fO:(j:Int)<(F l:Int):=by omega
  have B:ae (nA e (-1) l=(decide (i<af l j)&&decide (af l j<e)&&nA e (af l j) (l.drop (j+1)))):=⟨by rw[<-kP.out,Th o,nA]⟩;generalize af l j=u at *
  by_cases D:u<=i
  .have v:ae (h_ l e=ah):=⟨by unfold h_;rw[B.out,b7 (M:¬i<u)];rfl⟩;have d1:decide (u<=i)=V:=bQ D
   repeat' (first|simp(maxSteps:=9999999) (disch:=first|exact dZ|fail) only[gW,reduceIte,aH,aC,EN,aU, *]|refine dX ?_ ?_<;>(intro _;try omega))
   all_goals exact⟨_,_,O,O,by rw[v.out]⟩
  .have d1:decide (u<=i)=ah:=b7 D;by_cases c2:e<=u
   .have v:ae (h_ l e=ah):=⟨by unfold h_;rw[B.out,b7 (M:¬u<e),Bool.and_false];rfl⟩;have d2:decide (u>=e)=V:=bQ c2
    repeat' (first|simp(maxSteps:=9999999) (disch:=first|exact dZ|fail) only[gW,reduceIte,aH,aC,EN,aU, *]|refine dX ?_ ?_<;>(intro _;try omega))
    all_goals exact⟨_,_,O,O,by rw[v.out]⟩
   .have f:ae (nA e u (l.drop (j+1))=nA e (-1) l):=⟨by rw[B.out,bQ (M:i<u),bQ (M:u<e)];rfl⟩;have d2:decide (u>=e)=ah:=b7 M
    repeat' (first|simp(maxSteps:=9999999) (disch:=first|exact dZ|fail) only[gW,reduceIte,aH,aC,EN,aU, *]|refine dX ?_ ?_<;>(intro _;try omega))
    all_goals exact⟨F l-(j+1),by omega,j+1,u,by omega,O,f,by simp⟩
 .have:j=F l:=by omega
  subst this;have v:ae (h_ l e=decide (F l<=16)):=⟨by unfold h_;rw[<-kP.out,FM];rfl⟩
  repeat' (first|simp(maxSteps:=9999999) (disch:=first|exact dZ|fail) only[gW,reduceIte,aH,aC,EN, *]|refine dX ?_ ?_<;>(intro _;try omega))
  all_goals exact⟨_,_,O,O,by rw[v.out];by_cases q:F l<=16<;>simp[q]<;>omega⟩
def amR(h:Heap)(x:U)(l:List Int)(hx:IL x l)(hl:F l<=9223372036854775807):∃r h',W8.call 38 [x] h=J (r,h')/\h'=h/\r=.ret (.v (.bool (dy (-1) l))):=by
 obtain⟨k,s,rfl,D⟩:=hx;have ks:=ae.mk D;clear D;have u23:=cU;have z3:=eX;have eH:=cG l;refine bL O Tryz.func38 O ?_;refine bh @EP ?_;refine b_ (λm A H=>∃(j:Nat) (e:Int),j<=F l/\m=F l-j/\ae (dy e (l.drop j)=dy (-1) l)/\ae (-1<=e)/\A.get 3=.v (.int .i64 e)/\A.get 6=.list k s (ints l)/\A.get 7=.v (.int .i64 (F l:Nat))/\A.get 8=.v (.int .i64 (j:Nat))/\A.defers=[]/\H=h) ?_ (F l) _ _ ?_;rotate_left 1
 .refine⟨0,-1,bY _,O,⟨O⟩,⟨Cx _⟩,?_,?_,?_,?_,?_,O⟩<;>exact gR
 rintro m A H ⟨j,e,hi,rfl,kP,kl,g3,g6,g7,g8,hd,rfl⟩;by_cases i:j<F l
 .have E:s=1:=ks.out (by intro q;rw[q]at i;simp at i);subst E;have ld:=eS (H:=H) (s:=1) i;have fO:(j:Int)<(F l:Int):=by omega
  have v:ae (dy (-1) l=dy e (af l j::l.drop (j+1))):=⟨by rw[<-kP.out,Th i]⟩;generalize af l j=u at *
  by_cases B:u<=e
  .have o:ae (dy (-1) l=ah):=⟨by rw[v.out,dy];simp;omega⟩;have d1:decide (u<=e)=V:=bQ B
   repeat' (first|simp(maxSteps:=9999999) (disch:=first|exact dZ|fail) only[gW,reduceIte,aH,aC,EP,aU, *]|refine dX ?_ ?_<;>(intro _;try omega))
   all_goals exact⟨_,_,O,O,by rw[o.out]⟩
  .have d1:decide (u<=e)=ah:=b7 B;by_cases c2:64<=u
   .have o:ae (dy (-1) l=ah):=⟨by rw[v.out,dy];simp;omega⟩;have d2:decide (u>=64)=V:=bQ c2
    repeat' (first|simp(maxSteps:=9999999) (disch:=first|exact dZ|fail) only[gW,reduceIte,aH,aC,EP,aU, *]|refine dX ?_ ?_<;>(intro _;try omega))
    all_goals exact⟨_,_,O,O,by rw[o.out]⟩
   .have f:ae (dy u (l.drop (j+1))=dy (-1) l):=⟨by have:=kl.out;rw[v.out,dy];simp;omega⟩;have d2:decide (u>=64)=ah:=b7 M;have kl2:ae (-1<=u):=⟨by have:=kl.out;omega⟩
    repeat' (first|simp(maxSteps:=9999999) (disch:=first|exact dZ|fail) only[gW,reduceIte,aH,aC,EP,aU, *]|refine dX ?_ ?_<;>(intro _;try omega))
    all_goals exact⟨F l-(j+1),by omega,j+1,u,by omega,O,f,kl2,by simp⟩
 .have:j=F l:=by omega
  subst this;have o:ae (dy (-1) l=V):=⟨by rw[<-kP.out,FM];rfl⟩
  repeat' (first|simp(maxSteps:=9999999) (disch:=first|exact dZ|fail) only[gW,reduceIte,aH,aC,EP, *]|refine dX ?_ ?_<;>(intro _;try omega))
  all_goals exact⟨_,_,O,O,by rw[o.out]⟩
def an3:Tryz.f72.results.toList=[.tmp 2]:=by kernel_rfl
def an4:Tryz.f95.results.toList=[.tmp 2]:=by kernel_rfl
def anU:Tryz.f32.results.toList=[.tmp 2]:=by kernel_rfl
def fJ(b:UInt8):U:=.v (.int .u8 b.toNat)
def bj(d:Dc)(p r n:U):List U:=[I d.no,I d.tm,I d.kd,I d.vl,I d.fr,I d.un,p,r,n]++d.tx.map fJ
structure lL(d:Dc)(p r n:U):Prop where
 p:IL p d.pa
 r:IL r d.rv
 n:IL n d.nd
 t:d.tx.length=32
def N1{x}{l}(hx:IL x l)(f:F l<=9223372036854775807)(e):∀h,W8.call 144 [x,I e] h=J (.ret (.v (.bool (h_ l e))),h):=λh=>by obtain⟨_,_,c,rfl,rfl⟩:=akW h x l e hx f;exact c
def atY(l:List UInt8):(l.map fJ).all U.cW=V:=by rw[eJ];intro x hx;obtain⟨b,-,rfl⟩:=List.mem_map.1 hx;rfl
section
variable {d:Dc} {p r n:U} (ok:lL d p r n)
include ok
def lL.len:F (bj d p r n)=41:=by unfold bj;rw[ck,br,ok.t];rfl
def lL.cells:(U.agg (bj d p r n)).bF=J (bj d p r n):=by obtain⟨_,_,rfl,-⟩:=ok.p;obtain⟨_,_,rfl,-⟩:=ok.r;obtain⟨_,_,rfl,-⟩:=ok.n;have:=atY d.tx;unfold U.bF bj;simp only;rw[av];rw[sZ,this];rfl
end
def AO:(∀b,dU aa 31 (.ptr (.box b) 0) 0=J (.ptr (.box b) 0))/\(∀b,dU aa 31 (.ptr (.box b) 0) 1=J (.ptr (.box b) 1))/\(∀b,dU aa 31 (.ptr (.box b) 0) 2=J (.ptr (.box b) 2))/\(∀b,dU aa 31 (.ptr (.box b) 0) 3=J (.ptr (.box b) 3))/\
 (∀b,dU aa 31 (.ptr (.box b) 0) 4=J (.ptr (.box b) 4))/\(∀b,dU aa 31 (.ptr (.box b) 0) 5=J (.ptr (.box b) 5))/\(∀b,dU aa 31 (.ptr (.box b) 0) 6=J (.ptr (.box b) 6))/\(∀b,dU aa 31 (.ptr (.box b) 0) 7=J (.ptr (.box b) 7))/\
 (∀b,dU aa 31 (.ptr (.box b) 0) 8=J (.ptr (.box b) 8))/\∀b,dU aa 31 (.ptr (.box b) 0) 9=J (.ptr (.box b) 9):=
 ⟨λ_=>by kernel_rfl,λ_=>by kernel_rfl,λ_=>by kernel_rfl,λ_=>by kernel_rfl,λ_=>by kernel_rfl,λ_=>by kernel_rfl,λ_=>by kernel_rfl,λ_=>by kernel_rfl,λ_=>by kernel_rfl,λ_=>by kernel_rfl⟩
def q_{H}{b}{d}{p r n}(e:H.boxes[b]?=J (bj d p r n)):aD aa Gt H 3 (.ptr (.box b) 0)=J (I d.no)/\aD aa Gt H 3 (.ptr (.box b) 1)=J (I d.tm)/\aD aa Gt H 3 (.ptr (.box b) 2)=J (I d.kd)/\aD aa Gt H 3 (.ptr (.box b) 3)=J (I d.vl)/\aD aa Gt H 3 (.ptr (.box b) 4)=J (I d.fr)/\aD aa Gt H 3 (.ptr (.box b) 5)=J (I d.un)/\
 aD aa Gt H 23 (.ptr (.box b) 6)=J p/\aD aa Gt H 23 (.ptr (.box b) 7)=J r/\aD aa Gt H 23 (.ptr (.box b) 8)=J n:=by
 refine⟨?_,?_,?_,?_,?_,?_,?_,?_,?_⟩<;>first|(rw[fm dY e];rfl)|(rw[fm mW e];rfl)
def vE{H}{b}{D}(f:F D=41)(e:H.boxes[b]?=J D):aD aa Gt H 31 (.ptr (.box b) 0)=J (.agg D):=by rw[fR bD (by kernel_rfl:cC aa 31=J 41) e M,gG,<-f,fK]
def aoJ(h:Heap)(d:Dc)(p r n:U)(ok:lL d p r n)(e:F d.pa<=9223372036854775807)(f:F d.rv<=9223372036854775807)(i:F d.nd<=9223372036854775807):∃j h',W8.call 72 [.agg (bj d p r n)] h=J (j,h')/\j=.ret (.v (.bool (iB d))):=by
 have B:=ok.cells;have o:=N1 ok.p e 1048577;have u:=N1 ok.r f d.no;have v:=N1 ok.n i d.no;have A:=atI d.tm;have L:=q_ (aK h (bj d p r n));have z1:=AO;clear ok e f i;unfold iB;generalize bj d p r n=z0 at *
 generalize h_ d.pa 1048577=u1 at *
 generalize h_ d.rv d.no=u2 at *
 generalize h_ d.nd d.no=u3 at *
 generalize xI d.tm=u4 at *
 obtain⟨no,tm,E,vl,D,un,pa,rv,nd,tx⟩:=d;simp only at L o u v A ⊢;unfold I at *
 refine bL O Tryz.func72 O ?_
 repeat' (first|simp(maxSteps:=9999999) (disch:=first|exact dZ|fail) only[gW,reduceIte,aH,aC,an3,bg, *]|refine dX ?_ ?_<;>(intro _;try omega))
 all_goals exact⟨_,_,O,by simp[*]⟩
def akX(h:Heap)(x:U)(l:List Int)(e:Int)(hx:IL x l)(hl:F l<=9223372036854775807):∃r h',W8.call 171 [x,I e] h=J (r,h')/\h'=h/\r=.ret (.v (.bool (h_ l e))):=by
 obtain⟨k,s,rfl,hs⟩:=hx;have ks:=ae.mk hs;clear hs;have u23:=cU;have z3:=eX;have eH:=cG l;unfold I;refine bL O Tryz.func171 O ?_;refine bh @ri ?_;refine b_ (λm z0 H=>∃(i:Nat) (f:Int),i<=F l/\m=F l-i/\ae (nA e f (l.drop i)=nA e (-1) l)/\ -1<=f/\ae (i=0->f= -1)/\ae (0<i->af l (i-1)=f)/\z0.get 0=.list k s (ints l)/\z0.get 1=.v (.int .i64 e)/\z0.get 5=.v (.int .i64 (i:Nat))/\z0.defers=[]/\H=h) ?_ (F l) _ _ ?_;rotate_left 1
 .refine⟨0,-1,bY _,O,⟨O⟩,Cx _,⟨λ_=>rfl⟩,⟨λq=>absurd q (Nat.lt_irrefl _)⟩,?_,?_,?_,?_,O⟩<;>exact gR
 rintro m z0 H ⟨i,f,hi,rfl,kP,DT,k0,k1,g0,g1,g5,hd,rfl⟩;by_cases u:i<F l;rotate_left 1
 .have:i=F l:=by omega
  subst this;have j:h_ l e=decide (F l<=16):=by unfold h_;rw[<-kP.out,nq (aV _)];rfl
  have B:=ae.mk j;clear j;refine bh @ri ?_;exact⟨_,_,O,O,by rw[B.out];by_cases q:F l<=16<;>simp[q]<;>omega⟩
 have ev:s=1:=ks.out (by intro q;rw[q]at u;simp at u);subst ev;have ld:=eS (H:=H) (s:=1) u;have fO:(i:Int)<(F l:Int):=by omega
 have D:l.drop i=af l i::l.drop (i+1):=by rw[gb u];exact s_ u
 have yZ:=kP.out;rw[D,nA]at yZ;have o:=ae.mk yZ;clear yZ D;by_cases v:af l i<0
 .have ii:decide (af l i<0)=V:=by simp[v]
  have j:h_ l e=ah:=by unfold h_;rw[<-o.out];simp;omega
  have B:=ae.mk j;clear j v;refine bG @ri @aU ?_;refine du C6 bD ?_;refine bG @ri @aU ?_;exact⟨_,_,O,O,by rw[B.out]⟩
 have ii:decide (af l i<0)=ah:=by simp[v]
 by_cases E:e<=af l i
 .have jw:decide (e<=af l i)=V:=by simp[E]
  have j:h_ l e=ah:=by unfold h_;rw[<-o.out];simp;omega
  have B:=ae.mk j;clear j v E;refine bG @ri @aU ?_;refine du C6 bD ?_;refine bG @ri @aU ?_;exact⟨_,_,O,O,by rw[B.out]⟩
 have jw:decide (e<=af l i)=ah:=by simp;omega
 by_cases MC:i=0
 .subst MC;have MK:=k0.out O;have kP2:ae (nA e (af l 0) (l.drop (0+1))=nA e (-1) l):=⟨by rw[<-o.out,bQ (M:f<af l 0),bQ (M:af l 0<e)];rfl⟩;have ug: -1<=af l 0:=by omega
  have kk1:ae (0<0+1->af l (0+1-1)=af l 0):=⟨λ_=>rfl⟩;clear v E MK o;refine bG @ri @aU ?_;refine du C6 bD ?_;refine bG @ri @aU ?_;exact⟨F l-1,by omega,0+1,af l 0,by omega,O,kP2,ug,⟨λq=>absurd q M⟩,kk1,by simp⟩
 .have A:=k1.out M;have ld1:=eS (H:=H) (l:=l) (i:=i-1) (s:=1) M;rw[A]at ld1;have aiU:decide ((0:Int)<(i:Int))=V:=bQ M;have Nm:(i:Int)-1=((i-1:Nat):Int):=by omega
  have avt:((i-1:Nat):Int)<(F l:Int):=by omega
  by_cases c3:af l i<=f
  .have qj:decide (af l i<=f)=V:=(by simp[c3]);have j:h_ l e=ah:=(by unfold h_;rw[<-o.out];simp;omega);have B:=ae.mk j;clear j v E c3 A;refine bG @ri @aU ?_;refine du C6 bD ?_;refine bG @ri @aU ?_;exact⟨_,_,O,O,by rw[B.out]⟩
  .have qj:decide (af l i<=f)=ah:=(by simp;omega);have kP2:ae (nA e (af l i) (l.drop (i+1))=nA e (-1) l):=⟨by rw[<-o.out,bQ (M:f<af l i),bQ (M:af l i<e)];rfl⟩;have ug: -1<=af l i:=(by omega);have kk1:ae (0<i+1->af l (i+1-1)=af l i):=⟨λ_=>rfl⟩;clear v E c3 A o;refine bG @ri @aU ?_;refine du C6 bD ?_;refine bG @ri @aU ?_;exact⟨F l-(i+1),by omega,i+1,af l i,by omega,O,kP2,ug,⟨λq=>absurd q M⟩,kk1,by simp⟩
def N2{x}{l}(hx:IL x l)(f:F l<=9223372036854775807)(e):∀h,W8.call 171 [x,I e] h=J (.ret (.v (.bool (h_ l e))),h):=λh=>by obtain⟨_,_,c,rfl,rfl⟩:=akX h x l e hx f;exact c
def aoK(h:Heap)(d:Dc)(p r n:U)(ok:lL d p r n)(e:F d.pa<=9223372036854775807)(f:F d.rv<=9223372036854775807)(i:F d.nd<=9223372036854775807):∃j h',W8.call 95 [.agg (bj d p r n)] h=J (j,h')/\j=.ret (.v (.bool (iB d))):=by
 have B:=ok.cells;have o:=N2 ok.p e 1048577;have u:=N2 ok.r f d.no;have v:=N2 ok.n i d.no;have A:=atJ d.tm;have L:=q_ (aK h (bj d p r n));have z1:=AO;clear ok e f i;unfold iB;generalize bj d p r n=z0 at *
 generalize h_ d.pa 1048577=u1 at *
 generalize h_ d.rv d.no=u2 at *
 generalize h_ d.nd d.no=u3 at *
 generalize xI d.tm=u4 at *
 obtain⟨no,tm,E,vl,D,un,pa,rv,nd,tx⟩:=d;simp only at L o u v A ⊢;unfold I at *
 refine bL O Tryz.func95 O ?_
 repeat' (first|simp(maxSteps:=9999999) (disch:=first|exact dZ|fail) only[gW,reduceIte,aH,aC,an4,bg, *]|refine dX ?_ ?_<;>(intro _;try omega))
 all_goals exact⟨_,_,O,by simp[*]<;>omega⟩
def yr(d:Dc):Bool:=decide (F d.pa<=20)&&decide (F d.rv<=20)&&decide (F d.nd<=20)
def agH(h:Heap)(d:Dc)(p r n:U)(ok:lL d p r n):∃e h',W8.call 32 [.agg (bj d p r n)] h=J (e,h')/\e=.ret (.v (.bool (yr d))):=by
 have A:=ok.cells;have L:=q_ (aK h (bj d p r n));have z1:=AO;have v:=cU;obtain⟨k1,s1,f,-⟩:=ok.p;obtain⟨k2,s2,i,-⟩:=ok.r;obtain⟨k3,s3,j,-⟩:=ok.n;have B:=cG d.pa;have D:=cG d.rv;have E:=cG d.nd;subst f;subst i;subst j;clear ok;unfold yr;generalize bj d _ _ _=z0 at *
 refine bL O Tryz.func32 O ?_
 repeat' (first|simp(maxSteps:=9999999) (disch:=first|exact dZ|fail) only[gW,reduceIte,aH,aC,anU,bg, *]|refine dX ?_ ?_<;>(intro _;try omega))
 all_goals exact⟨_,_,O,by first|(simp[*];done)|(simp[*];omega)|(have o:F d.pa<=20:=M;have u:F d.rv<=20:=M;simp[o,u];omega)⟩
def PV(ep:Int)(X Y C S W L N:U):List U:=[I ep,X,Y,C,S,W,L,N]
abbrev nl:U:=.list .nil 0 []
def Fl:cC aa 27=J 4:=am
def atp:cC aa 72=J 1:=am
def VO:∃i,aa.info? 46=J i/\i.size=4/\i.bytes<=64/\(i.zero.map λz=>z.cells.size)=J 4:=by
 have h:(match aa.info? 46 with|some i=>Nat.beq i.size 4&&Nat.ble i.bytes 64&&decide ((i.zero.map λz=>z.cells.size)=J 4)|none=>ah)=V:=am;cases e:aa.info? 46 with
 |none=>rw[e]at h;cases h
 |some i=>rw[e]at h;simp only[bm,decide_eq_true_eq]at h;exact⟨i,O,Nat.eq_of_beq_eq_true h.1.1,jR h.1.2,h.2⟩
structure TI(h H:Heap)(X Y:U)(T:List U)(t:Tok):Prop where
 ext:Ext h H
 ok:c_ H=V
 can:db h.tn H t
 pb:H.boxes[h.boxes.length]?=J [X,Y]
 tb:H.boxes[h.boxes.length+1]?=J T
section
variable {h H:Heap} {X Y:U} {T:List U} {t:Tok}
def TI.app(b:TI h H X Y T t):TI h (H.app t) X Y T (.free H.tn):=by have e:=Grown.one b.can b.ok b.ext.tn;exact⟨e.ext b.ext (aV _),e.ok,e.can,by rw[dS];exact b.pb,by rw[dS];exact b.tb⟩
def TI.push(b:TI h H X Y T t)(cs:List U):TI h (H.push cs) X Y T t:=⟨b.ext.trans (.push _ _),b.ok,by rw[yh];exact b.can,aN b.pb,aN b.tb⟩
def TI.put(b:TI h H X Y T t)(e:List U):TI h (H.put (F h.boxes+1) e) X Y e t:=by have f:=(aT.1 b.tb).1;exact⟨b.ext.fI M _,b.ok,by rw[Ay];exact b.can,by rw[cd M];exact b.pb,dh f⟩
def TI.nil(b:TI h H X Y T t):TI h H X Y T .nil:=⟨b.ext,b.ok,.inl O,b.pb,b.tb⟩
end
section
variable {H:Heap} {b:Nat} {ep:Int} {X Y C S W L N x:U}
def stS(e:H.boxes[b]?=J (PV ep X Y C S W L N))(hx:x.bF=J [x]):bV aa H 72 (.ptr (.box b) 4) x=J (H.put b (PV ep X Y C x W L N)):=
 fC (off:=4) (cs:=PV ep X Y C S W L N) (xs:=[x]) hx atp e O (jR O)
end
structure au7(rows:List (List Int))(ac ai:List Int)(sh:List (Int × Int))(who:List Int)(l:List Pr)(nn:List Int)(X Y C S W L N:U):Prop where
 x:RL X rows
 y:IL Y ac
 c:IL C ai
 s:SL S sh
 w:IL W who
 p:PL L l
 n:IL N nn
 wl:who.length<=16
 nl:nn.length=2 * who.length
 sl:sh.length<=1000
 inn:∀p∈sh,0<=p.1/\p.1<ac.length
 cl:ai.length<=1000000
 ll:l.length<=1000000
structure TB(h H:Heap)(T:List U)(t:Tok):Prop where
 ext:Ext h H
 ok:c_ H=V
 can:db h.tn H t
 tb:H.boxes[h.boxes.length]?=J T
section
variable {h H:Heap} {T:List U} {t:Tok}
def TB.app(b:TB h H T t):TB h (H.app t) T (.free H.tn):=by have e:=Grown.one b.can b.ok b.ext.tn;exact⟨e.ext b.ext (aV _),e.ok,e.can,by rw[dS];exact b.tb⟩
def TB.push(b:TB h H T t)(cs:List U):TB h (H.push cs) T t:=⟨b.ext.trans (.push _ _),b.ok,by rw[yh];exact b.can,aN b.tb⟩
def TB.start(e:c_ h=V)(T:List U):TB h (h.push T) T .nil:=⟨.push _ _,e,.inl O,aK _ _⟩
end
def JG:(fW aa 52).bind U.bF=J [I 0,I 0]:=am
def Fm:cC aa 52=J 2:=am
def act:fH aa 52=J V:=am
def zD{H}{b}{x y}(e:H.boxes[b]?=J [I x,I y]):aD aa Gt H 52 (.ptr (.box b) 0)=J (.agg [I x,I y]):=by rw[fR act Fm e (aV 2)];rfl
def Cl{H}{b}{x y u v}(e:H.boxes[b]?=J [I x,I y]):bV aa H 52 (.ptr (.box b) 0) (.agg [I u,I v])=J (H.put b [I u,I v]):=
 fC (off:=0) (cs:=[I x,I y]) (xs:=[I u,I v]) O Fm e O (aV 2)
def u_(z:List Int)(k:Nat):Int:=(z.take k).foldl dx 0
def ach{z}{k}(h:k<F z):u_ z (k+1)=dx (u_ z k) (af z k):=by unfold u_;rw[gg (aP h),List.foldl_append,gb h];rfl
structure uQ(who N:List Int)(l:List Pr):Prop where
 len:l.length=who.length
 nl:N.length=2 * who.length
 ok:∀x∈N,okF x
 at_:∀i<who.length,∃no:Int,0<=no/\no<4096/\l[i]?=J ⟨af who i,no,(ek Gn (af N (2 * i)):Nat),(ek Gn (af N (2 * i+1)):Nat)⟩
def uQ.vN{who N}{l}(c:uQ who N l){i}(h:i<F who):okF (af N (2*i))/\okF (af N (2*i+1)):=⟨c.ok _ (KS (by rw[c.nl];omega)),c.ok _ (KS (by rw[c.nl];omega))⟩
def uQ.jI{who N}{l}(c:uQ who N l):l.map Pr.aO=who:=by
 refine oh λe=>?_;rcases dp e (F who) with h|h
 .obtain⟨f,-,-,q⟩:=c.at_ e h;rw[ec,q,fF,gb h,aP h]
 .rw[uS (by rw[br,c.len];exact h),uS h]
def Tk(n):bX ((ek Gn n:Nat):Int)=V:=by have h:=It aas n;unfold bX;rw[fD,h,aak,decide_eq_true_eq];have:=(elem_iff.1 h).1;omega
def amH:∀{l:List Pr} {e:Int},dy e (l.map Pr.aO)=V->(∀p∈l,0<=p.no/\p.no<4096/\bX p.d=V/\bX p.e=V)->mF e l=V:=by
 intro l
 induction l with
 |nil=>intro _ _ _;rfl|cons p l i=>intro e h1 h2;rw[eI,dy]at h1;simp only[bm,decide_eq_true_eq]at h1;obtain⟨u,v,j,o⟩:=h2 p gH;rw[NT.mF,i h1.2 λq f=>h2 q (gx _ f),j,o];simp only[aak,bm,decide_eq_true_eq];omega
def uQ.mem{who N}{l}(c:uQ who N l){p}(hp:p∈l):∃i,∃(_:i<F who) (f:Int),0<=f/\f<4096/\l[i]?=J p/\p=⟨af who i,f,(ek Gn (af N (2*i)):Nat),(ek Gn (af N (2*i+1)):Nat)⟩:=by obtain⟨i,j⟩:=List.getElem?_of_mem hp;have e:=(aT.1 j).1;rw[c.len]at e;obtain⟨f,o,u,q⟩:=c.at_ i e;rw[j]at q;injection q with q;exact⟨i,e,f,o,u,j,q⟩
def uQ.bI{who N}{l}(c:uQ who N l)(A:dy (-1) who=V):mF (-1) l=V:=by refine amH (by rw[c.jI];exact A) λp hp=>?_;obtain⟨o,i,j,e,f,-,rfl⟩:=c.mem hp;exact⟨e,f,Tk _,Tk _⟩
def ixW(who:List Int)(k:Int):Nat:=who.idxOf k
section
variable {rows:List (List Int)} {ac who N s y:List Int} {l:List Pr} {text:List UInt8} {ep:Int}
end
def R3:List (List Int):=[[1,1],[1,2],[1,3]]
def O3:List Int:=[0,1,2]
def S2:List Int:=[10,4]
def zU:List UInt8:=[116,101,120,116]
def pA:Pr:=⟨0,0,(ek Gn 5:Nat),(ek Gn 6:Nat)⟩
def pB:Pr:=⟨2,2,(ek Gn 7:Nat),(ek Gn 8:Nat)⟩
def ab2:fG R3 O3 [0,2]=([536870896,0,536870894],V,0):=by decide+kernel
abbrev C3:List Int:=p8 S2
abbrev b3(k:Int):Int:=((i' (af C3 0) zU [pA,pB] k:Nat):Int)
abbrev SM:Int:=((gp (af C3 0) zU [pA,pB]:Nat):Int)
def x3:Int:=dx (dx 5 (cS 6 (b3 0))) (cS SM 21)
def y3:Int:=dx (dx 7 (cS 8 (b3 2))) (cS SM 1073741778)
def Gb(a b):fy aa 23 2 [(0,.v (.int .i64 a)),(1,.v (.int .i64 b))]=J (.list .tight 1 (ints [a,b])):=am
def X3:U:=.list .tight 1 [[.list .tight 1 (ints [1,1])],[.list .tight 1 (ints [1,2])],[.list .tight 1 (ints [1,3])]]
def T3:U:=.list .held 1 (bJ zU)
def Yx:RL X3 R3:=by
 refine⟨.tight,1,[.list .tight 1 (ints [1,1]),.list .tight 1 (ints [1,2]),.list .tight 1 (ints [1,3])],O,λ_=>rfl,O,λi a r e f=>?_⟩
 match i with
 |0=>injection e with e;injection f with f;subst e;subst f;exact⟨_,_,O,λ_=>rfl⟩
 |1=>injection e with e;injection f with f;subst e;subst f;exact⟨_,_,O,λ_=>rfl⟩
 |2=>injection e with e;injection f with f;subst e;subst f;exact⟨_,_,O,λ_=>rfl⟩
 |i+3=>simp at e
def adN(p q):fy aa 32 2 [(0,.agg (aB p)),(1,.agg (aB q))]=J (.list .tight 4 (bH [p,q])):=am
def auL:(fW aa 25).bind U.bF=J [nl,nl]:=am
def aab:(fW aa 27).bind U.bF=J (aM 0 nl nl nl):=am
def adb{X Y C}{rows}{ac ai}(hx:RL X rows)(E:IL Y ac)(hc:IL C ai):iI aa 27 [(1,.agg [X,Y]),(2,C)]=J (.agg (aM 0 X Y C)):=by obtain⟨_,_,_,rfl,-⟩:=hx.form;obtain⟨_,_,rfl,-⟩:=E;obtain⟨_,_,rfl,-⟩:=hc;kernel_rfl
def adh(a b):iI aa 52 [(0,I a),(1,I b)]=J (.agg [I a,I b]):=am
section
variable {rows:List (List Int)} {ac u avU:List Int} {v sm:Int} {text:List UInt8}
end
def BF(l:List Pr)(z:List Int):Bool:=decide (F z=F l)&&z.all cN
def iT(rows:List (List Int))(ac:List Int)(ep:Int)(ai:List Int)(text:List UInt8)(l:List Pr)(z:List Int):(Int × Int) × Bool × Int:=
 if eg rows ac ep ai text l≠0 then ((0,0),ah,eg rows ac ep ai text l)
 else if BF l z=ah then ((0,0),ah,1)
 else if rC (af ai 0) text ((gp (af ai 0) text l:Nat):Int) (z.foldl dx 0) then ((((gp (af ai 0) text l:Nat):Int),z.foldl dx 0),V,0)
 else ((0,0),ah,0)
section
variable {rows:List (List Int)} {ac who N s y z:List Int} {l:List Pr} {text:List UInt8} {ep:Int}
structure au1(rows:List (List Int))(ac who N s y:List Int)(l:List Pr)(text:List UInt8)(ep:Int):Prop where
 au8:uQ who N l
 acc:fG rows ac who=(y,V,0)
 ne:who≠[]
 wl:who.length<=64
 tl:text.length<=65536
 ep:0<=ep/\ep<=64
 sl:s.length=cg rows
end
section
variable {H:Heap} {b:Nat} {ep:Int} {X Y C S L Z x:U}
end
structure wF(h H:Heap)(X Y:U)(T:List U)(tz to:Tok):Prop where
 ti:TI h H X Y T tz
 co:db h.tn H to
 ne:∀a,tz=.free a->to≠ .free a
def wF.start{h H}{X Y}{T}{e}(b:TI h H X Y T e):wF h H X Y T e .nil:=⟨b,.inl O,λ_ _ q=>by cases q⟩
def wF.push{h H}{X Y}{T}{f e}(b:wF h H X Y T f e)(cs):wF h (H.push cs) X Y T f e:=⟨b.ti.push cs,by rw[yh];exact b.co,b.ne⟩
def wF.app{h H}{X Y}{T}{o j}(b:wF h H X Y T o j):wF h (H.app j) X Y T o (.free H.tn):=by
 have i:=Grown.one b.co b.ti.ok b.ti.ext.tn;refine⟨⟨i.ext b.ti.ext (aV _),i.ok,C8 b.ti.can λa e f=>b.ne a f e,by rw[dS];exact b.ti.pb,by rw[dS];exact b.ti.tb⟩,i.can,λa e f=>?_⟩;injection f with f;subst f;rcases b.ti.can with q|q|⟨m,q,-,u⟩
 .rw[q]at e;cases e
 .rw[q]at e;cases e
 .rw[q]at e;injection e with e;have:=qN u;omega
def R4:List (List Int):=[[1,1],[1,2],[1,3]]
def O4:List Int:=[1,2,3]
def X4:U:=.list .tight 1 [[.list .tight 1 (ints [1,1])],[.list .tight 1 (ints [1,2])],[.list .tight 1 (ints [1,3])]]
def RL.nh{x}{l}(hx:RL x l)(e:au 0 0 0 x=V)(h):RL (dE h x) l/\au 0 0 0 (dE h x)=V:=by obtain⟨k,s,f,rfl,i,h1,h2⟩:=hx;refine⟨⟨bU k,s,f,O,i,h1,h2⟩,?_⟩;show au 0 0 0 (.list (bU k) s (f.map λa=>[a]))=V;rw[au]at e ⊢;rw[eo,mL];simp only[bm]at e;exact e.2
def IL.nh{x}{l}(hx:IL x l)(h):IL (dE h x) l/\au 0 0 0 (dE h x)=V:=by obtain⟨k,s,rfl,e⟩:=hx;refine⟨⟨bU k,s,O,e⟩,?_⟩;show au 0 0 0 (.list (bU k) s (ints l))=V;rw[au,eo,ju];rfl
def BL.nh{x}{l}(hx:BL x l)(h):BL (dE h x) l/\au 0 0 0 (dE h x)=V:=by obtain⟨k,s,rfl,e⟩:=hx;refine⟨⟨bU k,s,O,e⟩,?_⟩;show au 0 0 0 (.list (bU k) s (bJ l))=V;rw[au,eo,jl];rfl
def PL.nh{x}{l}(hx:PL x l)(h):PL (dE h x) l/\au 0 0 0 (dE h x)=V:=by obtain⟨k,s,rfl,e⟩:=hx;refine⟨⟨bU k,s,O,e⟩,?_⟩;show au 0 0 0 (.list (bU k) s (bH l))=V;rw[au,eo,Lz];rfl
def acf(a b):∀h,W7.call 80 [I a,I b] h=J (.ret (I (dx a b)),h):=bT (L:=L7) O O O (ace a b _) O rfl
section
variable (ep:Int) (X Y C T L:U) (rows:List (List Int)) (ac ai:List Int) (text:List UInt8) (l:List Pr)
 (hx:RL X rows) (E:IL Y ac) (hc:IL C ai) (ht:BL T text) (hp:PL L l) (eM:ai.length<=1000000) (gJ:l.length<=1000000)
include hx E hc ht hp eM gJ
def adD:(eg rows ac ep ai text l≠0/\∀h,W7.call 37 [.agg (aM ep X Y C),T,L] h=J (.ret (.tuple [.list .nil 0 [],I 0,I 0,I (eg rows ac ep ai text l)]),h))∨
 (eg rows ac ep ai text l=0/\∃Z,IL Z (tF (af ai 0) text l)/\∀h,W7.call 37 [.agg (aM ep X Y C),T,L] h=J (.ret (.tuple [Z,I ((jM (af ai 0) text l:Nat):Int),I ((gp (af ai 0) text l:Nat):Int),I 0]),h)):=by
 obtain⟨f,i,e,u,h1,h2,B,D⟩:=NK ep hx E hc;obtain⟨h5,h6⟩:=ht.hold;obtain⟨h7,h8⟩:=hp.hold;have j:a_ [.agg (aM ep X Y C),T,L]=[.agg (aM ep f i e),al T,al L]:=by rw[a_,a_,a_,a_,u]
 have o:aA 0 0 0 [.agg (aM ep f i e),al T,al L]=V:=by rw[aA,aA,aA,aA,D,h6,h8];rfl
 rcases RV ep f i e (al T) (al L) rows ac ai text l h1 h2 B h5 h7 eM gJ with⟨q,c⟩|⟨q,Z,hZ,c⟩
 .exact .inl ⟨q,bT (L:=L7) O j o (c _) O O⟩
 .obtain⟨v,A⟩:=hZ.nh ⟨[],[],0,[]⟩;refine .inr ⟨q,dE ⟨[],[],0,[]⟩ Z,v,bT (L:=L7) O j o (c _) O ?_⟩;rw[au,aA,A];rfl
end
def aum(f e s)(T)(text)(ht:BL T text)(i:F text<=1000000):
 ∀h,W7.call 26 [I f,T,.agg [I e,I s]] h=J (.ret (.v (.bool (rC f text e s))),h):=by
 obtain⟨h1,h2⟩:=ht.hold;exact bT (L:=L7) (B:=[I f,al T,.agg [I e,I s]]) O (by simp only[a_];rfl) (by simp only[aA];rw[h2];rfl) (Z8 f e s (al T) text h1 i _) O rfl
def Ja:Tryz.f122.results.toList=[.tmp 8,.tmp 9]:=am
def YG:Tryz.f184.results.toList=[.tmp 2]:=am
def aqN:Tryz.f123.results.toList=[.tmp 4]:=am
def Pn:Tryz.f124.results.toList=[.tmp 6]:=am
def B_:Tryz.f60.results.toList=[.cell 8 52,.tmp 9,.tmp 10]:=am
section
variable {pr:aR->Option (List U->Heap->Option (U × Heap))}
def ajr(M_:pr 164=ag)(g:aR)(p:Int->Bool)(h:Heap)(x:U)(l:List Int)(hx:IS h x l)(hl:l.length<=1000000)(hp:∀n∈l,(whole aa Gt pr).call g [I n] h=J (.ret (.v (.bool (p n))),h)):
 ∃r h',(whole Tryz.prog Gt pr).call 164 [x,.func (.func g) [] []] h=some (r,h')/\h'=h/\∃i:Int,r=.ret (I i)/\decide (0<=i)=l.any p:=by
 have lnx:=hx.len;have B:=ae.mk (aj hp hx);clear hp hx;refine bL M_ Tryz.func164 rfl ?_;refine bh @rm ?_;refine b_ (λm D H=>∃i:Nat,i<=l.length/\m=l.length - i/\(l.take i).any p=ah/\D.get 0=x/\D.get 1=.func (.func g) [] []/\D.get 7=.v (.int .i64 (l.length:Nat))/\D.get 8=.v (.int .i64 (i:Nat))/\D.defers=[]/\H=h) ?_ l.length _ _ ?_;rotate_left 1
 .refine⟨0,bY _,rfl,by simp,?_,?_,?_,?_,?_,rfl⟩<;>exact gR
 clear lnx;rintro m D H ⟨i,hi,rfl,E,g0,g1,g7,g8,hd,rfl⟩;have ka:=ae.mk E;clear E;by_cases o:i<l.length
 .obtain⟨a,ix,A⟩:=B.out.2.at o;have ld:=A H B.out.2;clear A;have v:l[i]?=J (af l i):=by rw[aP o,gb o]
  have hc:=B.out.1 (af l i) (cT v);have fO:(i:Int)<(l.length:Int):=by omega
  have f:(l.take (i+1)).any p=p (af l i):=by rw[gg v,List.any_append,ka.out];simp
  have kt:=ae.mk f;have kh:=ae.mk v;clear v f;unfold I at hc;cases e:p (af l i) with
  |true=>rw[e] at hc;have j:l.any p=V:=List.any_eq_true.2 ⟨_,cT kh.out,e⟩;have u:=ae.mk j;clear j e;refine cK @rm @dO.{0} @gj.{0} ?_;exact⟨_,_,rfl,rfl,(i:Int),rfl,by rw[u.out];simp⟩
  |false=>rw[e] at hc;have kt2:(l.take (i+1)).any p=ah:=kt.out.trans e;clear e;refine cK @rm @dO.{0} @gj.{0} ?_;exact⟨l.length - (i+1),by omega,i+1,by omega,rfl,kt2,by simp⟩
 .have:i=l.length:=by omega
  subst this;have:=ka.out;rw[fK] at this;have u:=ae.mk this;clear this;refine bh @rm ?_;exact⟨_,_,rfl,rfl,-1,rfl,by rw[u.out];rfl⟩
def afz(f:pr 164=ag)(e:pr 91=ag)(g:aR)(p:Int->Bool)(h:Heap)(x:U)(l:List Int)(hx:IS h x l)(o:F l<=1000000)(hp:∀n∈l,(whole aa Gt pr).call g [I n] h=J (.ret (.v (.bool (p n))),h)):
 (whole aa Gt pr).call 91 [x,.func (.func g) [] []] h=J (.ret (.v (.bool (l.any p))),h):=by
 obtain⟨r,u,c,rfl,v,rfl,i⟩:=ajr f g p h x l hx o hp;have j:decide (0<=v)=l.any p:=i;unfold I at c;refine cr e Tryz.func91 O ?_;clear i hp hx;exact iL @O6
end
def alW(n)(h):W7.call 184 [I n] h=J (.ret (.v (.bool (lu n))),h):=by
 unfold I lu;by_cases e:n<0
 .refine cr O abE O ?_;have:decide (n<0)=V:=by simp[e]
  exact dV @YG @Bool.true_or
 .refine cr O abE O ?_;have:decide (n<0)=ah:=by simp[e]
  exact dV @YG @Bool.false_or
def Wo{H}{b}{ep}{X Y C}(e:H.boxes[b]?=J (aM ep X Y C)):aD aa Gt H 27 (.ptr (.box b) 0)=J (.agg (aM ep X Y C)):=by rw[fR am Fl e (jR O)];rfl
def oH(rows:List (List Int))(ac:List Int)(ep:Int)(ai:List Int)(text:List UInt8)(l:List Pr)(z:List Int):Int × Int:=
 if eg rows ac ep ai text l≠0 then (0,eg rows ac ep ai text l) else if BF l z=ah then (0,1) else (((gp (af ai 0) text l:Nat):Int),0)
def aeW(h:Heap)(ep:Int)(X Y C T L Z:U)(rows:List (List Int))(ac ai:List Int)(text:List UInt8)(l:List Pr)(z:List Int)
 (hx:RL X rows) (E:IL Y ac) (hc:IL C ai) (ht:BL T text) (hp:PL L l) (eM:F ai<=1000000) (gJ:F l<=1000000) (D:IS h Z z) (zr:F z<=1000000):
 ∃r h',W7.call 122 [.agg (aM ep X Y C),T,L,Z] h=J (r,h')/\h'=h.push (aM ep X Y C)/\r=.ret (.tuple [I (oH rows ac ep ai text l z).1,I (oH rows ac ep ai text l z).2]):=by
 have bx:=nC (ep:=ep) hx E hc;have c1:=adD ep X Y C T L rows ac ai text l hx E hc ht hp eM gJ;have A:IS (h.push (aM ep X Y C)) Z z:=D.mono λc cs q=>aN q;have B:=afz (pr:=Iu) O O 184 lu (h.push (aM ep X Y C)) Z z A zr (λn _=>alW n _);have lnZ:=D.len;have lnL:=hp.dB;have l1:=Wo (aK h (aM ep X Y C));have f:(!z.any lu)=z.all cN:=KM z;refine bL O Tryz.func122 O ?_;rcases c1 with⟨q,c1⟩|⟨q,z0,hB,c1⟩
 .have i:ae (oH rows ac ep ai text l z=(0,eg rows ac ep ai text l)):=⟨by unfold oH;rw[av q]⟩;generalize eg rows ac ep ai text l=be at *
  clear hx E hc ht hp D A f B;unfold I at *
  refine bG @Ja @bg ?_;exact⟨_,_,O,O,by rw[i.out]⟩
 have i:ae (oH rows ac ep ai text l z=if BF l z=ah then (0,1) else (((gp (af ai 0) text l:Nat):Int),0)):=⟨by unfold oH;rw[aL (by rw[q];simp)]⟩;have u:ae (BF l z=(decide (F z=F l)&&z.all cN)):=⟨O⟩;clear hx E hc ht hp D A q hB;generalize ((gp (af ai 0) text l:Nat):Int)=ch at *
 generalize ((jM (af ai 0) text l:Nat):Int)=pt at *
 unfold I at *
 by_cases e:F z=F l;rotate_left 1
 .have hI:¬((F z:Nat):Int)=((F l:Nat):Int):=by omega
  have dI:decide (((F z:Nat):Int)≠((F l:Nat):Int))=V:=bQ hI;have j:ae (oH rows ac ep ai text l z=(0,1)):=⟨by rw[i.out,av (by rw[u.out,b7 e];rfl)]⟩;clear i u f B e;refine bG @Ja @bg ?_;exact⟨_,_,O,O,by rw[j.out]⟩
 have hI:((F z:Nat):Int)=((F l:Nat):Int):=by omega
 have dI:decide (((F z:Nat):Int)=((F l:Nat):Int))=V:=bQ hI;cases o:z.all cN with
 |true=>
  have v:z.any lu=ah:=by rw[o]at f;simpa using f
  rw[v]at B;have j:ae (oH rows ac ep ai text l z=(ch,0)):=⟨by rw[i.out,aL (by rw[u.out,bQ e,o];simp)]⟩;clear i u f v o e;refine bG @Ja @bg ?_;exact⟨_,_,O,O,by rw[j.out]⟩
 |false=>
  have v:z.any lu=V:=by rw[o]at f;simpa using f
  rw[v]at B;have j:ae (oH rows ac ep ai text l z=(0,1)):=⟨by rw[i.out,av (by rw[u.out,o];simp)]⟩;clear i u f v o e;refine bG @Ja @bg ?_;exact⟨_,_,O,O,by rw[j.out]⟩
def acg(a b)(h):W7.call 123 [I a,I b] h=J (.ret (I (dx a b)),h):=by
 have c:=acf a b;unfold I at *
 refine cr O Tryz.func123 O ?_;exact iL @aqN
def agW(h:Heap)(x:U)(l:List Int)(hx:IS h x l)(hl:F l<=1000000):
 ∃r h',W7.call 124 [x,I 0,.func (.func 123) [] []] h=J (r,h')/\h'=h/\r=.ret (I (l.foldl dx 0)):=by
 have A:=hx.len;have v:=ae.mk hx;clear hx;unfold I;refine bL O Tryz.func124 O ?_;refine bh @Pn ?_;refine b_ (λm j H=>∃e:Nat,e<=F l/\m=F l-e/\j.get 1=.v (.int .i64 (u_ l e))/\j.get 2=.func (.func 123) [] []/\j.get 9=x/\j.get 10=.v (.int .i64 (F l:Nat))/\j.get 11=.v (.int .i64 (e:Nat))/\j.defers=[]/\H=h) ?_ (F l) _ _ ?_;rotate_left 1
 .refine⟨0,bY _,O,?_,?_,?_,?_,?_,?_,O⟩<;>exact gR
 clear A;rintro m j H ⟨e,hi,rfl,B,g2,g9,g10,g11,hd,rfl⟩;by_cases f:e<F l
 .obtain⟨a,ix,i⟩:=v.out.at f;have ld:=i H v.out;clear i;have hc:=acg (u_ l e) (af l e) H;rw[<-ach f]at hc;have D:(e:Int)<(F l:Int):=by omega
  generalize u_ l e=ak at *
  generalize u:u_ l (e+1)=E at *
  generalize af l e=z0 at *
  unfold I at hc;refine cK @Pn @dO.{0} @gj.{0} ?_;exact⟨F l-(e+1),by omega,e+1,by omega,O,by rw[u],by simp⟩
 .have:e=F l:=by omega
  subst this;have o:u_ l (F l)=l.foldl dx 0:=by unfold u_;rw[fK]
  rw[o]at B;refine bh @Pn ?_;exact⟨_,_,O,O,O⟩
def afr(h:Heap)(ep:Int)(X Y C T L Z:U)(rows:List (List Int))(ac ai:List Int)(text:List UInt8)(l:List Pr)(z:List Int)
 (hx:RL X rows) (E:IL Y ac) (hc:IL C ai) (ht:BL T text) (hp:PL L l) (eM:F ai<=1000000) (gJ:F l<=1000000) (xl:F text<=1000000) (hz:IS h Z z) (zr:F z<=1000000):
 ∃r h',W7.call 60 [.agg (aM ep X Y C),T,L,Z] h=J (r,h')/\Ext h h'/\r=.ret (.tuple [.agg [I (iT rows ac ep ai text l z).1.1,I (iT rows ac ep ai text l z).1.2],.v (.bool (iT rows ac ep ai text l z).2.1),I (iT rows ac ep ai text l z).2.2]):=by
 have bx:=nC (ep:=ep) hx E hc;have zc:=JG;obtain⟨H0,e⟩:∃H0,(h.push (aM ep X Y C)).push [I 0,I 0]=H0:=⟨_,O⟩;have B:F (h.push (aM ep X Y C)).boxes=F h.boxes+1:=bE _ _;have k0:H0.boxes[h.boxes.length]?=J (aM ep X Y C):=by rw[<-e];exact aN (aK _ _)
 have g0:H0.boxes[F h.boxes+1]?=J [I 0,I 0]:=by have:=aK (h.push (aM ep X Y C)) [I 0,I 0];rw[B,e]at this;exact this
 have x0:Ext h H0:=by rw[<-e];exact(Ext.push _ _).trans (.push _ _)
 obtain⟨_,H1,c1,tV,rfl⟩:=aeW H0 ep X Y C T L Z rows ac ai text l z hx E hc ht hp eM gJ (hz.mono λc cs q=>x0.box _ _ q) zr;have o:Ext H0 H1:=by rw[tV];exact .push _ _
 have k1:=o.box _ _ k0;have g1:=o.box _ _ g0;have l0:=Wo k0;have lG:=zD g1;have sG:=Cl (u:=0) (v:=0) g1;rw[lH g1]at sG;have kx:=ae.mk (x0.trans o);have kv:ae (iT rows ac ep ai text l z=if eg rows ac ep ai text l≠0 then ((0,0),ah,eg rows ac ep ai text l) else if BF l z=ah then ((0,0),ah,1)
  else if rC (af ai 0) text ((gp (af ai 0) text l:Nat):Int) (z.foldl dx 0) then ((((gp (af ai 0) text l:Nat):Int),z.foldl dx 0),V,0) else ((0,0),ah,0)):=⟨O⟩
 refine bL O Tryz.func60 O ?_;by_cases j:eg rows ac ep ai text l=0;rotate_left 1
 .have A:oH rows ac ep ai text l z=(0,eg rows ac ep ai text l):=by unfold oH;rw[av j]
  rw[A]at c1;have D:ae (iT rows ac ep ai text l z=((0,0),ah,eg rows ac ep ai text l)):=⟨by rw[kv.out,av j]⟩;generalize eg rows ac ep ai text l=be at *
  clear hx E hc ht hp hz kv A tV x0 o k0 g0 k1 g1;unfold I at *
  refine bA @B_ @bg @B @e ?_;exact⟨_,_,O,kx.out,by rw[D.out]⟩
 obtain⟨p1,p2,-⟩:=F' j;have A':0<F ai:=by rw[p2];exact(vd p1).1
 cases hk:BF l z with
 |false=>
  have A:oH rows ac ep ai text l z=(0,1):=by unfold oH;rw[aL (by rw[j];simp),av hk]
  rw[A]at c1;have D:ae (iT rows ac ep ai text l z=((0,0),ah,1)):=⟨by rw[kv.out,aL (by rw[j];simp),av hk]⟩;clear hx E hc ht hp hz kv A tV x0 o k0 g0 k1 g1 j hk p1 p2;unfold I at *
  refine bA @B_ @bg @B @e ?_;exact⟨_,_,O,kx.out,by rw[D.out]⟩
 |true=>
  have A:oH rows ac ep ai text l z=(((gp (af ai 0) text l:Nat):Int),0):=by unfold oH;rw[aL (by rw[j];simp),aL (by rw[hk];simp)]
  rw[A]at c1;have D:ae (iT rows ac ep ai text l z=if rC (af ai 0) text ((gp (af ai 0) text l:Nat):Int) (z.foldl dx 0) then ((((gp (af ai 0) text l:Nat):Int),z.foldl dx 0),V,0) else ((0,0),ah,0)):=⟨by rw[kv.out,aL (by rw[j];simp),aL (by rw[hk];simp)]⟩;obtain⟨_,H1f,c2,e1f,rfl⟩:=agW H1 Z z (hz.mono λc cs q=>(x0.trans o).box _ _ q) zr;rw[e1f]at c2;have c3:=aum (af ai 0) ((gp (af ai 0) text l:Nat):Int) (z.foldl dx 0) T text ht xl;have ixC:dK aa 23 C (.v (.int .i64 0))=J (.elem 1 (ints ai) 0 0):=hc.ix (i:=0) A';have ldC:∀K:Heap,aD aa Gt K 3 (.elem 1 (ints ai) 0 0)=J (.v (.int .i64 (af ai 0))):=λK=>eS A';generalize z.foldl dx 0=sm at *
  generalize ((gp (af ai 0) text l:Nat):Int)=f at *
  generalize Bg:rC (af ai 0) text f sm=vv at *
  generalize af ai 0=key at *
  obtain⟨H2,vi⟩:∃H2,H1.push [I f,I sm]=H2:=⟨_,O⟩;have x2:Ext H1 H2:=by rw[<-vi];exact .push _ _
  have l1:aD aa Gt H2 23 (.ptr (.box (F h.boxes)) 3)=J C:=dF mW (x2.box _ _ k1) O;have s1:bV aa (H1.push [I 0,I 0]) 52 (.ptr (.box (F H1.boxes)) 0) (.agg [I f,I sm])=J H2:=by rw[<-vi];exact lJ O Fm O O
  have t2:H2.boxes[H1.boxes.length]?=J [I f,I sm]:=by rw[<-vi];exact aK _ _
  have l2:=zD t2;have g2:=x2.box _ _ g1;have lG2:=zD g2;have sG2:=Cl (u:=0) (v:=0) g2;rw[lH g2]at sG2;have sR:=Cl (u:=f) (v:=sm) g2;have gl:=(aT.1 g2).1;have lR:aD aa Gt (H2.put (F h.boxes+1) [I f,I sm]) 52 (.ptr (.box (F h.boxes+1)) 0)=J (.agg [I f,I sm]):=zD (dh gl);have bd:=adh f sm;have kx2:=ae.mk (aj ((x0.trans o).trans x2) (((x0.trans o).trans x2).fI M (b:=F h.boxes+1) [I f,I sm]));clear hx E hc ht hp hz kv A tV x0 o x2 k0 g0 k1 g1 g2 t2 j hk p1 p2 A' kx gl sG lG;cases vv with
  |true=>
   have kr2:ae (iT rows ac ep ai text l z=((f,sm),V,0)):=⟨D.out⟩;clear D Bg sG2 lG2;unfold I at *
   refine bA @B_ @bg @B (aj @e @iU) ?_;refine du Sk am ?_;refine bG @B_ @iU ?_;exact⟨_,_,O,kx2.out.2,by rw[kr2.out]⟩
  |false=>
   have kr2:ae (iT rows ac ep ai text l z=((0,0),ah,0)):=⟨D.out⟩;clear D Bg sR lR;unfold I at *
   refine bA @B_ @bg @B (aj @e @iU) ?_;refine du Sk am ?_;refine bG @B_ @iU ?_;exact⟨_,_,O,kx2.out.1,by rw[kr2.out]⟩
end Go.Proofs.YtcbhpkjbiehcpaaGreatDoor
end
section
namespace Go.AE
open Go.RowKit (Below)
mutual
def ij(z:Nat)(h:Heap):U->U
 | .list k j i=>.list (bU k) j i
 | .arr b f len _=>match h.boxes[b]? with
  |some e=>if f+len*z<=F e/\0<z then .list .held z (nI z e f len) else .bad
  |none=>.bad
 | .tuple e=>.tuple (ny z h e)
 | .agg e=>.agg (ny z h e)
 |x=>x
def ny(z:Nat)(h:Heap):List U->List U
 | []=>[]
 |x::r=>ij z h x::ny z h r
end
section
variable {P:bk} {G:Nat->Option (List U)} {ok:aR->Nat->Code->Bool} {w0 w w':bP} {K K1 K2:aW} {h h2:Heap} {z:Nat}
mutual
def aQ.ij(s1:bK K1 G ok w h2 w')(e:∀g j c,K1.ic g j=J c->K2.ic g j=J c)(E:∀g j c,K1.base<=g->w'.cell? ⟨g,j,ag⟩=J c->K2.ic g j=J c):
 ∀{x:U} {c:aG},aQ K1 x c->au 0 0 0 (ij z h2 x)=V->aQ K2 (ij z h2 x) c
 |_,_,.bad c,_=>.bad c
 |_,_,.v x hx,_=>.v x hx
 |_,_,.nil B,_=>.nil B
 |_,_,.fZ B a,_=>.fZ B a
 |_,_,.list k B D g f m o cells hn hr A hc ht ha,h=>by
  have hf:fg 0 0 0 D=V:=by simp only[Go.AE.ij,au,bm]at h;exact h.2
  have xn:aI K2 D.flatten cells:=aI.iC e A (by rw[ot];exact hf);cases k with|nil=>exact ht.2.elim|tight=>exact .list .tight B D g f m o cells hn hr xn (λj c v=>e _ _ _ (hc j c v)) ⟨ht.1,ht.2⟩ ha|free z0=>exact .list .held B D g f m o cells hn hr xn (λj c v=>e _ _ _ (hc j c v)) ⟨ht.1,aX⟩ ha|held=>exact .list .held B D g f m o cells hn hr xn (λj c v=>e _ _ _ (hc j c v)) ⟨ht.1,aX⟩ ha
 |_,_,.arr b g f len o i qP hb hl pH ho hr,h=>by
  simp only[Go.AE.ij]at h ⊢;cases jc:h2.boxes[b]? with
  |none=>exact .bad _|some u=>
   rw[jc]at h;simp only at h ⊢;split at h
   .rename_i hz;rw[av hz];have iE:=hz.1;have hf:fg 0 0 0 (nI z u f len)=V:=(by simp only[au,bm]at h;exact h.2);obtain⟨q1,q2,q3,cells,z2,q4,q5⟩:=s1.box b g u hb jc;have U8:=q5.le;by_cases h0:o=0
    .have:len=0:=(by omega);subst this;exact .list .held z [] g i 0 qP [] O (λ_ h=>by cases h) .nil (λ_ _ h=>by grind) ⟨bY _,aX⟩ O
    .have A7:i=f:=(by simp_all);subst A7;have A:aI K1 ((u.drop i).take (len*z)) (((cells.toList.take (F u)).drop i).take (len*z)):=(q5.1.drop i).take (len*z);have qm:F ((u.drop i).take (len*z))=len*z:=(by rw[cR,eC];omega);refine .list .held z _ g i len qP (((cells.toList.take (F u)).drop i).take (len*z)) (by rw[OZ]) (O0 iE) ?_ (λj c v=>?_) ⟨M,aX⟩ ?_
     .rw[vY];rw[<-ot,vY]at hf;exact aI.iC e A hf
     .refine E _ _ _ q1 ?_;have vp:j<len*z:=(by have:=(aT.1 v).1;rw[cR]at this;omega);rw[mM,av vp,o0,mM,av M]at v;rw[cell_of q4];simp_all
     .rw[vY]
      grind
   .rename_i iE;rw[aL iE];exact .bad _
 |_,_,.agg u vs A,h=>.agg _ vs (aI.ij s1 e E A (by simpa only[Go.AE.ij,au] using h))
 |_,_,.tuple u vs A,h=>.tuple _ vs (aI.ij s1 e E A (by simpa only[Go.AE.ij,au] using h))
 |_,_,.box b g f hb,h=>by simp[Go.AE.ij,au]at h
 |_,_,.dA g f,_=>.dA g f
 |_,_,.elem B D z0 f g z1 p cells hr A hc hi hp ha,h=>.elem B D z0 f g z1 p cells hr (aI.iC e A (by rw[ot];simpa only[Go.AE.ij,au] using h)) (λj c v=>e _ _ _ (hc j c v)) hi hp ha
 |_,_,.func fn first o fs u h1 h2,h=>by simp only[Go.AE.ij,au,bm]at h;exact .func fn first o fs u (aI.iC e h1 h.1) (aI.iC e h2 h.2)
 |_,_,.yield l g hl,h=>by simp[Go.AE.ij,au]at h
 |_,_,.iface t x c hx,h=>by simp only[Go.AE.ij,au]at h;exact .iface t x c (aQ.iC e hx h)
def aI.ij(i:bK K1 G ok w h2 w')(f:∀g j c,K1.ic g j=J c->K2.ic g j=J c)(e:∀g j c,K1.base<=g->w'.cell? ⟨g,j,ag⟩=J c->K2.ic g j=J c):
 ∀{xs:List U} {cs:List aG},aI K1 xs cs->aA 0 0 0 (ny z h2 xs)=V->aI K2 (ny z h2 xs) cs
 |_,_,.nil,_=>.nil
 |_,_,.cons x c xs cs hx o,h=>by simp only[ny,aA,bm]at h;exact .cons _ c _ cs (aQ.ij i f e hx h.1) (aI.ij i f e o h.2)
end
def N5(z:Nat)(R:Rec)(g:aR)(args:List U):Option U:=
 if aA 0 0 0 (a_ args)=V then
  match R.call g (a_ args) ⟨[],[],0,[]⟩ with
  |some (.ret y,h2)=>if au 0 0 0 (ij z h2 y)=V then J (ij z h2 y) else ag
  |_=>ag
 else ag
def Gd(z:Nat)(R:Rec)(g:aR)(args:List U)(h:Heap):Option (U × Heap):=(N5 z R g args).map (·,h)
def aeo{aJ:aR->Option (List U->Heap->Option (U × Heap))}(hp:Prog P)(hG:∀g cs,G g=J cs->aA 0 0 0 cs=V)(e:∀z0 g p,aJ g=J p->kJ P G z0 g p){g:aR}(v:∃fn,P.funcs[g]?=J fn/\fn.body.isSome=V)(z0:bP):
 kJ P G z0 g (Gd z (whole P G aJ) g):=by
 refine⟨v,λargs h x h' hx K w i hv f cs=>?_⟩;unfold Gd N5 at hx;split at hx
 .rename_i hf;split at hx
  .rename_i y h2 hc;split at hx
   .rename_i u;simp only[fF,dt,cL]at hx;obtain⟨rfl,rfl⟩:=hx;obtain⟨-,j⟩:=(Fy hp (e w)).call g _ _ _ _ hc;have s0:=bK.alone f hG;obtain⟨K1,w',fr,le,o,E,A,z2,xm,D⟩:=j (K.alone w.heap.size) w i (aI.iC (K1:=K) (K2:=K.alone w.heap.size) (λ_ _ _ h=>h) hv.hold hf) s0 cs;have hb:Below w.heap.size w w':=(by have:=o.fL;rwa [le.base]at this);refine⟨.returned z2,w',fr,⟨z2,_,O,aW.Et f,aQ.ij (K2:=K.j' w.heap.size w') o (λg z1 c hc=>?_) (λg z1 c B hc=>?_) xm u,bK.j' f hb⟩,E,A,D⟩
    .rcases le.new g z1 c hc with q|q
     .have:g<w.heap.size:=f.ur q;simp only[aW.j',av this];exact q
     .have q:w.heap.size<=g:=q;simp only[aW.j',aL (M:¬g<w.heap.size)];exact o.ic g z1 c hc
    .have q:w.heap.size<=g:=(by rw[le.base]at B;exact B);simp only[aW.j',aL (M:¬g<w.heap.size)];exact hc
   grind
  grind
 grind
def mb(R:Rec)(L:List aR)(Z:aR->Nat)(q:aR->Option (List U->Heap->Option (U × Heap)))(g:aR):Option (List U->Heap->Option (U × Heap)):=
 if L.contains g=V then J (wL R g) else match Z g with|0=>q g|z+1=>J (Gd (z+1) R g)
def H7{aJ:aR->Option (List U->Heap->Option (U × Heap))}(hp:Prog P)(j:∀g cs,G g=J cs->aA 0 0 0 cs=V)(f:∀i g p,aJ g=J p->kJ P G i g p){L:List aR}{Z:aR->Nat}{q:aR->Option (List U->Heap->Option (U × Heap))}(o:∀g∈L,∃fn,P.funcs[g]?=J fn/\fn.body.isSome=V)(u:∀g,Z g≠0->∃fn,P.funcs[g]?=J fn/\fn.body.isSome=V)(A:∀i g p,q g=J p->kJ P G i g p):
 ∀i g p,mb (whole P G aJ) L Z q g=some p->kJ P G i g p:=by
 intro i g p e;unfold mb at e;split at e
 .rename_i v;injection e with e;subst e;exact Ld hp j f (o g (by simp_all)) i
 .split at e
  .simp_all
  .rename_i z B;injection e with e;subst e;exact aeo hp j f (u g M) i
section
variable {R:Rec} {L:List aR} {Z:aR->Nat} {q:aR->Option (List U->Heap->Option (U × Heap))} {g:aR} {args B:List U} {x y:U} {h1:Heap}
def EA(i:L.contains g=V)(e:a_ args=B)(f:aA 0 0 0 B=V)(hc:R.call g B ⟨[],[],0,[]⟩=J (.ret y,h1))(E:dE h1 y=x)(hx:au 0 0 0 x=V):
 ∀h,(whole P G (mb R L Z q)).call g args h=J (.ret x,h):=by
 intro h;subst e;subst E;rw[rD];unfold k_ mb;rw[av i];simp only[wL,uq,av f,hc,av hx,fF]
def WT{z:Nat}(j:L.contains g=ah)(i:Z g=z+1)(e:a_ args=B)(f:aA 0 0 0 B=V)(hc:R.call g B ⟨[],[],0,[]⟩=J (.ret y,h1))(E:ij (z+1) h1 y=x)(hx:au 0 0 0 x=V):
 ∀h,(whole P G (mb R L Z q)).call g args h=J (.ret x,h):=by
 intro h;subst e;subst E;rw[rD];unfold k_ mb;rw[aL (by simp_all),i];simp only[Gd,N5,av f,hc,av hx,fF]
end
end
end Go.AE
end
section
namespace Go.AE
section
variable {P:bk} {G:Nat->Option (List U)} {R:Rec}
def aeq{ops:Array Oper}{e:Env}{h:Heap}{k:Nat}{o:Oper}{s d:aF}{src:Operand}{v x:U}(B:ops[k]?=J o)(u:o.op=.convert s d src)
 (h1:cq P G R ops (ops.toList.take k) e h (λq f _=>q=.normal/\f.eval src=v))
 (h2:∀m,m<=ops.size->cq P G R ops (ops.toList.take m) e h (λq _ i=>q=.normal/\kL P i s d v=J (x,i))):u' P G R ops e h k:=by
 have hk:k<ops.size:=(Array.getElem?_eq_some_iff.1 B).1;obtain⟨q1,f,hr,A,rfl,D⟩:=h1;rw[<-oa M]at A;refine⟨o,x,f,hr,B,by rw[u];rfl,A,λm i=>?_⟩;obtain⟨q2,E,j,f1,rfl,f2⟩:=h2 m i;rw[<-oa i]at f1;refine⟨E,j,f1,?_⟩;unfold dH;rw[u];show(dk P G f.eval j (.convert s d src)).map _=_;show((kL P j s d (f.eval src))).map _=_;rw[D,f2];rfl
end
mutual
def l8:∀x:U,al (al x)=al x
 | .bad=>rfl
 | .v _=>rfl
 | .list k i f=>by rw[al,al,MV f];cases k<;>rfl
 | .arr _ _ _ _=>rfl
 | .agg e=>by rw[al,al,lh e]
 | .tuple e=>by rw[al,al,lh e]
 | .ptr _ _=>rfl
 | .elem i f u j=>by first|rfl|rw[al,al,MV f]
 | .func o a b=>by first|rfl|rw[al,al,lh a,lh b]
 | .yield _=>rfl
 | .iface t x=>by first|rfl|rw[al,al,l8 x]
def lh:∀l:List U,a_ (a_ l)=a_ l
 | []=>rfl
 |x::l=>by rw[a_,a_,l8 x,lh l]
def MV:∀l:List (List U),dm (dm l)=dm l
 | []=>rfl
 |x::l=>by rw[dm,dm,lh x,MV l]
end
mutual
def HM{h h2:Heap}:∀x:U,dE h2 (dE h x)=dE h x
 | .bad=>rfl
 | .v _=>rfl
 | .list k o j=>by rw[dE,dE];cases k<;>rfl
 | .arr b i len f=>by
  rw[dE];split
  .split
   .rfl
   .rfl
  .rfl
 | .agg e=>by rw[dE,dE,Ny e]
 | .tuple e=>by rw[dE,dE,Ny e]
 | .ptr _ _=>rfl
 | .elem _ _ _ _=>rfl
 | .func _ _ _=>rfl
 | .yield _=>rfl
 | .iface _ _=>rfl
def Ny{h h2:Heap}:∀l:List U,iF h2 (iF h l)=iF h l
 | []=>rfl
 |x::l=>by rw[iF,iF,HM x,Ny l]
end
structure bN(R:Rec)(g:aR)(a:List U)(y:U):Prop where
 call:∀h,R.call g a h=J (.ret y,h)
 held:a_ a=a
 fit:aA 0 0 0 a=V
 nh:∀h,dE h y=y
 fits:au 0 0 0 y=V
section
variable {P:bk} {G:Nat->Option (List U)} {R:Rec} {L:List aR} {Z:aR->Nat} {q:aR->Option (List U->Heap->Option (U × Heap))} {g:aR} {a b:List U} {y:U}
def bN.of{h1:Heap}{x:U}(hc:∀h,R.call g a h=J (.ret x,h))(e:a_ a=a)(f:aA 0 0 0 a=V)(E:∀h,dE h x=x)(hx:au 0 0 0 x=V):bN R g a x:=⟨hc,e,f,E,hx⟩
def bN.up(c:bN R g a y)(e:L.contains g=V):bN (whole P G (lU R L)) g a y:=
 ⟨bT e c.held c.fit (c.call _) (c.nh _) c.fits,c.held,c.fit,c.nh,c.fits⟩
def bN.mix(c:bN R g a y)(e:L.contains g=V):bN (whole P G (mb R L Z q)) g a y:=
 ⟨EA e c.held c.fit (c.call _) (c.nh _) c.fits,c.held,c.fit,c.nh,c.fits⟩
def bN.use(c:bN R g a y)(f:L.contains g=V)(e:a_ b=a):∀h,(whole P G (lU R L)).call g b h=J (.ret y,h):=
 bT f e c.fit (c.call _) (c.nh _) c.fits
def bN.new{x:U}{h1:Heap}(hc:R.call g a ⟨[],[],0,[]⟩=J (.ret x,h1))(i:L.contains g=V)(e:a_ a=a)(f:aA 0 0 0 a=V)(E:dE h1 x=y)(hx:au 0 0 0 y=V):bN (whole P G (lU R L)) g a y:=
 ⟨bT i e f hc E hx,e,f,λh=>by rw[<-E];exact HM x,hx⟩
def bN.qx{x:U}{h1:Heap}(hc:R.call g a ⟨[],[],0,[]⟩=J (.ret x,h1))(i:L.contains g=V)(e:a_ a=a)(f:aA 0 0 0 a=V)(E:dE h1 x=y)(hx:au 0 0 0 y=V):bN (whole P G (mb R L Z q)) g a y:=
 ⟨EA i e f hc E hx,e,f,λh=>by rw[<-E];exact HM x,hx⟩
end
end Go.AE
end
section
namespace Go.Proofs.YtcbhpkjbiehcpaaGreatDoor
open Go.AE Go.NT
section
variable {g:aR} {a:List U} {x y:U} {h1:Heap}
def S0(hc:W4.call g a ⟨[],[],0,[]⟩=J (.ret x,h1))(i:L5.contains g=V)(e:a_ a=a)(f:aA 0 0 0 a=V)(E:dE h1 x=y)(hx:au 0 0 0 y=V):bN W5 g a y:=⟨gE (L:=L5) i e f hc E hx,e,f,λh=>by rw[<-E];exact HM x,hx⟩
def tJ(c:bN W6 g a y)(e:L7.contains g=V)(f:L8.contains g=V):bN W8 g a y:=(c.up (L:=L7) e).up (L:=L8) f
def S1(c:bN W5 g a y)(e:L6.contains g=V)(f:L7.contains g=V)(i:L8.contains g=V):bN W8 g a y:=tJ (c.up (L:=L6) e) f i
end
section
variable {x y z:U} {l who:List Int} {rows:List (List Int)} {ac ai:List Int}
def Wg(n):bN W8 66 [I n] (.v (.bool (bX n))):=tJ ⟨auk n,O,O,λ_=>rfl,O⟩ O rfl
def V'(a n):bN W8 75 [I a,I n] (.tuple [I (fj a n),I (oK a)]):=tJ ⟨ahE a n,O,O,λ_=>rfl,O⟩ O rfl
def Wf(n):bN W8 111 [I n] (.v (.bool (bX n))):=bN.up (L:=L8) ⟨auc n,O,O,λ_=>rfl,O⟩ rfl
def akd(hx:IL x l)(e:F l<=9223372036854775807):bN W8 43 [al x] (.v (.bool (dy (-1) l))):=by obtain⟨h1,h2⟩:=hx.hold;exact tJ ⟨amT _ l h1 e,by rw[a_,l8,a_],by rw[aA,h2];rfl,λ_=>rfl,O⟩ O rfl
def Wb(hx:IL x l)(e:F l<=1099511627776)(n:Int):bN W8 105 [al x,I n] (.v (.bool (l.contains n))):=by obtain⟨h1,h2⟩:=hx.hold;exact tJ (bN.up (L:=L6) ⟨Mh _ l n h1 e,by rw[a_,l8];rfl,by rw[aA,h2];rfl,λ_=>rfl,O⟩ O) O rfl
def ajY(hx:RL x rows)(E:IL y ac):bN W8 35 [.agg [al x,al y]] (I (cH rows ac)):=by obtain⟨h1,h2,e,f⟩:=ob hx E;exact tJ ⟨aeT _ _ rows ac h1 h2,lh [.agg [x,y]],by simp[aA,au,e,f],λ_=>rfl,O⟩ O rfl
def akg(hx:RL x rows)(E:IL y ac)(i:F rows<=1000000):bN W8 40 [.agg [al x,al y]] (I (cH rows ac)):=by obtain⟨h1,h2,e,f⟩:=ob hx E;exact bN.up (L:=L8) ⟨aeV _ _ rows ac h1 h2 i,lh [.agg [x,y]],by simp[aA,au,e,f],λ_=>rfl,O⟩ rfl
def ajW(hx:RL x rows)(E:IL y ac)(B:IL z who)(i:F who<=1099511627776):∃Z,bN W8 39 [.agg [al x,al y],al z] (.tuple [Z,.v (.bool (fG rows ac who).2.1),I (fG rows ac who).2.2]):=by
 obtain⟨h1,h2,j,o⟩:=ob hx E;obtain⟨u,v⟩:=B.hold;have e:a_ [.agg [al x,al y],al z]=[.agg [al x,al y],al z]:=lh [.agg [x,y],z];have f:aA 0 0 0 [.agg [al x,al y],al z]=V:=by simp[aA,au,j,o,v]
 rcases ab7 _ _ _ rows ac who h1 h2 u i with⟨D,q,c⟩|⟨l,q,-,Z,A,c⟩
 .rw[q];exact⟨_,tJ ⟨c,e,f,λ_=>rfl,O⟩ O O⟩
 .rw[q];obtain⟨k,s,rfl,-⟩:=A;exact⟨.list (bU k) s (ints l),bN.up (L:=L8) (bN.new (L:=L7) (c _) O e f O (by rw[au,aA,au,eo,ju];rfl)) O⟩
def akf(hx:RL x rows)(E:IL y ac)(B:IL z who)(A:F rows<=1000000)(i:F who<=1099511627776):∃Z,bN W8 44 [.agg [al x,al y],al z] (.tuple [Z,.v (.bool (fG rows ac who).2.1),I (fG rows ac who).2.2]):=by
 obtain⟨h1,h2,j,o⟩:=ob hx E;obtain⟨u,v⟩:=B.hold;have e:a_ [.agg [al x,al y],al z]=[.agg [al x,al y],al z]:=lh [.agg [x,y],z];have f:aA 0 0 0 [.agg [al x,al y],al z]=V:=by simp[aA,au,j,o,v]
 rcases ab4 _ _ _ rows ac who h1 h2 u A i with⟨D,q,c⟩|⟨l,q,-,c⟩
 .rw[q];exact⟨_,bN.up (L:=L8) ⟨c,e,f,λ_=>rfl,O⟩ O⟩
 .rw[q];exact⟨_,bN.up (L:=L8) ⟨c,e,f,λ_=>rfl,by rw[au,aA,au,ju];rfl⟩ O⟩
def akm(hx:IL x who)(j:pV who)(f:F who<=1000000)(o:Int):∃i:Int,bN W8 178 [al x,I o] (.tuple [I i,.v (.bool (who.contains o))]):=by obtain⟨h1,h2⟩:=hx.hold;obtain⟨_,_,c,-,i,rfl⟩:=Y7 ⟨[],[],0,[]⟩ (al x) who o h1 j f;have e:bN W3 178 [al x,I o] (.tuple [I i,.v (.bool (who.contains o))]):=bN.new (L:=L3) c O (by rw[a_,l8];rfl) (by rw[aA,h2];rfl) O O;exact⟨i,S1 (S0 ((e.up (L:=L4) O).call _) O e.held e.fit (e.nh _) e.fits) O O O⟩
def aj1{v}{r}(j:b9 v r)(e:fA v<=16)(i:F (cB v)<=1099511600000):∃t,bN W8 74 [.agg (a_ r)] (.tuple [.list t 1 (bJ (cB v)),I 0]):=by
 obtain⟨h1,h2⟩:=b9.hold v r j;obtain⟨t,hc⟩:=Lw h1 e i;have f:aA 0 0 0 [.agg (a_ r)]=V:=by rw[aA,au,h2];rfl
 exact⟨bU t,S1 (S0 (hc _) O (lh [.agg r]) f O (by simp[au,aA,eo,jl,I])) O O O⟩
end
def LA:List aR:=L8++[143,144,72,170,171,95,38,32]
noncomputable def OH:aR->Option (List U->Heap->Option (U × Heap)):=lU W8 LA
noncomputable abbrev SA:=whole aa Gt OH
def aej:mo OH LA:=rK
def vq:∀a b:List U,a_ (a++b)=a_ a++a_ b
 | [],_=>rfl
 |x::a,b=>by rw[ey,a_,vq a b];rfl
def GA:∀a b:List U,aA 0 0 0 (a++b)=(aA 0 0 0 a&&aA 0 0 0 b)
 | [],_=>rfl
 |x::a,b=>by rw[ey,aA,aA,GA a b,Bool.and_assoc]
def Vn(l:List UInt8):a_ (l.map fJ)=l.map fJ/\aA 0 0 0 (l.map fJ)=V:=by
 induction l with
 |nil=>exact⟨O,O⟩|cons b l e=>
  refine⟨?_,?_⟩
  .show al (fJ b)::a_ (l.map fJ)=_;rw[e.1];rfl
  .show(au 0 0 0 (fJ b)&&aA 0 0 0 (l.map fJ))=V;rw[e.2];rfl
section
variable {d:Dc} {p r n:U}
def yn:a_ (bj d p r n)=bj d (al p) (al r) (al n):=by unfold bj;rw[vq,(Vn d.tx).1];rfl
def lL.hold(ok:lL d p r n):lL d (al p) (al r) (al n)/\aA 0 0 0 (bj d (al p) (al r) (al n))=V:=by obtain⟨h1,h2⟩:=ok.p.hold;obtain⟨e,f⟩:=ok.r.hold;obtain⟨i,j⟩:=ok.n.hold;refine⟨⟨h1,e,i,ok.t⟩,?_⟩;unfold bj;rw[GA,(Vn d.tx).2];simp[aA,au,I,h2,f,j]
def aki(ok:lL d p r n)(hc:d.sV):bN SA 72 [.agg (bj d (al p) (al r) (al n))] (.v (.bool (iB d))):=by obtain⟨k,e⟩:=ok.hold;obtain⟨_,_,c,rfl⟩:=aoJ ⟨[],[],0,[]⟩ d _ _ _ k hc.1 hc.2.1 hc.2.2;exact bN.new (L:=LA) c O (by rw[<-yn];exact lh [.agg (bj d p r n)]) (by rw[aA,au,e];rfl) O rfl
def akk(ok:lL d p r n)(hc:d.sV):bN SA 95 [.agg (bj d (al p) (al r) (al n))] (.v (.bool (iB d))):=by obtain⟨k,e⟩:=ok.hold;obtain⟨_,_,c,rfl⟩:=aoK ⟨[],[],0,[]⟩ d _ _ _ k hc.1 hc.2.1 hc.2.2;exact bN.new (L:=LA) c O (by rw[<-yn];exact lh [.agg (bj d p r n)]) (by rw[aA,au,e];rfl) O rfl
def aj6(ok:lL d p r n):bN SA 32 [.agg (bj d (al p) (al r) (al n))] (.v (.bool (yr d))):=by obtain⟨k,e⟩:=ok.hold;obtain⟨_,_,c,rfl⟩:=agH ⟨[],[],0,[]⟩ d _ _ _ k;exact bN.new (L:=LA) c O (by rw[<-yn];exact lh [.agg (bj d p r n)]) (by rw[aA,au,e];rfl) O rfl
end
def ake{x}{l}(hx:IL x l)(e:F l<=9223372036854775807):bN SA 38 [al x] (.v (.bool (dy (-1) l))):=by obtain⟨h1,h2⟩:=hx.hold;obtain⟨_,_,c,-,rfl⟩:=amR ⟨[],[],0,[]⟩ (al x) l h1 e;exact bN.new (L:=LA) c O (by rw[a_,l8];rfl) (by rw[aA,h2];rfl) O rfl
def OR:Tryz.f73.results.toList=[.cell 2 118]:=by kernel_rfl
def ac4:iI aa 118 [(0,.v (.int .i64 3))]=J (.agg (ar 3 0 [] .nil 0 [])):=by kernel_rfl
def ac6(n):iI aa 118 [(0,.v (.int .i64 1)),(1,.v (.int .i64 n))]=J (.agg (ar 1 n [] .nil 0 [])):=by kernel_rfl
def JE:(fW aa 118).bind U.bF=J (ar 0 0 [] .nil 0 []):=by kernel_rfl
def Ww{H}{b}{r}(e:F r=4)(f:H.boxes[b]?=J r):aD aa Gt H 118 (.ptr (.box b) 0)=J (.agg r):=by rw[fR bD (by kernel_rfl:cC aa 118=J 4) f (by rw[e];exact aV 4)];simp[ga,e]
def PT{H}{b}{r r2}(i:F r=4)(e:F r2=4)(hc:(U.agg r2).bF=J r2)(f:H.boxes[b]?=J r):bV aa H 118 (.ptr (.box b) 0) (.agg r2)=J (H.put b r2):=by rw[fC (off:=0) (cs:=r) (xs:=r2) hc (by kernel_rfl:cC aa 118=J 4) f e M,xD M]
def Ig(h:Heap)(fQ:c_ h=V)(x:U)(l:List Int)(hx:IL x l)(hb:∀n∈l,0<=n/\n<=4611686018427387903)(hl:F l<=1000):
 ∃r h',SA.call 73 [x] h=J (r,h')/\Ext h h'/\∃t sz rows,r=.ret (.agg (ar 3 0 [] t sz rows))/\b9 (.list (l.map .int)) (ar 3 0 [] t sz rows)/\fg 0 0 0 rows=V/\db h.tn h' t/\F rows=F l/\(rows≠[]->sz=4)/\(rows=[]->sz=4∨t=.nil):=by
 obtain⟨k,s,rfl,hs⟩:=hx;have ks:=ae.mk (aj hs hb);clear hs hb;have z:=JE;have u23:=cU;have u116:=lO;have z3:=eX;have b3:=ac4;have eH:=cG l;have q0:(h.push (ar 0 0 [] .nil 0 [])).boxes[h.boxes.length]?=J (ar 0 0 [] .nil 0 []):=aK _ _;have s3:bV aa ((h.push (ar 0 0 [] .nil 0 [])).push (ar 0 0 [] .nil 0 [])) 118 (.ptr (.box (F (h.push (ar 0 0 [] .nil 0 [])).boxes)) 0) (.agg (ar 3 0 [] .nil 0 []))=J ((h.push (ar 0 0 [] .nil 0 [])).push (ar 3 0 [] .nil 0 [])):=by rw[PT O O O (aK _ _)];congr 1;exact mg _ _ _
 have G0:oF h ((h.push (ar 0 0 [] .nil 0 [])).push (ar 3 0 [] .nil 0 [])) (F h.boxes+1) ((l.map Vl.int).take 0) .nil 0 []:=⟨by have:=aK (h.push (ar 0 0 [] .nil 0 [])) (ar 3 0 [] .nil 0 []);rwa [bE]at this,.inl O,fQ,(Ext.push h _).trans (.push _ _),by omega,⟨O,λf z1 r q=>by simp at q⟩,λq=>absurd O q,λ_=>.inr O,O⟩;have R0:((h.push (ar 0 0 [] .nil 0 [])).push (ar 3 0 [] .nil 0 [])).boxes[h.boxes.length]?=J (ar 0 0 [] .nil 0 []):=aN q0;refine bL O Tryz.func73 O ?_;refine bh @OR ?_;refine bC.gen λv i B eu dn=>?_;have f2:v.get 2=.ptr (.box (F h.boxes)) 0:=by rw[i];exact gS
 have f3:v.get 3=.ptr (.box (F h.boxes+1)) 0:=by rw[i];simp only[gW,reduceIte,aH,aC,bE]
 have f7:v.get 7=.list k s (ints l):=by rw[i];exact gS
 have f8:v.get 8=.v (.int .i64 (F l:Nat)):=by rw[i];simp only[gW,reduceIte,aH,aC,eH]
 have f9:v.get 9=.v (.int .i64 (0:Nat)):=by rw[i];exact gR
 have fd:v.defers=[]:=by rw[B];exact gS
 clear i B eu dn;refine b_ (λm z0 H=>∃(f:Nat) (t:Tok) (sz:Nat) (rows:List (List U)),f<=F l/\m=F l-f/\ae (oF h H (F h.boxes+1) ((l.map Vl.int).take f) t sz rows)/\ae (H.boxes[h.boxes.length]?=J (ar 0 0 [] .nil 0 []))/\z0.get 2=.ptr (.box (F h.boxes)) 0/\z0.get 3=.ptr (.box (F h.boxes+1)) 0/\z0.get 7=.list k s (ints l)/\z0.get 8=.v (.int .i64 (F l:Nat))/\z0.get 9=.v (.int .i64 (f:Nat))/\z0.defers=[]) ?_ (F l) _ _ ?_;rotate_left 1
 .exact⟨0,.nil,0,[],bY _,O,⟨G0⟩,⟨R0⟩,f2,f3,f7,f8,f9,fd⟩
 clear f2 f3 f7 f8 f9 fd G0 R0 q0 s3;rintro m z0 H ⟨f,t,sz,rows,hi,rfl,u,kR,g2,g3,g7,g8,g9,hd⟩;by_cases j:f<F l
 .have ev:s=1:=ks.out.1 (by intro q;rw[q]at j;simp at j);subst ev;have ld:=eS (H:=H) (s:=1) j;have o:l[f]?=J (af l f):=by rw[aP j,gb j]
  have A:=ks.out.2 _ (cT o);have kst:=ae.mk (gg (l:=l.map Vl.int) (i:=f) (x:=.int (af l f)) (by rw[ec,o];rfl));have fO:(f:Int)<(F l:Int):=by omega
  have l_:F rows<1000000:=by have:=u.out.rel.1;rw[cR,br]at this;omega
  have D:b9 (.int (af l f)) (ar 1 (af l f) [] .nil 0 []):=.int _ A;have E:=ae.mk (u.out.put D O);have kR2:ae (((H.app t).put (F h.boxes+1) (ar 3 0 [] (.free H.tn) 4 (rows++[ar 1 (af l f) [] .nil 0 []]))).boxes[h.boxes.length]?=J (ar 0 0 [] .nil 0 [])):=⟨by rw[cd M,dS];exact kR.out⟩;have l3:=jJ u.out.box;have ap:=x9 (r:=ar 1 (af l f) [] .nil 0 []) l_ u.out.four u.out.nil u.out.can;have bl:=yc (r:=ar 1 (af l f) [] .nil 0 []) O O;have bi:=ac6 (af l f);have st:=xE (H:=H.app t) (t2:=.free H.tn) (sz2:=4) (rows2:=rows++[ar 1 (af l f) [] .nil 0 []]) (by rw[dS];exact u.out.box);rw[<-kst.out]at E;clear o A D;generalize af l f=z1 at *
  refine cK @OR @d_ @aU ?_;exact⟨F l-(f+1),by omega,f+1,_,_,_,by omega,O,E,by first|exact kR2|trivial,by simp⟩
 .have gr:f=F l:=by omega
  subst gr;have e:=u.out;rw[ga (by rw[br];exact aV _)]at e;have o:b9 (.list (l.map .int)) (ar 3 0 [] t sz rows):=.list (l.map .int) t sz rows e.rel.1 e.four (by have:=e.rel.1;rw[br]at this;omega) e.rel.2;have ld:=Ww o.len e.box;have st:=PT (r:=ar 0 0 [] .nil 0 []) (r2:=ar 3 0 [] t sz rows) O O iZ kR.out;have ld2:=Ww (H:=H.put (F h.boxes) (ar 3 0 [] t sz rows)) (b:=h.boxes.length) o.len (dh (aT.1 kR.out).1);have kv:=ae.mk (aj o (aj (e.ext.fI (aV _) (ar 3 0 [] t sz rows)) (aj e.fit (aj (show db h.tn (H.put (F h.boxes) (ar 3 0 [] t sz rows)) t by rw[Ay];exact e.can) (aj (show F rows=F l by have:=e.rel.1;rw[br]at this;omega) (aj e.four e.nil))))));clear o e;refine bh @OR ?_;exact⟨_,_,O,kv.out.2.1,_,_,_,O,kv.out.1,kv.out.2.2⟩
def sC:Tryz.f28.results.toList=[.tmp 2,.tmp 3]:=by kernel_rfl
def VX:∀l:List Int,fY (l.map Vl.int)=0
 | []=>rfl
 |n::l=>by rw[eI,fY,VX l];rfl
def HQ:∀l:List Int,F (gd (l.map Vl.int))<=F l*11
 | []=>by simp[gd]
 |n::l=>by have h1:=ia 9 (hW n);have h2:=HQ l;rw[eI,gd,ck,cB,ef,ef,js];omega
def Td(d):fA (ja d)<=16:=by simp only[ja,Bo,fA,fY,VX];omega
def Tf{d}(h1:F d.pa<=16)(h2:F d.rv<=16)(h3:F d.nd<=16)(h4:F d.tx=32):F (cB (ja d))<=1000:=by
 have a0:=ia 9 (0+1+1+1+1+1+1+1+1+1+1);have e:=ia 9 (hW d.no);have f:=ia 9 (hW d.tm);have i:=ia 9 (hW d.kd);have j:=ia 9 (hW d.vl);have o:=ia 9 (hW d.fr);have u:=ia 9 (hW d.un);have v:=ia 9 (F d.pa);have A:=ia 9 (F d.rv);have B:=ia 9 (F d.nd);have D:=ia 9 (F d.tx);have E:=HQ d.pa;have b2:=HQ d.rv;have b3:=HQ d.nd;simp only[ja,Bo,cB,gd,ef,ck,f_,br]at *
 omega
def VQ{i}:∀{l:List Int} {e:Int},nA i e l=V->∀n∈l,e<n/\n<i
 | [],_,_,n,f=>by cases f
 |a::l,e,h,n,f=>by
  rw[nA]at h;simp only[bm,decide_eq_true_eq]at h;rcases gU.1 f with rfl|f
  .exact h.1
  .have:=VQ h.2 n f;exact⟨M,this.2⟩
def Te{d}(h:iB d=V):(0<=d.no/\d.no<4096)/\(0<=d.tm/\d.tm<1099511627776)/\(0<=d.kd/\d.kd<16)/\(0<=d.vl/\d.vl<=1099511627776)/\(0<=d.fr/\d.fr<d.un)/\d.un<=1099511627776/\(h_ d.pa 1048577=V/\h_ d.rv d.no=V/\h_ d.nd d.no=V):=by unfold iB xI at h;simp only[bm,decide_eq_true_eq]at h;exact⟨M,by omega,by omega,by omega,by omega,by omega,h.1.1.2,h.1.2,h.2⟩
def Bv{l}{e}(h:h_ l e=V):F l<=16/\∀n∈l,0<=n/\n<e:=by unfold h_ at h;simp only[bm,decide_eq_true_eq]at h;exact⟨h.2,λn f=>by have:=VQ h.1 n f;omega⟩
def adL(a b c d e f):fy aa 23 6 [(0,.v (.int .i64 a)),(1,.v (.int .i64 b)),(2,.v (.int .i64 c)),(3,.v (.int .i64 d)),(4,.v (.int .i64 e)),(5,.v (.int .i64 f))]=J (.list .tight 1 (ints [a,b,c,d,e,f])):=by kernel_rfl
def ac7(s):iI aa 118 [(0,.v (.int .i64 2)),(2,.v (.string (bs s)))]=J (.agg (ar 2 0 s .nil 0 [])):=by kernel_rfl
def adH{e r2 f i}(h1:F e=4)(h2:F r2=4)(A:F f=4)(B:F i=4)(j:(U.agg e).bF=J e)(c2:(U.agg r2).bF=J r2)(o:(U.agg f).bF=J f)(u:(U.agg i).bF=J i):
 fy aa 116 4 [(0,.agg e),(1,.agg r2),(2,.agg f),(3,.agg i)]=J (.list .tight 4 [e,r2,f,i]):=by
 have v:aa.underlying 116=J (.slice 118):=lO;unfold fy;simp only[v,nm,sQ];rw[av ⟨aY,O,by decide⟩];simp[w7,j,c2,o,u,h1,h2,A,B]
def acD{H}{k}{n0 sz}{es new}(E:F es<1000000)(u:new≠[])(B:F new<=1000)(v:es≠[]->sz=4)(i:es=[]->sz=4∨k=.nil)(o:db n0 H k):
 gm aa H #[116,116] (.list k sz es) (.list .tight 4 new)=J (.list (.free H.tn) 4 (es++new),H.app k):=by
 obtain⟨z0,h1,e,A,j⟩:=NB;have D:=jt (M:F es+F new<=1001000) A;have:=Ar (P:=aa) (h:=H) (n0:=n0) (k:=k) (sz:=sz) (es:=es) (new:=new) (x:=.list .tight 4 new) (t1:=116) lO (.inl ⟨118,lO⟩) h1 M (by rw[e];exact j) (by rw[e];unfold jL rowsOf;simp) u M M (by
  rw[e];by_cases f:es=[]
  .rcases i f with q|q
   .exact .inl q
   .exact .inr ⟨f,q⟩
  .exact .inl (v f)) o
 rwa [e]at this
def ar5(b):gw aa 29 (.ptr (.box b) 9) ag ag ag=J (.arr b 9 32 32):=by kernel_rfl
def atX(l)(e):((List.range (F l)).map λi=>((e++l.map fJ).drop (F e+i*1)).take 1)=bJ l:=by
 apply oh;intro i;rw[ec];by_cases f:i<F l
 .rw[List.getElem?_range f,fF,jS,<-pW,CD,s_ (by simpa using f)];unfold bJ;rw[ec,aP f];simp[fJ,iy]
 .rw[uS (by simp;omega),uS (by unfold bJ;simp;omega)];rfl
def aee:∀l:List UInt8,bytesOf (bJ l)=J l:=by
 intro l
 induction l with
 |nil=>rfl|cons a l e=>show(match Go.AE.byteOf (iy a),bytesOf (bJ l) with|some b,J l=>J (b::l)|_,_=>ag)=_;rw[e];simp[Go.AE.byteOf,iy]
def AG{H}{b}{d}{p r n}(ht:F d.tx=32)(f:H.boxes[b]?=J (bj d p r n)):kL aa H 60 9 (.arr b 9 32 32)=J (.v (.string (bs d.tx)),H):=by
 have h1:aa.underlying 9=J .string:=Tryz.underlying9;have h2:aa.underlying 60=J (.slice 5):=Tryz.underlying60;have e:aa.underlying 5=J (.int .u8):=Tryz.underlying5;have i:rowsOf H 1 (.arr b 9 32 32)=J (bJ d.tx):=by
  simp only[rowsOf,f];have j:F (bj d p r n)=41:=by unfold bj;rw[ck,br,ht];rfl
  rw[av M];have:=atX d.tx [I d.no,I d.tm,I d.kd,I d.vl,I d.fr,I d.un,p,r,n];rw[ht]at this;exact congrArg J this
 unfold kL;simp only[h1,h2,e,i,aee,fF];rfl
def b9.ak3{o u}{t B}{sz}{rows rows2}(h1:b9 (.list o) (ar 3 0 [] t sz rows))(h2:fX u rows2)(A:F (rows++rows2)<=1000000):b9 (.list (o++u)) (ar 3 0 [] B 4 (rows++rows2)):=by
 cases h1 with
 |list _ _ _ _ v q2 q3 D=>
  refine .list _ _ _ _ (by rw[ck,ck,v,h2.1]) (λ_=>rfl) A λE z0 r f e=>?_;rcases dp E (F rows) with j|i
  .rw[qH j]at e;rw[qH M]at f;exact D E z0 r f e
  .rw[wB i]at e;rw[wB M,<-v]at f;exact h2.2 _ z0 r f e
def fX.cons{v}{r}{l}{rows}(h:b9 v r)(e:fX l rows):fX (v::l) (r::rows):=by
 refine⟨by rw[ef,ef,e.1],λf w x A hx=>?_⟩;cases f with|zero=>simp at A hx;subst A;subst hx;exact h|succ f=>exact e.2 f w x (by simpa using A) (by simpa using hx)
def fX.nil:fX [] []:=⟨O,λe f r h=>by simp at h⟩
def aty(h:Heap)(fQ:c_ h=V)(d:Dc)(p r n:U)(ok:lL d p r n)(hc:d.sV)(kp:al p=p)(kr:al r=r)(f:al n=n):
 ∃rr h',SA.call 28 [.agg (bj d p r n)] h=J (rr,h')/\((iB d=ah/\rr=.ret (.tuple [.list .nil 0 [],I 170]))∨(iB d=V/\∃t,rr=.ret (.tuple [.list t 1 (bJ (cB (ja d))),I 0]))):=by
 have bx:=ok.cells;have hD:=ok.len;have c72:=(aki ok hc).call;rw[kp,kr,f]at c72;have lD:=vE hD (aK h (bj d p r n));cases hd:iB d with
 |false=>
  rw[hd]at c72;clear ok hc;generalize bj d p r n=z1 at *
  refine bL O abO O ?_;refine bG @sC @bg ?_;exact⟨_,_,O,.inl ⟨by first|rfl|trivial,O⟩⟩
 |true=>
  rw[hd]at c72;obtain⟨f1,f2,f3,f4,f5,f6,g1,g2,g3⟩:=Te hd;obtain⟨n1,m1⟩:=Bv g1;obtain⟨n2,m2⟩:=Bv g2;obtain⟨n3,m3⟩:=Bv g3;have L:=q_ (aK h (bj d p r n));have z2:=AO;have b6:=adL d.no d.tm d.kd d.vl d.fr d.un;obtain⟨_,A,c1,x1,t,sz,rows,rfl,v1,fr1,ca1,rl1,fo1,ni1⟩:=Ig (h.push (bj d p r n)) fQ (.list .tight 1 (ints [d.no,d.tm,d.kd,d.vl,d.fr,d.un])) [d.no,d.tm,d.kd,d.vl,d.fr,d.un] ⟨_,_,O,λ_=>rfl⟩ (by intro q hq;simp at hq;omega) b8;have ok2:=x1.ok fQ;have z:=JE;have s0:bV aa (A.push (ar 0 0 [] .nil 0 [])) 118 (.ptr (.box (F A.boxes)) 0) (.agg (ar 3 0 [] t sz rows))=J (A.push (ar 3 0 [] t sz rows)):=by rw[PT O O O (aK _ _)];congr 1;exact mg _ _ _
  obtain⟨H3,o⟩:∃H3,A.push (ar 3 0 [] t sz rows)=H3:=⟨_,O⟩;have ok3:c_ H3=V:=by rw[<-o];exact ok2
  have e23:Ext A H3:=by rw[<-o];exact .push _ _
  have b3:H3.boxes[A.boxes.length]?=J (ar 3 0 [] t sz rows):=by rw[<-o];exact aK _ _
  obtain⟨_,H4,c2,x2,t2,B,e,rfl,v2,fr2,ca2,rl2,fo2,ni2⟩:=Ig H3 ok3 p d.pa ok.p (λq hq=>by have:=m1 q hq;omega) M;have ok4:=x2.ok ok3;obtain⟨_,H5,c3,x3,t3,u,i,rfl,v3,fr3,ca3,Yx,fo3,ni3⟩:=Ig H4 ok4 r d.rv ok.r (λq hq=>by have:=m2 q hq;omega) M;have ok5:=x3.ok ok4;obtain⟨_,E,c4,x4,t4,D,j,rfl,v4,fr4,ca4,rl4,fo4,ni4⟩:=Ig H5 ok5 n d.nd ok.n (λq hq=>by have:=m3 q hq;omega) M;have ok6:=x4.ok ok5;have v5:b9 (.text d.tx) (ar 2 0 d.tx .nil 0 []):=.text _ (by rw[ok.t];omega);have bt:=ac7 d.tx;have bl:=adH v2.len v3.len v4.len v5.len v2.cells v3.cells v4.cells v5.cells;have can6:=((ca1.ext e23).ext ((x2.trans x3).trans x4));have ap:=acD (H:=E) (new:=[ar 3 0 [] t2 B e,ar 3 0 [] t3 u i,ar 3 0 [] t4 D j,ar 2 0 d.tx .nil 0 []]) (by rw[rl1];simp) b8 b8 fo1 ni1 can6;have bH6:E.boxes[A.boxes.length]?=J (ar 3 0 [] t sz rows):=((x2.trans x3).trans x4).box _ _ b3;have st:=xE (H:=E.app t) (t2:=.free E.tn) (sz2:=4) (rows2:=rows++[ar 3 0 [] t2 B e,ar 3 0 [] t3 u i,ar 3 0 [] t4 D j,ar 2 0 d.tx .nil 0 []]) (by rw[dS];exact bH6);have vv:b9 (ja d) (ar 3 0 [] (.free E.tn) 4 (rows++[ar 3 0 [] t2 B e,ar 3 0 [] t3 u i,ar 3 0 [] t4 D j,ar 2 0 d.tx .nil 0 []])):=
   b9.ak3 v1 (fX.cons v2 (fX.cons v3 (fX.cons v4 (fX.cons v5 fX.nil)))) (by rw[ck,rl1];simp)
  have NM:=ni (H:=(E.app t).put (F A.boxes) (ar 3 0 [] (.free E.tn) 4 (rows++[ar 3 0 [] t2 B e,ar 3 0 [] t3 u i,ar 3 0 [] t4 D j,ar 2 0 d.tx .nil 0 []]))) (b:=A.boxes.length) vv.len (dh (by rw[dS];exact(aT.1 bH6).1));obtain⟨te,ce⟩:=aj1 vv (Td d) (by have:=Tf n1 n2 n3 ok.t;omega);have c74:∀h,SA.call 74 [.agg (ar 3 0 [] (.free E.tn) 4 (rows++[ar 3 0 [] t2 B e,ar 3 0 [] t3 u i,ar 3 0 [] t4 D j,ar 2 0 d.tx .nil 0 []]))] h=J (.ret (.tuple [.list te 1 (bJ (cB (ja d))),I 0]),h):=bN.use (L:=LA) ce O O;have d0:H3.boxes[h.boxes.length]?=J (bj d p r n):=e23.box _ _ (x1.box _ _ (aK h (bj d p r n)));have d4:=x2.box _ _ d0;have d5:=x3.box _ _ d4;have d6:=x4.box _ _ d5;have M3:=q_ d0;have M4:=q_ d4;have M5:=q_ d5;have w3:=jJ b3;have w4:=jJ (x2.box _ _ b3);have w5:=jJ (x3.box _ _ (x2.box _ _ b3));have w6:=jJ bH6;have y3:=AG ok.t d0;have y4:=AG ok.t d4;have y5:=AG ok.t d5;have y6:=AG ok.t d6;have d7:(E.app t).boxes[h.boxes.length]?=J (bj d p r n):=by rw[dS];exact d6
  have y7:=AG ok.t d7;have fP:F h.boxes≠F A.boxes:=by have:=(aT.1 (x1.box _ _ (aK h (bj d p r n)))).1;have q1:=aK h (bj d p r n);intro z0;rw[z0]at this;omega
  have y8:=AG (H:=(E.app t).put (F A.boxes) (ar 3 0 [] (.free E.tn) 4 (rows++[ar 3 0 [] t2 B e,ar 3 0 [] t3 u i,ar 3 0 [] t4 D j,ar 2 0 d.tx .nil 0 []]))) ok.t (by rw[cd fP];exact d7);have sl:=ar5 (F h.boxes);have Nk:cE (.list t sz rows) (.list t sz rows)=V:=by have:=Px _ _ v1;unfold ar at this;simp only[fV,bm]at this;exact this.2.2.2.1
  have hp:cE p p=V:=by obtain⟨k,s,z0,-⟩:=ok.p;rw[z0];exact v9 _ _ _
  have hr:cE r r=V:=by obtain⟨k,s,z0,-⟩:=ok.r;rw[z0];exact v9 _ _ _
  have hn:cE n n=V:=by obtain⟨k,s,z0,-⟩:=ok.n;rw[z0];exact v9 _ _ _
  clear hd f1 f2 f3 f4 f5 f6 g1 g2 g3 n1 m1 n2 m2 n3 m3 v1 v2 v3 v4 v5 vv ok hc fr1 fr2 fr3 fr4 fo1 fo2 fo3 fo4 ni1 ni2 ni3 ni4 rl1 rl2 Yx rl4 ca1 ca2 ca3 ca4 can6 ce x1 x2 x3 x4 e23 ok2 ok3 ok4 ok5 ok6 bH6 b3 d0 d4 d5 d6 d7;generalize hDD:bj d p r n=z1 at *
  generalize ar 3 0 [] (.free E.tn) 4 (rows++[ar 3 0 [] t2 B e,ar 3 0 [] t3 u i,ar 3 0 [] t4 D j,ar 2 0 d.tx .nil 0 []])=FV at *
  generalize ar 3 0 [] t2 B e=V2 at *
  generalize ar 3 0 [] t3 u i=V3 at *
  generalize ar 3 0 [] t4 D j=V4 at *
  unfold I at *
  refine bL O abO O ?_;refine bA @sC @bg @d_ @o ?_;refine Jb [13] [(1,4),(4,6),(1,7),(4,9),(7,9),(1,10)] bD ?_ ?_ ?_
  .intro k hk;simp only[ig]at hk;subst hk;refine aeq (v:=.arr (F h.boxes) 9 32 32) (x:=.v (.string (bs d.tx))) O O ?_ ?_
   .simp only[dw,cX];exact jn @sC @bg @d_ (aj @o @and_self)
   .intro m hm;change m<=19 at hm;rcases m with _|_|_|_|_|_|_|_|_|_|_|_|_|_|_|_|_|_|_|_|m
    rotate_right 1
    .omega
    all_goals (simp only[dw,cX];exact jn @sC @bg @d_ (aj @o @and_self))
  .intro q hq;simp only[gU,qJ,or_false]at hq;rcases hq with rfl|rfl|rfl|rfl|rfl|rfl
   .refine jN (x:=.ptr (.box (F A.boxes)) 3) (v:=.list t sz rows) bD O O O bD (Nk) ?_ ?_<;>(simp only[dw,cX];exact jn @sC @bg @d_ (aj @o @and_self))
   .refine kj (x:=.ptr (.box (F h.boxes)) 7) (v:=r) bD O O O bD (hr) ?_ ?_<;>(simp only[dw,cX];exact jn @sC @bg @d_ (aj @o @and_self))
   .refine jN (x:=.ptr (.box (F A.boxes)) 3) (v:=.list t sz rows) bD O O O bD (Nk) ?_ ?_<;>(simp only[dw,cX];exact jn @sC @bg @d_ (aj @o @and_self))
   .refine kj (x:=.ptr (.box (F h.boxes)) 8) (v:=n) bD O O O bD (hn) ?_ ?_<;>(simp only[dw,cX];exact jn @sC @bg @d_ (aj @o @and_self))
   .refine kj (x:=.ptr (.box (F h.boxes)) 8) (v:=n) bD O O O bD (hn) ?_ ?_<;>(simp only[dw,cX];exact jn @sC @bg @d_ (aj @o @and_self))
   .refine jN (x:=.ptr (.box (F A.boxes)) 3) (v:=.list t sz rows) bD O O O bD (Nk) ?_ ?_<;>(simp only[dw,cX];exact jn @sC @bg @d_ (aj @o @and_self))
  refine bA @sC @bg @d_ @o ?_;exact⟨_,_,O,.inr ⟨by first|rfl|trivial,_,O⟩⟩
def pR:Tryz.f42.results.toList=[.tmp 2,.tmp 3]:=by kernel_rfl
def ac5:iI aa 118 [(0,.v (.int .i64 3))]=J (.agg (ar 3 0 [] .nil 0 [])):=by kernel_rfl
def ajM(h:Heap)(k:Tok)(s:Nat):∃r h',W6.call 98 [.list k s []] h=J (r,h')/\r=.ret (.agg (ar 3 0 [] .nil 0 [])):=by
 have z:=JE;have b3:=ac5;have i:=cU;have s3:bV aa ((h.push (ar 0 0 [] .nil 0 [])).push (ar 0 0 [] .nil 0 [])) 118 (.ptr (.box (F (h.push (ar 0 0 [] .nil 0 [])).boxes)) 0) (.agg (ar 3 0 [] .nil 0 []))=J ((h.push (ar 0 0 [] .nil 0 [])).push (ar 3 0 [] .nil 0 [])):=PH O O;have D:aD aa Gt ((h.push (ar 0 0 [] .nil 0 [])).push (ar 3 0 [] .nil 0 [])) 118 (.ptr (.box (F (h.push (ar 0 0 [] .nil 0 [])).boxes)) 0)=J (.agg (ar 3 0 [] .nil 0 [])):=ni O (aK _ _);have f:((h.push (ar 0 0 [] .nil 0 [])).push (ar 3 0 [] .nil 0 [])).boxes[h.boxes.length]?=J (ar 0 0 [] .nil 0 []):=aN (aK _ _);have E:=Zn (r:=ar 3 0 [] .nil 0 []) f O O O;have B:=Wr (H:=(h.push (ar 0 0 [] .nil 0 [])).push (ar 3 0 [] .nil 0 [])) (r:=ar 3 0 [] .nil 0 []) O (aT.1 f).1;refine bL O Tryz.func98 O ?_;refine bh @BY ?_;refine b_ (λm e H=>e.get 2=.ptr (.box (F h.boxes)) 0/\e.get 3=.ptr (.box (F (h.push (ar 0 0 [] .nil 0 [])).boxes)) 0/\e.get 0=.list k s []/\e.get 4=.v (.int .i64 0)/\e.defers=[]/\H=(h.push (ar 0 0 [] .nil 0 [])).push (ar 3 0 [] .nil 0 [])) ?_ 0 _ _ ?_;rotate_left 1
 .refine⟨?_,?_,?_,?_,?_,O⟩<;>exact gS
 rintro m e H ⟨o,u,j,v,A,rfl⟩;refine bG @BY @f_.{0} ?_;exact⟨_,_,O,O⟩
def Bn:wt SA:=wt.up O ajI
def atD:ww SA:=ww.up O atC
def agc:ws SA:=ws.up O agb
def ak2:wu SA:=wu.up O ak1
def ajL:xN SA:=xN.up O (xN.up (R:=W7) (L:=L8) O ajK)
def NE{x}{l}(hx:IL x l)(A:F l<=1000)(o:∀n∈l,0<=n/\n<=4611686018427387903):∃t sz rows,(∀h,SA.call 98 [x] h=J (.ret (.agg (ar 3 0 [] t sz rows)),h))/\b9 (Bo l) (ar 3 0 [] t sz rows)/\a_ (ar 3 0 [] t sz rows)=ar 3 0 [] t sz rows:=by
 obtain⟨k,s,rfl,B⟩:=hx;by_cases i:l=[]
 .subst i;obtain⟨_,_,c,rfl⟩:=ajM ⟨[],[],0,[]⟩ (bU k) s;have v:bN W7 98 [.list (bU k) s []] (.agg (ar 3 0 [] .nil 0 [])):=bN.new (L:=L7) c O (by cases k<;>rfl) (by rw[aA,au,eo];rfl) O O;exact⟨.nil,0,[],bN.use (L:=LA) (v.up (L:=L8) O) O O,.list _ _ _ _ O (λq=>absurd O q) (bY _) (λD E r q=>by simp at q),O⟩
 .have u:=B i;subst u;refine⟨.held,4,l.map cO,ajL k l A i o,?_,?_⟩
  .refine .list _ _ _ _ b8 (λ_=>rfl) (by rw[br];omega) λD E r e f=>?_;rw[ec]at e f;cases j:l[D]? with
   |none=>rw[j]at e;cases e
   |some n=>rw[j]at e f;injection e with e;injection f with f;subst e;subst f;exact .int _ (o n (cT j))
  .unfold ar;simp only[a_,al,(Hr l).1];rfl
def ajU(b i)(h:i<32):dK aa 29 (.ptr (.box b) 9) (.v (.int .i64 (i:Nat)))=J (.ptr (.box b) (9+i)):=by
 have h1:aa.underlying 29=J (.array 32 5):=Tryz.underlying29;have h2:cC aa 5=J 1:=by kernel_rfl
 unfold dK;simp only[h1,h2];rw[av M,fD,jS]
def akw{H}{b i}{d}{p r n}{c}(f:H.boxes[b]?=J (bj d p r n))(hc:d.tx[i]?=J c):aD aa Gt H 5 (.ptr (.box b) (9+i))=J (fJ c):=by rw[fm bD f];unfold bj;rw[List.drop_append,List.drop_eq_nil_of_le b8];have j:=(aT.1 hc);obtain⟨e,rfl⟩:=j;simp only[dO,ef,f_];rw[(M:9+i-(0+1+1+1+1+1+1+1+1+1)=i),s_ (by simpa using e)];simp
def adT(c):fy aa 60 1 [(0,fJ c)]=J (.list .tight 1 (bJ [c])):=by kernel_rfl
def adG{f r2 i j o u v A B e}(h1:F f=4)(h2:F r2=4)(h3:F i=4)(h4:F j=4)(h5:F o=4)(h6:F u=4)(h7:F v=4)(h8:F A=4)(h9:F B=4)(h0:F e=4)
 (D:(U.agg f).bF=J f) (c2:(U.agg r2).bF=J r2) (E:(U.agg i).bF=J i) (c4:(U.agg j).bF=J j) (c5:(U.agg o).bF=J o) (c6:(U.agg u).bF=J u) (c7:(U.agg v).bF=J v) (c8:(U.agg A).bF=J A) (c9:(U.agg B).bF=J B) (c0:(U.agg e).bF=J e):
 fy aa 116 10 [(0,.agg f),(1,.agg r2),(2,.agg i),(3,.agg j),(4,.agg o),(5,.agg u),(6,.agg v),(7,.agg A),(8,.agg B),(9,.agg e)]=J (.list .tight 4 [f,r2,i,j,o,u,v,A,B,e]):=by
 have z0:aa.underlying 116=J (.slice 118):=lO;unfold fy;simp only[z0,nm,sQ];rw[av ⟨aY,O,by decide⟩];simp[w7,D,c2,E,c4,c5,c6,c7,c8,c9,c0,h1,h2,h3,h4,h5,h6,h7,h8,h9,h0]
def atA(h:Heap)(d:Dc)(p r n:U)(ok:lL d p r n)(hc:d.sV)(kp:al p=p)(kr:al r=r)(f:al n=n):
 ∃rr h',SA.call 42 [.agg (bj d p r n)] h=J (rr,h')/\((iB d=ah/\rr=.ret (.tuple [.list .nil 0 [],I 170]))∨(iB d=V/\∃t,rr=.ret (.tuple [.list t 1 (bJ (cB (ja d))),I 0]))):=by
 have bx:=ok.cells;have hD:=ok.len;have E:=(akk ok hc).call;rw[kp,kr,f]at E;have lD:=vE hD (aK h (bj d p r n));cases hd:iB d with
 |false=>
  rw[hd]at E;clear ok hc;generalize bj d p r n=z4 at *
  refine bL O abQ O ?_;refine bG @pR @bg ?_;exact⟨_,_,O,.inl ⟨by first|rfl|trivial,O⟩⟩
 |true=>
  rw[hd]at E;obtain⟨f1,f2,f3,f4,f5,f6,g1,g2,g3⟩:=Te hd;obtain⟨n1,m1⟩:=Bv g1;obtain⟨n2,m2⟩:=Bv g2;obtain⟨n3,m3⟩:=Bv g3;have L:=q_ (aK h (bj d p r n));have z5:=AO;have htx:=ok.t;have lt:∀i c,d.tx[i]?=J c->aD aa Gt (h.push (bj d p r n)) 5 (.ptr (.box (F h.boxes)) (9+i))=J (fJ c):=λi c e=>akw (aK h (bj d p r n)) e;have klt:=ae.mk lt;have i1:=Bn d.no;have i2:=Bn d.tm;have i3:=Bn d.kd;have i4:=Bn d.vl;have i5:=Bn d.fr;have i6:=Bn d.un;obtain⟨t1,u,j,e1,v1,k1⟩:=NE ok.p M (λq e=>by have:=m1 q e;omega);obtain⟨t2,A,o,e2,v2,k2⟩:=NE ok.r M (λq e=>by have:=m2 q e;omega);obtain⟨t3,B,R3,e3,v3,k3⟩:=NE ok.n M (λq e=>by have:=m3 q e;omega);have ct:∀h,SA.call 99 [.v (.string (bs d.tx))] h=J (.ret (.agg (ar 2 0 d.tx .nil 0 [])),h):=atD d.tx;have v0:b9 (.text d.tx) (ar 2 0 d.tx .nil 0 []):=.text _ M;have w1:b9 (.int d.no) (cO d.no):=.int _ M;have w2:b9 (.int d.tm) (cO d.tm):=.int _ M;have w3:b9 (.int d.kd) (cO d.kd):=.int _ M;have w4:b9 (.int d.vl) (cO d.vl):=.int _ M;have w5:b9 (.int d.fr) (cO d.fr):=.int _ M;have w6:b9 (.int d.un) (cO d.un):=.int _ M;have bl:=adG w1.len w2.len w3.len w4.len w5.len w6.len v1.len v2.len v3.len v0.len w1.cells w2.cells w3.cells w4.cells w5.cells w6.cells v1.cells v2.cells v3.cells v0.cells;have vs:=fX.cons w1 (fX.cons w2 (fX.cons w3 (fX.cons w4 (fX.cons w5 (fX.cons w6 (fX.cons v1 (fX.cons v2 (fX.cons v3 (fX.cons v0 fX.nil)))))))));have D:dm [cO d.no,cO d.tm,cO d.kd,cO d.vl,cO d.fr,cO d.un,ar 3 0 [] t1 u j,ar 3 0 [] t2 A o,ar 3 0 [] t3 B R3,ar 2 0 d.tx .nil 0 []]=[cO d.no,cO d.tm,cO d.kd,cO d.vl,cO d.fr,cO d.un,ar 3 0 [] t1 u j,ar 3 0 [] t2 A o,ar 3 0 [] t3 B R3,ar 2 0 d.tx .nil 0 []]:=by simp only[dm,k1,k2,k3];rfl
  have cl:=ak2 _ _ vs D .tight b8;have vv:b9 (ja d) (ar 3 0 [] .tight 4 [cO d.no,cO d.tm,cO d.kd,cO d.vl,cO d.fr,cO d.un,ar 3 0 [] t1 u j,ar 3 0 [] t2 A o,ar 3 0 [] t3 B R3,ar 2 0 d.tx .nil 0 []]):=.list _ _ _ _ vs.1 (λ_=>rfl) b8 vs.2;obtain⟨te,ce⟩:=agc _ _ vv (Td d) (by have:=Tf n1 n2 n3 ok.t;omega);have z:=JE;have s9:=PH (H:=h.push (bj d p r n)) vv.cells vv.len;have l9:=ni vv.len (aK (h.push (bj d p r n)) (ar 3 0 [] .tight 4 [cO d.no,cO d.tm,cO d.kd,cO d.vl,cO d.fr,cO d.un,ar 3 0 [] t1 u j,ar 3 0 [] t2 A o,ar 3 0 [] t3 B R3,ar 2 0 d.tx .nil 0 []]));have L9:=q_ (H:=(h.push (bj d p r n)).push (ar 0 0 [] .nil 0 [])) (aN (aK h (bj d p r n)));have L8:=q_ (H:=(h.push (bj d p r n)).push (ar 3 0 [] .tight 4 [cO d.no,cO d.tm,cO d.kd,cO d.vl,cO d.fr,cO d.un,ar 3 0 [] t1 u j,ar 3 0 [] t2 A o,ar 3 0 [] t3 B R3,ar 2 0 d.tx .nil 0 []])) (aN (aK h (bj d p r n)));have hp:cE p p=V:=by obtain⟨k,s,z0,-⟩:=ok.p;rw[z0];exact v9 _ _ _
  have hr:cE r r=V:=by obtain⟨k,s,z0,-⟩:=ok.r;rw[z0];exact v9 _ _ _
  have hn:cE n n=V:=by obtain⟨k,s,z0,-⟩:=ok.n;rw[z0];exact v9 _ _ _
  clear hd f1 f2 f3 f4 f5 f6 g1 g2 g3 n1 m1 n2 m2 n3 m3 v1 v2 v3 v0 w1 w2 w3 w4 w5 w6 vv vs D ok hc lt;generalize bj d p r n=z4 at *
  generalize ar 3 0 [] t1 u j=V1 at *
  generalize ar 3 0 [] t2 A o=V2 at *
  generalize ar 3 0 [] t3 B R3=V3 at *
  generalize hV:ar 3 0 [] .tight 4 [cO d.no,cO d.tm,cO d.kd,cO d.vl,cO d.fr,cO d.un,V1,V2,V3,ar 2 0 d.tx .nil 0 []]=FV at *
  have cl2:∀h,SA.call 96 [.list .tight 4 [cO d.no,cO d.tm,cO d.kd,cO d.vl,cO d.fr,cO d.un,V1,V2,V3,ar 2 0 d.tx .nil 0 []]] h=J (.ret (.agg FV),h):=by rw[<-hV];exact cl
  clear cl hV;unfold I at *
  refine bL O abQ O ?_;refine bG @pR @bg ?_;refine b_ (λm z0 H=>∃i:Nat,i<=32/\m=32-i/\z0.get 1=.ptr (.box (F h.boxes)) 0/\z0.get 4=.v (.string (bs (d.tx.take i)))/\z0.get 5=.v (.int .i64 (i:Nat))/\z0.defers=[]/\H=h.push z4) ?_ 32 _ _ ?_;rotate_left 1
  .refine⟨0,by omega,O,?_,?_,?_,?_,O⟩<;>exact gR
  rintro m z0 H ⟨i,hi,rfl,g1,g4,g5,hd,rfl⟩;by_cases di:i<32
  .obtain⟨c,Mt⟩:∃c,d.tx[i]?=J c:=⟨_,aP M⟩;have lc:=klt.out i c Mt;have ix:=ajU (F h.boxes) i di;have bu:fy aa 60 1 [(0,fJ c)]=J (.list .tight 1 [iy c]):=adT c;have cv:∀h,kL aa h 60 9 (.list .tight 1 [iy c])=J (.v (.string (bs [c])),h):=Lr (k:=.tight) (s:=1) (b:=[c]) (λ_=>rfl);have ad:∀t x y,cy aa .add t x y (.v (.string (bs (d.tx.take i)))) (.v (.string (bs [c])))=J (.v (.string (bs (d.tx.take i++[c])))):=λt x y=>RT (by rw[cR];simp;omega);have kts:=ae.mk (gg Mt);have fO:((i:Nat):Int)<32:=(by omega);clear Mt;refine bh @pR ?_;exact⟨32-(i+1),by omega,i+1,by omega,O,by simp[kts.out]⟩
  .have gr:i=32:=(by omega);subst gr;rw[ga M]at g4;clear klt;refine bh @pR ?_;refine iG [(1,31),(4,31),(7,31),(10,31),(13,31),(16,31),(19,31),(22,31),(25,31)] aej bD (λq e=>?_) ?_
   .simp only[gU,qJ,or_false]at e;rcases e with rfl|rfl|rfl|rfl|rfl|rfl|rfl|rfl|rfl
    .refine jN (x:=.ptr (.box (F h.boxes)) 0) (v:=.v (.int .i64 d.no)) bD O O O bD (by simp[cE,gF]) ?_ ?_<;>(simp only[dw,cX];exact dV @pR @and_self)
    .refine jN (x:=.ptr (.box (F h.boxes)) 1) (v:=.v (.int .i64 d.tm)) bD O O O bD (by simp[cE,gF]) ?_ ?_<;>(simp only[dw,cX];exact dV @pR @and_self)
    .refine jN (x:=.ptr (.box (F h.boxes)) 2) (v:=.v (.int .i64 d.kd)) bD O O O bD (by simp[cE,gF]) ?_ ?_<;>(simp only[dw,cX];exact dV @pR @and_self)
    .refine jN (x:=.ptr (.box (F h.boxes)) 3) (v:=.v (.int .i64 d.vl)) bD O O O bD (by simp[cE,gF]) ?_ ?_<;>(simp only[dw,cX];exact dV @pR @and_self)
    .refine jN (x:=.ptr (.box (F h.boxes)) 4) (v:=.v (.int .i64 d.fr)) bD O O O bD (by simp[cE,gF]) ?_ ?_<;>(simp only[dw,cX];exact dV @pR @and_self)
    .refine jN (x:=.ptr (.box (F h.boxes)) 5) (v:=.v (.int .i64 d.un)) bD O O O bD (by simp[cE,gF]) ?_ ?_<;>(simp only[dw,cX];exact dV @pR @and_self)
    .refine jN (x:=.ptr (.box (F h.boxes)) 6) (v:=p) bD O O O bD (hp) ?_ ?_<;>(simp only[dw,cX];exact dV @pR @and_self)
    .refine jN (x:=.ptr (.box (F h.boxes)) 7) (v:=r) bD O O O bD (hr) ?_ ?_<;>(simp only[dw,cX];exact dV @pR @and_self)
    .refine jN (x:=.ptr (.box (F h.boxes)) 8) (v:=n) bD O O O bD (hn) ?_ ?_<;>(simp only[dw,cX];exact dV @pR @and_self)
   refine bh @pR ?_;exact⟨_,_,O,.inr ⟨by first|rfl|trivial,_,O⟩⟩
section
variable {X Y C T L S Z:U} {rows:List (List Int)} {ac ai u z:List Int} {text:List UInt8} {l:List Pr} {s:List (Int × Int)} {ep:Int}
def zy(ep:Int)(hx:RL X rows)(E:IL Y ac)(hc:IL C ai):RL (al X) rows/\IL (al Y) ac/\IL (al C) ai/\aA 0 0 0 (aM ep (al X) (al Y) (al C))=V:=by obtain⟨h1,h2,e,f⟩:=ob hx E;obtain⟨i,j⟩:=hc.hold;exact⟨h1,h2,i,by simp[aM,aA,au,e,f,j,I]⟩
def ajX(hx:RL X rows)(E:IL Y ac)(hc:IL C ai)(eM:F ai<=1000000):bN W8 37 [.agg (aM ep (al X) (al Y) (al C)),.list .nil 0 [],.list .nil 0 []] (.tuple [.list .nil 0 [],I 0,I 0,I (eg rows ac ep ai [] [])]):=by
 obtain⟨h1,h2,f,i⟩:=zy ep hx E hc;have e:eg rows ac ep ai [] []≠0:=by
  unfold eg;split
  .assumption
  .split
   .decide
   .split
    .simp at *
    .split
     .simp at *
     .split
      .simp[NT.mF]at *
      .simp
 rcases RV ep (al X) (al Y) (al C) (.list .nil 0 []) (.list .nil 0 []) rows ac ai [] [] h1 h2 f ⟨.nil,0,rfl,λq=>absurd O q⟩ ⟨.nil,0,O,λq=>absurd O q⟩ eM (bY _) with⟨-,c⟩|⟨q,-⟩
 .exact tJ ⟨c,lh [.agg (aM ep X Y C),.list .nil 0 [],.list .nil 0 []],by rw[aA,au,i];rfl,λ_=>rfl,O⟩ O O
 .exact absurd q e
def adn:eg rows ac ep ai [] []=if cH rows ac≠0 then cH rows ac else if iW rows ep ai=ah then 380 else 420:=by
 unfold eg iW;by_cases h:cH rows ac=0
 .simp only[h,ne_eq,not_true_eq_false,if_false];generalize (decide (0<=ep)&&decide (ep<=64)&&decide (F ai=cg rows)&&ai.all bX)=b;cases b<;>simp[NT.mF]
 .simp only[h,ne_eq,not_false_eq_true,if_true]
def aj7(hx:RL X rows)(E:IL Y ac)(hc:IL C ai)(eM:F ai<=1000000):bN W8 41 [.agg (aM ep (al X) (al Y) (al C))] (.v (.bool (iW rows ep ai))):=by obtain⟨h1,h2,e,f⟩:=zy ep hx E hc;exact⟨akp ep _ _ _ rows ac ai h1 h2 e eM,lh [.agg (aM ep X Y C)],by rw[aA,au,f];rfl,λ_=>rfl,O⟩
def aj2(hx:RL X rows)(E:IL Y ac)(hc:IL C ai):∃b,(b=V->F rows<=80/\F ac<=80/\F ai<=80)/\bN W8 31 [.agg (aM ep (al X) (al Y) (al C)),.list .nil 0 [],.list .nil 0 []] (.v (.bool b)):=by obtain⟨h1,h2,f,i⟩:=zy ep hx E hc;obtain⟨b,e,c⟩:=agF ep _ _ _ (.list .nil 0 []) (.list .nil 0 []) rows ac ai [] [] h1 h2 f ⟨.nil,0,O,λq=>absurd O q⟩ ⟨.nil,0,O,λq=>absurd O q⟩;exact⟨b,λq=>⟨(e q).1,(e q).2.1,(e q).2.2.1⟩,c,lh [.agg (aM ep X Y C),.list .nil 0 [],.list .nil 0 []],by rw[aA,au,i];rfl,λ_=>rfl,O⟩
def ajZ(hx:RL X rows)(E:IL Y ac)(hc:IL C ai)(ht:BL T text)(hp:PL L l)(hz:IL Z z)(eM:F ai<=1000000)(gJ:F l<=1000000)(f:F text<=1000000)(i:F z<=1000000):
 bN W8 60 [.agg (aM ep (al X) (al Y) (al C)),al T,al L,al Z] (.tuple [.agg [I (iT rows ac ep ai text l z).1.1,I (iT rows ac ep ai text l z).1.2],.v (.bool (iT rows ac ep ai text l z).2.1),I (iT rows ac ep ai text l z).2.2]):=by
 obtain⟨h1,h2,j,o⟩:=zy ep hx E hc;obtain⟨u,v⟩:=ht.hold;obtain⟨A,B⟩:=hp.hold;obtain⟨D,e⟩:=hz.hold;obtain⟨_,_,c,-,rfl⟩:=afr ⟨[],[],0,[]⟩ ep _ _ _ _ _ _ rows ac ai text l z h1 h2 j u A eM gJ f (.inl D) i;exact bN.new (L:=L8) c O (lh [.agg (aM ep X Y C),T,L,Z]) (by rw[aA,au,o,aA,v,aA,B,aA,e];rfl) O rfl
def aj0(hx:RL X rows)(E:IL Y ac)(hz:IL Z u)(hl:F u<=1000)(e:F rows<=1000000)(v:Int)(he:p_ rows ac v u=0):
 ∃i j,SL i (oJ rows (v::u))/\IL j (p8 (v::u))/\bN W8 71 [.agg [al X,al Y],I v,al Z] (.tuple [i,j,I 0]):=by
 obtain⟨h1,h2,o,A⟩:=ob hx E;obtain⟨B,D⟩:=hz.hold;rcases afQ _ _ _ rows ac u v h1 h2 B hl e with⟨q,-⟩|⟨-,i,j,⟨k,s,rfl,hs⟩,⟨k2,s2,rfl,f⟩,c⟩
 .exact absurd he q
 .exact⟨.list (bU k) s (bO _),.list (bU k2) s2 (ints _),⟨_,_,O,hs⟩,⟨_,_,O,f⟩,bN.up (L:=L8) (bN.new (L:=L7) (c _) O (lh [.agg [X,Y],I v,Z]) (by simp[aA,au,o,A,D,I]) O (by rw[au,aA,au,eo,GB,aA,au,eo,ju];rfl)) O⟩
def aj8(hx:RL X rows)(E:IL Y ac)(hc:IL C ai)(ht:BL T text)(hp:PL L l)(hs:SL S s)(eM:F ai<=1000000)(gJ:F l<=1000000)(j:F s<=1000000)(e d f:Int):
 bN W8 30 [.agg (aM ep (al X) (al Y) (al C)),al T,al L,I e,al S,I d,I f] (.tuple [I (oQ rows ac ep ai text l e s d f).1,I (oQ rows ac ep ai text l e s d f).2]):=by
 obtain⟨h1,h2,o,u⟩:=zy ep hx E hc;obtain⟨v,A⟩:=ht.hold;obtain⟨B,D⟩:=hp.hold;obtain⟨h9,i⟩:=hs.hold;exact tJ ⟨alm ep _ _ _ _ _ rows ac ai text l h1 h2 o v B eM gJ _ s e d f h9 j,lh [.agg (aM ep X Y C),T,L,I e,S,I d,I f],by simp only[aA];rw[au,u,A,D,i];rfl,λ_=>rfl,O⟩ O rfl
def akn(ht:BL T text)(o:F text<=1000000)(f e s:Int):bN W8 26 [I f,al T,.agg [I e,I s]] (.v (.bool (rC f text e s))):=by obtain⟨i,j⟩:=ht.hold;exact tJ ⟨Z8 f e s _ text i o,lh [I f,T,.agg [I e,I s]],by simp only[aA];rw[j];rfl,λ_=>rfl,O⟩ O rfl
end
def Yg:Tryz.f36.results.toList=[]:=by kernel_rfl
def Yi:Tryz.f85.results.toList=[]:=by kernel_rfl
def Yf:Tryz.f33.results.toList=[.cell 2 39]:=by kernel_rfl
def ac8(e):iI aa 134 [(0,.v (.int .i64 e))]=J (.agg [.v (.int .i64 e)]):=by kernel_rfl
def aji:isIface aa 134=J ah:=by kernel_rfl
def acP(x):tD aa (.iface 134 (.agg x)) 134 V=J (.tuple [.agg x,.v (.bool V)]):=by kernel_rfl
def ajj:isIface aa 20=J V:=by kernel_rfl
def auF:(fW aa 134).bind U.bF=J [.v (.int .i64 0)]:=by kernel_rfl
def auP:(fW aa 39).bind U.bF=J [.v (.int .i64 0)]:=by kernel_rfl
def Rv:fH aa 39=J ah:=by kernel_rfl
def atq:cC aa 39=J 1:=by kernel_rfl
def ati:cC aa 134=J 1:=by kernel_rfl
def agy(b):dU aa 134 (.ptr (.box b) 0) 0=J (.ptr (.box b) 0):=by kernel_rfl
def lI(e:Int):U:=.iface 134 (.agg [.v (.int .i64 e)])
def kY(e:Int):dR:=if e=0 then .ret (.tuple []) else .panic (lI e)
section
variable {h:Heap} {b:Nat} {n n':Int} {x:U}
def ZB(e:h.boxes[b]?=J [x]):bV aa h 39 (.ptr (.box b) 0) (.v (.int .i64 n'))=J (h.put b [.v (.int .i64 n')]):=fC (off:=0) (cs:=[x]) (xs:=[.v (.int .i64 n')]) O atq e O (aV 1)
def asX(e:h.boxes[b]?=J [x]):bV aa h 134 (.ptr (.box b) 0) (.agg [.v (.int .i64 n')])=J (h.put b [.v (.int .i64 n')]):=fC (off:=0) (cs:=[x]) (xs:=[.v (.int .i64 n')]) O ati e O (aV 1)
def N4(e:h.boxes[b]?=J [x]):aD aa Gt h 39 (.ptr (.box b) 0)=J x:=by rw[fm Rv e];rfl
end
section
variable {pr:aR->Option (List U->Heap->Option (U × Heap))}
def BB(hp:pr 36=ag)(e:Int)(h:Heap):(whole aa Gt pr).call 36 [.v (.bool V),.v (.int .i64 e)] h=J (.ret (.tuple []),h):=by refine cr hp abP O ?_;exact iL @Yg
def BA(hp:pr 36=ag)(e:Int)(h:Heap):(whole aa Gt pr).call 36 [.v (.bool ah),.v (.int .i64 e)] h=J (.panic (lI e),h):=by
 have f:=aji;refine cr hp abP O ?_
 repeat' (first|simp(maxSteps:=9999999) (disch:=first|exact dZ|fail) only[gW,reduceIte,aH,aC,Yg,ac8,lI, *]|refine dX ?_ ?_<;>(intro _;try omega))
def aex(b:Nat)(h:Heap):(whole aa Gt pr).iA 85 [.ptr (.box b) 0] ag h=J (.ret (.tuple []),ag,h):=by have e:=abX;refine Ls abT O ?_;exact pC @Yi @RS @and_self
def aey(b:Nat)(h:Heap)(e:Int){x:U}(f:h.boxes[b]?=J [x]):(whole aa Gt pr).iA 85 [.ptr (.box b) 0] (J (lI e,ah)) h=J (.ret (.tuple []),J (lI e,V),(h.push [.v (.int .i64 e)]).put b [.v (.int .i64 e)]):=by
 have o:=abX;have j:=ajj;have i:=auF;have v:=(aT.1 f).1;have A:bV aa (h.push [.v (.int .i64 0)]) 134 (.ptr (.box (F h.boxes)) 0) (.agg [.v (.int .i64 e)])=J (h.push [.v (.int .i64 e)]):=by rw[asX (aK _ _)];congr 1;exact mg _ _ _
 have u:=N4 (aK h [.v (.int .i64 e)]);have B:=ZB (n':=e) (aN (cs:=[.v (.int .i64 e)]) f);unfold lI;refine Ls abT O ?_;exact jn @Yi @adr @acP (aj @agy @and_self)
def F_(hp:pr 33=ag)(g:Nat)(f:List U)(h h2:Heap)(e:Int)(c2:(whole aa Gt pr).call g f (h.push [.v (.int .i64 0)])=J (kY e,h2))(o:h2.boxes[h.boxes.length]?=J [.v (.int .i64 0)]):
 ∃h',(whole aa Gt pr).call 33 [.func (.func g) [] f] h=J (.ret (.v (.int .i64 e)),h')/\(∀b cs,b≠F h.boxes->h2.boxes[b]?=J cs->h'.boxes[b]?=J cs):=by
 have z39:=auP;have a39:=Rv;have D:=(aT.1 o).1;have v:=aex (pr:=pr) (F h.boxes) (h2.put (F h.boxes) [.v (.int .i64 0)]);have A:=aey (pr:=pr) (F h.boxes) h2 e o;have E:=ZB (n':=0) o;refine gI hp Tryz.func33 O ?_;unfold kY at c2;by_cases j:e=0
 .rw[av j]at c2;subst j;clear A;have B:=N4 (h:=h2.put (F h.boxes) [.v (.int .i64 0)]) (x:=.v (.int .i64 0)) (dh D);refine bh @Yf ?_;exact⟨_,O,λb cs i u=>by rw[cd i];exact u⟩
 .rw[aL j]at c2;clear v E;have B:=N4 (h:=(h2.push [.v (.int .i64 e)]).put (F h.boxes) [.v (.int .i64 e)]) (x:=.v (.int .i64 e)) (dh (by rw[bE];omega));refine bh @Yf ?_;exact⟨_,O,λb cs i u=>by rw[cd i];exact aN u⟩
end
def LB:List aR:=LA++[28,42]
noncomputable def BR:aR->Option (List U->Heap->Option (U × Heap)):=lU SA LB
noncomputable abbrev SB:=whole aa Gt BR
def jW:mo BR LB:=rK
section
variable {d:Dc} {p r n:U}
def Hq(ok:lL d p r n):a_ [.agg (bj d (al p) (al r) (al n))]=[.agg (bj d (al p) (al r) (al n))]:=by rw[<-yn];exact lh [.agg (bj d p r n)]
def NJ(ok:lL d p r n)(hc:d.sV):∃T,(iB d=V->BL T (cB (ja d)))/\al T=T/\bN SB 28 [.agg (bj d (al p) (al r) (al n))] (.tuple [T,I (if iB d=V then 0 else 170)]):=by
 obtain⟨k,e⟩:=ok.hold;obtain⟨j,i,c,⟨q,rfl⟩|⟨q,t,rfl⟩⟩:=aty ⟨[],[],0,[]⟩ O d _ _ _ k hc (l8 p) (l8 r) (l8 n)
 .refine⟨.list .nil 0 [],λf=>by rw[q]at f;(first|cases f|contradiction),O,?_⟩;rw[aL (by simp[q])];exact bN.new (L:=LB) c O (Hq ok) (by rw[aA,au,e];rfl) O O
 .refine⟨.list (bU t) 1 (bJ (cB (ja d))),λ_=>⟨_,_,O,λ_=>rfl⟩,by rw[al,qn];cases t<;>rfl,?_⟩;rw[av (by simp[q])];exact bN.new (L:=LB) c O (Hq ok) (by rw[aA,au,e];rfl) O (by simp[au,aA,eo,jl,I])
def akl(ok:lL d p r n)(hc:d.sV):∃T,(iB d=V->BL T (cB (ja d)))/\al T=T/\bN SB 42 [.agg (bj d (al p) (al r) (al n))] (.tuple [T,I (if iB d=V then 0 else 170)]):=by
 obtain⟨k,e⟩:=ok.hold;obtain⟨j,i,c,⟨q,rfl⟩|⟨q,t,rfl⟩⟩:=atA ⟨[],[],0,[]⟩ d _ _ _ k hc (l8 p) (l8 r) (l8 n)
 .refine⟨.list .nil 0 [],λf=>by rw[q]at f;(first|cases f|contradiction),O,?_⟩;rw[aL (by simp[q])];exact bN.new (L:=LB) c O (Hq ok) (by rw[aA,au,e];rfl) O O
 .refine⟨.list (bU t) 1 (bJ (cB (ja d))),λ_=>⟨_,_,O,λ_=>rfl⟩,by rw[al,qn];cases t<;>rfl,?_⟩;rw[av (by simp[q])];exact bN.new (L:=LB) c O (Hq ok) (by rw[aA,au,e];rfl) O (by simp[au,aA,eo,jl,I])
end
def d0:Dc:=⟨0,0,0,0,0,0,[],[],[],List.replicate 32 0⟩
structure CA where
 X:U
 Y:U
 C:U
 p:U
 r:U
 n:U
 W:U
 Pa:U
 Z:U
def aq(c:Ce)(a:CA):List U:=aM c.ep a.X a.Y a.C++bj c.doc a.p a.r a.n++[a.W,a.Pa,a.Z]
structure cA(c:Ce)(a:CA):Prop where
 x:RL a.X c.rows
 y:IL a.Y c.ac
 cm:IL a.C c.ai
 d:lL c.doc a.p a.r a.n
 w:IL a.W c.who
 pa:PL a.Pa c.bI
 z:SL a.Z c.parts
def c0:Ce:=⟨[],[],0,[],d0,[],[],[]⟩
def a0:CA:=⟨nl,nl,nl,nl,nl,nl,nl,nl,nl⟩
def Fg{A B B' C}{k}(e:F A=k)(h:F B'=F B):dC (A++B++C) k B'=A++B'++C:=by subst e;unfold dC;rw[iO,iO,List.take_left,<-pW,CD,h,CD,<-iO]
def PL.bF{x}{l}(h:PL x l):x.bF=J [x]:=by obtain⟨k,s,rfl,-⟩:=h;rfl
section
variable {c:Ce} {a:CA}
def cA.len(ok:cA c a):F (aq c a)=48:=by unfold aq;rw[ck,ck,ok.d.len];unfold aM;rfl
def cA.cells(ok:cA c a):(U.agg (aq c a)).bF=J (aq c a):=by
 have h1:=nC (ep:=c.ep) ok.x ok.y ok.cm;have h2:=ok.d.cells;have f:a.W.cW=V:=by obtain⟨k,s,e,-⟩:=ok.w;rw[e];rfl
 have i:a.Pa.cW=V:=by obtain⟨k,s,e,-⟩:=ok.pa;rw[e];rfl
 have j:a.Z.cW=V:=by obtain⟨k,s,e,-⟩:=ok.z;rw[e];rfl
 unfold U.bF at *
 simp only at h1 h2 ⊢;split at h1
 .split at h2
  .rename_i o u;rw[av];unfold aq;rw[sZ,sZ,o,u];simp[f,i,j]
  .cases h2
 .cases h1
end
def fS:cA c0 a0:=⟨⟨.nil,0,[],O,λq=>absurd O q,O,λe a r h=>by simp at h⟩,⟨.nil,0,O,λq=>absurd O q⟩,⟨.nil,0,O,λq=>absurd O q⟩,⟨⟨.nil,0,O,λq=>absurd O q⟩,⟨.nil,0,O,λq=>absurd O q⟩,⟨.nil,0,O,λq=>absurd O q⟩,O⟩,⟨.nil,0,O,λq=>absurd O q⟩,⟨.nil,0,O,λq=>absurd O q⟩,⟨.nil,0,O,λq=>absurd O q⟩⟩
def wi:(fW aa 35).bind U.bF=J (aq c0 a0):=by kernel_rfl
def P':iI aa 35 []=J (.agg (aq c0 a0)):=by kernel_rfl
def acs:fH aa 35=J V:=by kernel_rfl
def ZR:cC aa 35=J 48:=by kernel_rfl
def acv:fH aa 32=J ah:=by kernel_rfl
def acw:fH aa 33=J ah:=by kernel_rfl
def io{H}{b}{D}(f:F D=48)(e:H.boxes[b]?=J D):aD aa Gt H 35 (.ptr (.box b) 0)=J (.agg D):=by rw[fR acs ZR e M,gG,<-f,fK]
def qy{H}{b}{D D2}(i:F D=48)(e:F D2=48)(hc:(U.agg D2).bF=J D2)(f:H.boxes[b]?=J D):bV aa H 35 (.ptr (.box b) 0) (.agg D2)=J (H.put b D2):=by rw[fC (off:=0) (cs:=D) (xs:=D2) hc ZR f e M,xD M]
def py:(∀b,dU aa 35 (.ptr (.box b) 0) 0=J (.ptr (.box b) 0))/\(∀b,dU aa 35 (.ptr (.box b) 0) 1=J (.ptr (.box b) 4))/\(∀b,dU aa 35 (.ptr (.box b) 0) 2=J (.ptr (.box b) 45))/\(∀b,dU aa 35 (.ptr (.box b) 0) 3=J (.ptr (.box b) 46))/\∀b,dU aa 35 (.ptr (.box b) 0) 4=J (.ptr (.box b) 47):=
 ⟨λ_=>by kernel_rfl,λ_=>by kernel_rfl,λ_=>by kernel_rfl,λ_=>by kernel_rfl,λ_=>by kernel_rfl⟩
def KO{K D T:List U}{i k l}(e:F K=k)(f:F D=l):(K++D++T).drop (k+l+i)=T.drop i:=by subst e;subst f;rw[<-pW,<-ck,CD]
def gL{H}{b}{c}{a}(ok:cA c a)(e:H.boxes[b]?=J (aq c a)):aD aa Gt H 27 (.ptr (.box b) 0)=J (.agg (aM c.ep a.X a.Y a.C))/\aD aa Gt H 31 (.ptr (.box b) 4)=J (.agg (bj c.doc a.p a.r a.n))/\aD aa Gt H 23 (.ptr (.box b) 45)=J a.W/\aD aa Gt H 32 (.ptr (.box b) 46)=J a.Pa/\aD aa Gt H 33 (.ptr (.box b) 47)=J a.Z/\aD aa Gt H 35 (.ptr (.box b) 0)=J (.agg (aq c a)):=by
 have o:=ok.len;have f:F (aM c.ep a.X a.Y a.C)=4:=rfl;have j:=ok.d.len;refine⟨?_,?_,?_,?_,?_,io o e⟩
 .rw[fR bD (by kernel_rfl:cC aa 27=J 4) e M,gG];unfold aq;rw[iO,qK f]
 .rw[fR bD (by kernel_rfl:cC aa 31=J 41) e M];unfold aq;rw[iO,aaN f,qK j]
 .rw[fm mW e];unfold aq;rw[KO (i:=0) f j];rfl
 .rw[fm acv e];unfold aq;rw[KO (i:=1) f j];rfl
 .rw[fm acw e];unfold aq;rw[KO (i:=2) f j];rfl
def zM:Tryz.f34.results.toList=[]:=by kernel_rfl
def anM:Tryz.f11.results.toList=[.cell 6 35,.tmp 7]:=by kernel_rfl
def zL:Tryz.f12.results.toList=[.cell 6 35,.tmp 7]:=by kernel_rfl
structure dG(a:CA):Prop where
 X:al a.X=a.X
 Y:al a.Y=a.Y
 C:al a.C=a.C
 p:al a.p=a.p
 r:al a.r=a.r
 n:al a.n=a.n
 W:al a.W=a.W
 Pa:al a.Pa=a.Pa
 Z:al a.Z=a.Z
structure FU(c:Ce)(a:CA):Prop where
 c35:∀h,SB.call 35 [.agg [a.X,a.Y]] h=J (.ret (I (cH c.rows c.ac)),h)
 c40:∀h,SB.call 40 [.agg [a.X,a.Y]] h=J (.ret (I (cH c.rows c.ac)),h)
 c37:∀h,SB.call 37 [.agg (aM c.ep a.X a.Y a.C),.list .nil 0 [],.list .nil 0 []] h=J (.ret (.tuple [.list .nil 0 [],I 0,I 0,I (eg c.rows c.ac c.ep c.ai [] [])]),h)
 Sg:∀h,SB.call 41 [.agg (aM c.ep a.X a.Y a.C)] h=J (.ret (.v (.bool (iW c.rows c.ep c.ai))),h)
 Sf:∃T,∀h,SB.call 28 [.agg (bj c.doc a.p a.r a.n)] h=J (.ret (.tuple [T,I (if iB c.doc=V then 0 else 170)]),h)
 c42:∃T,∀h,SB.call 42 [.agg (bj c.doc a.p a.r a.n)] h=J (.ret (.tuple [T,I (if iB c.doc=V then 0 else 170)]),h)
 c38:∀h,SB.call 38 [a.W] h=J (.ret (.v (.bool (dy (-1) c.who))),h)
 c43:∀h,SB.call 43 [a.W] h=J (.ret (.v (.bool (dy (-1) c.who))),h)
 c39:∃Z,∀h,SB.call 39 [.agg [a.X,a.Y],a.W] h=J (.ret (.tuple [Z,.v (.bool (fG c.rows c.ac c.who).2.1),I (fG c.rows c.ac c.who).2.2]),h)
 c44:∃Z,∀h,SB.call 44 [.agg [a.X,a.Y],a.W] h=J (.ret (.tuple [Z,.v (.bool (fG c.rows c.ac c.who).2.1),I (fG c.rows c.ac c.who).2.2]),h)
def nS{g}{a}{y}(c:bN W8 g a y)(h1:LA.contains g=V)(h2:LB.contains g=V):bN SB g a y:=(c.up (L:=LA) h1).up (L:=LB) h2
def Xc{c}{a}(ok:cA c a)(D:dG a)(fi:c.Fit):FU c a:=by obtain⟨f1,f2,f3,f4,-,-⟩:=fi;have i:=nS (ajY ok.x ok.y) O O;have j:=nS (akg ok.x ok.y f1) O O;have o:=nS (ajX (ep:=c.ep) ok.x ok.y ok.cm f2) O O;have u:=nS (aj7 (ep:=c.ep) ok.x ok.y ok.cm f2) O O;obtain⟨T1,-,-,v⟩:=NJ ok.d f4;obtain⟨T2,-,-,A⟩:=akl ok.d f4;have B:bN SB 38 [al a.W] (.v (.bool (dy (-1) c.who))):=(ake ok.w M).up (L:=LB) O;have E:=nS (akd ok.w M) O O;obtain⟨Z1,f⟩:=ajW ok.x ok.y ok.w M;obtain⟨Z2,e⟩:=akf ok.x ok.y ok.w f1 M;have f:=nS f O O;have e:=nS e O O;simp only[D.X,D.Y,D.C,D.p,D.r,D.n,D.W]at i j o u v A B E f e;exact⟨i.call,j.call,o.call,u.call,⟨_,v.call⟩,⟨_,A.call⟩,B.call,E.call,⟨_,f.call⟩,⟨_,e.call⟩⟩
def Xa(c:Ce):c.e_=if cH c.rows c.ac≠0 then cH c.rows c.ac else if iW c.rows c.ep c.ai=ah then 380 else if iB c.doc=ah then 170 else if dy (-1) c.who=ah then 1
 else if (fG c.rows c.ac c.who).2.1=ah∨(fG c.rows c.ac c.who).2.2≠0 then 440 else 0:=by
 unfold Ce.e_ NT.e_ iW;rw[Bool.and_right_comm (decide (0<=c.ep)&&decide (c.ep<=64))]
def RM{c}{a}(ok:cA c a):iI aa 35 [(0,.agg (aM c.ep a.X a.Y a.C)),(1,.agg (bj c.doc a.p a.r a.n)),(2,a.W)]=J (.agg (aM c.ep a.X a.Y a.C++bj c.doc a.p a.r a.n++[a.W,nl,nl])):=by
 have h1:=nC (ep:=c.ep) ok.x ok.y ok.cm;have h2:=ok.d.cells;have D:=ok.w.bF;have j:=ok.d.len;have v:=fS.d.len;obtain⟨f,E,u,p0,p1,p2⟩:∃f,aa.underlying 35=J (.struct f)/\(f.all λz1=>(aa.info? z1.type).isSome)=V/\placesOf aa f 0=J (0,4)/\placesOf aa f 1=J (4,41)/\placesOf aa f 2=J (45,1):=⟨_,Tryz.underlying35,by kernel_rfl,by kernel_rfl,by kernel_rfl,by kernel_rfl⟩;have hz:aq c0 a0=[]++aM 0 nl nl nl++(bj d0 nl nl nl++[nl,nl,nl]):=by unfold aq;rw[dO,iO];rfl
 have i:F (aM c.ep a.X a.Y a.C)=4:=rfl;have o:F (aM 0 nl nl nl)=4:=rfl;have e:F (bj d0 nl nl nl)=41:=v;unfold iI;rw[E,wi];simp only;rw[av u,hz];simp only[qS,p0,p1,p2,h1,h2,D];have s1:dC ([]++aM 0 nl nl nl++(bj d0 nl nl nl++[nl,nl,nl])) 0 (aM c.ep a.X a.Y a.C)=aM c.ep a.X a.Y a.C++bj d0 nl nl nl++[nl,nl,nl]:=by rw[Fg (A:=[]) (k:=0) O (by rw[i,o]),dO,iO]
 have s2:dC (aM c.ep a.X a.Y a.C++bj d0 nl nl nl++[nl,nl,nl]) 4 (bj c.doc a.p a.r a.n)=aM c.ep a.X a.Y a.C++bj c.doc a.p a.r a.n++[nl,nl,nl]:=Fg i (by rw[j,e]);have s3:dC (aM c.ep a.X a.Y a.C++bj c.doc a.p a.r a.n++[nl,nl,nl]) 45 [a.W]=aM c.ep a.X a.Y a.C++bj c.doc a.p a.r a.n++[a.W,nl,nl]:=by
  have z0:aM c.ep a.X a.Y a.C++bj c.doc a.p a.r a.n++[nl,nl,nl]=(aM c.ep a.X a.Y a.C++bj c.doc a.p a.r a.n)++[nl]++[nl,nl]:=by simp
  have B:dC ((aM c.ep a.X a.Y a.C++bj c.doc a.p a.r a.n)++[nl]++[nl,nl]) 45 [a.W]=(aM c.ep a.X a.Y a.C++bj c.doc a.p a.r a.n)++[a.W]++[nl,nl]:=Fg (by rw[ck,i,j]) O;rw[z0,B];simp
 rw[s1,av ⟨i,by simp only[ck,o,e,f_,ef];omega⟩,s2,av ⟨j,by simp only[ck,i,e,f_,ef];omega⟩,s3,
  av ⟨O,by simp only[ck,i,j,f_,ef];omega⟩]
 rfl
def alJ(h:Heap)(c:Ce)(a:CA)(ok:cA c a)(nc:FU c a)(o b1 b2 b3:Nat)(A:h.boxes[o]?=J (aM c.ep a.X a.Y a.C))(B:h.boxes[b1]?=J (bj c.doc a.p a.r a.n))(D:h.boxes[b2]?=J [a.W])(E:h.boxes[b3]?=J (aq c0 a0)):
 ∃r h',SB.call 34 [.ptr (.box o) 0,.ptr (.box b1) 0,.ptr (.box b2) 0,.ptr (.box b3) 0] h=J (r,h')/\r=kY c.e_/\h'=if c.e_=0 then h.put b3 (aM c.ep a.X a.Y a.C++bj c.doc a.p a.r a.n++[a.W,nl,nl]) else h:=by
 have l0:aD aa Gt h 25 (.ptr (.box o) 1)=J (.agg [a.X,a.Y]):=by rw[fR bD (by kernel_rfl:cC aa 25=J 2) A (by decide:1+2<=4)];rfl
 have l1:aD aa Gt h 27 (.ptr (.box o) 0)=J (.agg (aM c.ep a.X a.Y a.C)):=by rw[fR bD (by kernel_rfl:cC aa 27=J 4) A (by decide:0+4<=4)];rfl
 have l2:=vE ok.d.len B;have l3:aD aa Gt h 23 (.ptr (.box b2) 0)=J a.W:=by rw[fm mW D];rfl
 have f1:=gX (b:=o);obtain⟨c35,-,f,-,⟨T,e⟩,-,u,-,⟨Z,i⟩,-⟩:=nc;have nX:=BB (pr:=BR) O;have uf:=BA (pr:=BR) O;have j:=RM ok;have st:=qy (D2:=aM c.ep a.X a.Y a.C++bj c.doc a.p a.r a.n++[a.W,nl,nl]) fS.len (by have:=ok.d.len;simp only[ck,this];rfl) (by have ok2:cA {c with bI:=[],parts:=[]} {a with Pa:=nl,Z:=nl}:=⟨ok.x,ok.y,ok.cm,ok.d,ok.w,fS.pa,fS.z⟩;exact ok2.cells) E;rw[adn]at f;rw[Xa];clear A B D E ok;generalize bj c.doc a.p a.r a.n=z0 at *
 generalize aM c.ep a.X a.Y a.C=K at *
 generalize cH c.rows c.ac=u1 at *
 generalize iW c.rows c.ep c.ai=u2 at *
 generalize iB c.doc=u3 at *
 generalize dy (-1) c.who=u4 at *
 generalize (fG c.rows c.ac c.who).2.1=u5 at *
 generalize (fG c.rows c.ac c.who).2.2=u6 at *
 generalize a.X=X at *
 generalize a.Y=Y at *
 generalize a.W=Wa at *
 generalize K++z0++[Wa,nl,nl]=FC at *
 unfold I at *
 have z1:decide ((380:Int)=420)=ah:=by decide
 have z2:decide ((170:Int)=0)=ah:=by decide
 refine bL O Tryz.func34 O ?_;by_cases v:u1=0;rotate_left 1
 .have d1:decide (u1=0)=ah:=b7 v;clear f e u i j st nX;rw[av v]
  repeat' (first|simp(maxSteps:=9999999) (disch:=first|exact dZ|fail) only[gW,reduceIte,aH,aC,zM,lI, *]|refine dX ?_ ?_<;>(intro _;try omega))
  exact⟨_,_,O,by unfold kY;rw[aL v];rfl,by first|rfl|rw[aL v]⟩
 subst v;cases u2 with
 |false=>
  simp only[ne_eq,not_true_eq_false,if_false,if_true]at f ⊢;clear e u i j st
  repeat' (first|simp(maxSteps:=9999999) (disch:=first|exact dZ|fail) only[gW,reduceIte,aH,aC,zM,lI, *]|refine dX ?_ ?_<;>(intro _;try omega))
  exact⟨_,_,O,O,O⟩
 |true=>
 simp only[ne_eq,not_true_eq_false,if_false,uP]at f ⊢;cases u3 with
 |false=>
  simp only[jB,if_false,if_true]at e ⊢;clear u i j st
  repeat' (first|simp(maxSteps:=9999999) (disch:=first|exact dZ|fail) only[gW,reduceIte,aH,aC,zM,lI, *]|refine dX ?_ ?_<;>(intro _;try omega))
  exact⟨_,_,O,O,O⟩
 |true=>
 simp only[uP,if_false,if_true]at e ⊢;cases u4 with
 |false=>
  simp only[jB,if_false,if_true]at ⊢;clear i j st
  repeat' (first|simp(maxSteps:=9999999) (disch:=first|exact dZ|fail) only[gW,reduceIte,aH,aC,zM,lI, *]|refine dX ?_ ?_<;>(intro _;try omega))
  exact⟨_,_,O,O,O⟩
 |true=>
 simp only[uP,if_false]at ⊢;cases u5 with
 |false=>
  simp only[true_or,if_true]at ⊢;clear j st
  repeat' (first|simp(maxSteps:=9999999) (disch:=first|exact dZ|fail) only[gW,reduceIte,aH,aC,zM,lI, *]|refine dX ?_ ?_<;>(intro _;try omega))
  all_goals exact⟨_,_,O,O,O⟩
 |true=>
 by_cases e6:u6=0
 .subst e6;simp only[uP,false_or,ne_eq,not_true_eq_false,if_false,if_true]at ⊢
  repeat' (first|simp(maxSteps:=9999999) (disch:=first|exact dZ|fail) only[gW,reduceIte,aH,aC,zM, *]|refine dX ?_ ?_<;>(intro _;try omega))
  all_goals exact⟨_,_,O,O,O⟩
 .have d6:decide (u6=0)=ah:=b7 e6;simp only[e6,uP,false_or,ne_eq,not_false_eq_true,if_true]at ⊢;clear j st
  repeat' (first|simp(maxSteps:=9999999) (disch:=first|exact dZ|fail) only[gW,reduceIte,aH,aC,zM,lI, *]|refine dX ?_ ?_<;>(intro _;try omega))
  all_goals exact⟨_,_,O,O,O⟩
def jp(c:Ce):Ce:=if c.e_=0 then {c with bI:=[],parts:=[]} else c0
def iY(c:Ce)(a:CA):CA:=if c.e_=0 then {a with Pa:=nl,Z:=nl} else a0
def ut{c}{a}(ok:cA c a):cA (jp c) (iY c a):=by
 unfold jp iY;split
 .exact⟨ok.x,ok.y,ok.cm,ok.d,ok.w,fS.pa,fS.z⟩
 .exact fS
def Xd(c)(a):aq (jp c) (iY c a)=if c.e_=0 then aM c.ep a.X a.Y a.C++bj c.doc a.p a.r a.n++[a.W,nl,nl] else aq c0 a0:=by
 unfold jp iY;by_cases h:c.e_=0
 .rw[av h,av h,av h];rfl
 .rw[aL h,aL h,aL h]
def alI(h:Heap)(c:Ce)(a:CA)(ok:cA c a)(B:FU c a):
 ∃r h',SB.call 11 [.agg (aM c.ep a.X a.Y a.C),.agg (bj c.doc a.p a.r a.n),a.W] h=J (r,h')/\r=.ret (.tuple [.agg (aq (jp c) (iY c a)),I c.e_]):=by
 have b1:=nC (ep:=c.ep) ok.x ok.y ok.cm;have b2:=ok.d.cells;have b3:=ok.w.bF;have z:=wi;obtain⟨e,f⟩:∃e,(((h.push (aM c.ep a.X a.Y a.C)).push (bj c.doc a.p a.r a.n)).push [a.W]).push (aq c0 a0)=e:=⟨_,O⟩;have l4:F e.boxes=F h.boxes+4:=by rw[<-f];simp[bE]
 have D:e.boxes[h.boxes.length]?=J (aM c.ep a.X a.Y a.C):=by rw[<-f];exact aN (aN (aN (aK _ _)))
 have E:e.boxes[F h.boxes+1]?=J (bj c.doc a.p a.r a.n):=by rw[<-f];refine aN (aN ?_);have:=aK (h.push (aM c.ep a.X a.Y a.C)) (bj c.doc a.p a.r a.n);rwa [bE]at this
 have q2:e.boxes[F h.boxes+2]?=J [a.W]:=by rw[<-f];refine aN ?_;have:=aK ((h.push (aM c.ep a.X a.Y a.C)).push (bj c.doc a.p a.r a.n)) [a.W];rwa [bE,bE]at this
 have v:e.boxes[F h.boxes+3]?=J (aq c0 a0):=by rw[<-f];have:=aK (((h.push (aM c.ep a.X a.Y a.C)).push (bj c.doc a.p a.r a.n)).push [a.W]) (aq c0 a0);rwa [bE,bE,bE]at this
 obtain⟨_,h2,j,rfl,o⟩:=alJ (e.push [.v (.int .i64 0)]) c a ok B (F h.boxes) (F h.boxes+1) (F h.boxes+2) (F h.boxes+3) (aN D) (aN E) (aN q2) (aN v);have r3:h2.boxes[F h.boxes+3]?=J (aq (jp c) (iY c a)):=by
  rw[Xd,o];split
  .exact dh (by rw[bE];omega)
  .exact aN v
 have rb:h2.boxes[e.boxes.length]?=J [.v (.int .i64 0)]:=by
  rw[o];split
  .rw[cd M];exact aK _ _
  .exact aK _ _
 obtain⟨h3,c33,A⟩:=F_ (pr:=BR) O 34 _ e h2 c.e_ j rb;have i:=A _ _ M r3;have u:=(ut ok).len;have ld:=io u i;have st:=qy u u (ut ok).cells i;rw[lH i]at st;have n1:F (h.push (aM c.ep a.X a.Y a.C)).boxes=F h.boxes+1:=bE _ _;have n2:F ((h.push (aM c.ep a.X a.Y a.C)).push (bj c.doc a.p a.r a.n)).boxes=F h.boxes+2:=by rw[bE,bE]
 have n3:F (((h.push (aM c.ep a.X a.Y a.C)).push (bj c.doc a.p a.r a.n)).push [a.W]).boxes=F h.boxes+3:=by rw[bE,bE,bE]
 clear o j r3 rb A D E q2 v i ok B;generalize aq (jp c) (iY c a)=N at *
 generalize aM c.ep a.X a.Y a.C=K at *
 generalize bj c.doc a.p a.r a.n=z0 at *
 generalize aq c0 a0=Z0 at *
 generalize c.e_=z1 at *
 generalize a.W=Wa at *
 unfold I at *
 refine bL O Tryz.func11 O ?_;refine bG @anM @f ?_;exact⟨_,_,O,O⟩
def apD(h:Heap)(c:Ce)(a:CA)(ok:cA c a)(nc:FU c a):
 ∃r h',SB.call 12 [.agg (aM c.ep a.X a.Y a.C),.agg (bj c.doc a.p a.r a.n),a.W] h=J (r,h')/\r=.ret (.tuple [.agg (aq (jp c) (iY c a)),I c.e_]):=by
 have b1:=nC (ep:=c.ep) ok.x ok.y ok.cm;have b2:=ok.d.cells;have z:=wi;have zb:=P';obtain⟨f,e⟩:∃f,((h.push (aM c.ep a.X a.Y a.C)).push (bj c.doc a.p a.r a.n)).push (aq c0 a0)=f:=⟨_,O⟩;have q0:f.boxes[h.boxes.length]?=J (aM c.ep a.X a.Y a.C):=by rw[<-e];exact aN (aN (aK _ _))
 have q1:f.boxes[F h.boxes+1]?=J (bj c.doc a.p a.r a.n):=by rw[<-e];refine aN ?_;have:=aK (h.push (aM c.ep a.X a.Y a.C)) (bj c.doc a.p a.r a.n);rwa [bE]at this
 have v:f.boxes[F h.boxes+2]?=J (aq c0 a0):=by rw[<-e];have:=aK ((h.push (aM c.ep a.X a.Y a.C)).push (bj c.doc a.p a.r a.n)) (aq c0 a0);rwa [bE,bE]at this
 have l0:aD aa Gt f 25 (.ptr (.box (F h.boxes)) 1)=J (.agg [a.X,a.Y]):=by rw[fR bD (by kernel_rfl:cC aa 25=J 2) q0 (by decide:1+2<=4)];rfl
 have l1:aD aa Gt f 27 (.ptr (.box (F h.boxes)) 0)=J (.agg (aM c.ep a.X a.Y a.C)):=by rw[fR bD (by kernel_rfl:cC aa 27=J 4) q0 (by decide:0+4<=4)];rfl
 have l2:=vE ok.d.len q1;have f1:=gX (b:=h.boxes.length);obtain⟨-,c40,-,Sg,-,⟨T,i⟩,-,A,-,⟨Z,j⟩⟩:=nc;have B:F (aM c.ep a.X a.Y a.C++bj c.doc a.p a.r a.n++[a.W,nl,nl])=48:=by have:=ok.d.len;simp only[ck,this];rfl
 have D:(U.agg (aM c.ep a.X a.Y a.C++bj c.doc a.p a.r a.n++[a.W,nl,nl])).bF=J (aM c.ep a.X a.Y a.C++bj c.doc a.p a.r a.n++[a.W,nl,nl]):=by have ok2:cA {c with bI:=[],parts:=[]} {a with Pa:=nl,Z:=nl}:=⟨ok.x,ok.y,ok.cm,ok.d,ok.w,fS.pa,fS.z⟩;exact ok2.cells
 have o:=RM ok;have st:=qy fS.len B D v;have s0:=qy fS.len fS.len fS.cells v;rw[lH v]at s0;have lZ:=io fS.len v;have u:=io (H:=f.put (F h.boxes+2) (aM c.ep a.X a.Y a.C++bj c.doc a.p a.r a.n++[a.W,nl,nl])) B (dh (aT.1 v).1);have n1:F (h.push (aM c.ep a.X a.Y a.C)).boxes=F h.boxes+1:=bE _ _;have n2:F ((h.push (aM c.ep a.X a.Y a.C)).push (bj c.doc a.p a.r a.n)).boxes=F h.boxes+2:=by rw[bE,bE]
 rw[Xd,Xa];clear q0 q1 v ok B D;generalize bj c.doc a.p a.r a.n=z0 at *
 generalize aM c.ep a.X a.Y a.C=K at *
 generalize aq c0 a0=Z0 at *
 generalize cH c.rows c.ac=u1 at *
 generalize iW c.rows c.ep c.ai=u2 at *
 generalize iB c.doc=u3 at *
 generalize dy (-1) c.who=u4 at *
 generalize (fG c.rows c.ac c.who).2.1=u5 at *
 generalize (fG c.rows c.ac c.who).2.2=u6 at *
 generalize a.X=X at *
 generalize a.Y=Y at *
 generalize a.W=Wa at *
 generalize K++z0++[Wa,nl,nl]=FC at *
 have z2:decide ((170:Int)=0)=ah:=by decide
 unfold I at *
 refine bL O Tryz.func12 O ?_;by_cases E:u1=0;rotate_left 1
 .have d1:decide (u1=0)=ah:=b7 E;clear Sg i A j o st u;simp only[E,ne_eq,not_false_eq_true,if_true,if_false]
  repeat' (first|simp(maxSteps:=9999999) (disch:=first|exact dZ|fail) only[gW,reduceIte,aH,aC,zL,e, *]|refine dX ?_ ?_<;>(intro _;try omega))
  all_goals exact⟨_,_,O,O⟩
 subst E;cases u2 with
 |false=>
  simp only[ne_eq,not_true_eq_false,if_false,if_true];clear i A j o st u
  repeat' (first|simp(maxSteps:=9999999) (disch:=first|exact dZ|fail) only[gW,reduceIte,aH,aC,zL,e, *]|refine dX ?_ ?_<;>(intro _;try omega))
  all_goals exact⟨_,_,O,O⟩
 |true=>
 cases u3 with
 |false=>
  simp only[jB,if_false,if_true,ne_eq,not_true_eq_false,uP]at i ⊢;clear A j o st u
  repeat' (first|simp(maxSteps:=9999999) (disch:=first|exact dZ|fail) only[gW,reduceIte,aH,aC,zL,e, *]|refine dX ?_ ?_<;>(intro _;try omega))
  all_goals exact⟨_,_,O,O⟩
 |true=>
 simp only[uP,if_false,if_true,ne_eq,not_true_eq_false]at i ⊢;cases u4 with
 |false=>
  simp only[jB,if_false,if_true]at ⊢;clear j o st u
  repeat' (first|simp(maxSteps:=9999999) (disch:=first|exact dZ|fail) only[gW,reduceIte,aH,aC,zL,e, *]|refine dX ?_ ?_<;>(intro _;try omega))
  all_goals exact⟨_,_,O,O⟩
 |true=>
 simp only[uP,if_false]at ⊢;cases u5 with
 |false=>
  simp only[true_or,if_true]at ⊢;clear o st u
  repeat' (first|simp(maxSteps:=9999999) (disch:=first|exact dZ|fail) only[gW,reduceIte,aH,aC,zL,e, *]|refine dX ?_ ?_<;>(intro _;try omega))
  all_goals exact⟨_,_,O,O⟩
 |true=>
 by_cases e6:u6=0
 .subst e6;simp only[uP,false_or,ne_eq,not_true_eq_false,if_false,if_true]at ⊢
  repeat' (first|simp(maxSteps:=9999999) (disch:=first|exact dZ|fail) only[gW,reduceIte,aH,aC,zL,e, *]|refine dX ?_ ?_<;>(intro _;try omega))
  all_goals exact⟨_,_,O,O⟩
 .have d6:decide (u6=0)=ah:=b7 e6;simp only[e6,uP,false_or,ne_eq,not_false_eq_true,if_true]at ⊢;clear o st u
  repeat' (first|simp(maxSteps:=9999999) (disch:=first|exact dZ|fail) only[gW,reduceIte,aH,aC,zL,e, *]|refine dX ?_ ?_<;>(intro _;try omega))
  all_goals exact⟨_,_,O,O⟩
def anN:Tryz.f112.results.toList=[.tmp 4]:=by kernel_rfl
def anZ:Tryz.f53.results.toList=[.tmp 4]:=by kernel_rfl
def an1:Tryz.f57.results.toList=[.tmp 4]:=by kernel_rfl
def anX:Tryz.f50.results.toList=[.tmp 4]:=by kernel_rfl
def anY:Tryz.f51.results.toList=[.tmp 4]:=by kernel_rfl
def Gu:(∀b,dU aa 46 (.ptr (.box b) 0) 0=J (.ptr (.box b) 0))/\(∀b,dU aa 46 (.ptr (.box b) 0) 1=J (.ptr (.box b) 1))/\(∀b,dU aa 46 (.ptr (.box b) 0) 2=J (.ptr (.box b) 2))/\∀b,dU aa 46 (.ptr (.box b) 0) 3=J (.ptr (.box b) 3):=
 ⟨λ_=>by kernel_rfl,λ_=>by kernel_rfl,λ_=>by kernel_rfl,λ_=>by kernel_rfl⟩
def Dg:(∀b,dU aa 48 (.ptr (.box b) 0) 0=J (.ptr (.box b) 0))/\∀b,dU aa 48 (.ptr (.box b) 0) 1=J (.ptr (.box b) 1):=
 ⟨λ_=>by kernel_rfl,λ_=>by kernel_rfl⟩
def Er{H}{b}{p}(e:H.boxes[b]?=J (aB p)):aD aa Gt H 3 (.ptr (.box b) 0)=J (I p.aO)/\aD aa Gt H 3 (.ptr (.box b) 1)=J (I p.no)/\aD aa Gt H 3 (.ptr (.box b) 2)=J (I p.d)/\aD aa Gt H 3 (.ptr (.box b) 3)=J (I p.e)/\aD aa Gt H 46 (.ptr (.box b) 0)=J (.agg (aB p)):=by refine⟨?_,?_,?_,?_,jZ e⟩<;>(rw[fm dY e];rfl)
def vG{H}{b}{q}(e:H.boxes[b]?=J (aZ q)):aD aa Gt H 3 (.ptr (.box b) 0)=J (I q.1)/\aD aa Gt H 3 (.ptr (.box b) 1)=J (I q.2)/\aD aa Gt H 48 (.ptr (.box b) 0)=J (.agg (aZ q)):=by refine⟨by rw[fm dY e];rfl,by rw[fm dY e];rfl,?_⟩;rw[fR bD (by kernel_rfl:cC aa 48=J 2) e (aV 2)];rfl
def rg(p):(U.agg (aB p)).bF=J (aB p):=rfl
def rh(q):(U.agg (aZ q)).bF=J (aZ q):=rfl
section
variable {c:Ce} {a:CA} (ok:cA c a) (D:dG a) (A:c.who.length<=1000000)
include ok D A
def ZX(f:pV c.who)(h:Heap)(k:Int):∃h',SB.call 112 [.agg (aq c a),I k] h=J (.ret (.v (.bool (c.who.contains k))),h')/\Ext h h':=by
 have j:=ok.cells;obtain⟨-,-,o,-,-,-⟩:=gL ok (aK h (aq c a));obtain⟨-,-,f2,-,-⟩:=py;obtain⟨u,e⟩:=akm ok.w f A k;rw[D.W]at e;have i:=(nS e O O).call;have x:=Ext.push h (aq c a);clear ok f A D e;generalize aq c a=N at *
 generalize c.who.contains k=v at *
 unfold I at *
 refine gI O Tryz.func112 O ?_;refine bG @anN @bg ?_;exact⟨_,O,x⟩
def ap7(e:pV c.who)(h:Heap)(p:Pr):∃r h',SB.call 53 [.agg (aq c a),.agg (aB p)] h=J (r,h')/\r=.ret (.v (.bool (fT c.who p))):=by
 have B:=ok.cells;have v:=rg p;obtain⟨h2,i,f⟩:=ZX ok D A e ((h.push (aq c a)).push (aB p)) p.aO;obtain⟨-,-,-,-,-,E⟩:=gL ok (aN (cs:=aB p) (aK h (aq c a)));have L:=Er (aK (h.push (aq c a)) (aB p));have u:=Er (f.box _ _ (aK (h.push (aq c a)) (aB p)));have z1:=Gu;have j:=(nS (Wg p.d) O O).call;have o:=(nS (Wg p.e) O O).call;clear ok D A e f;unfold fT;generalize aB p=z0 at *
 generalize aq c a=N at *
 generalize c.who.contains p.aO=z2 at *
 generalize bX p.d=u2 at *
 generalize bX p.e=u3 at *
 obtain⟨pk,pn,pd,pe⟩:=p;simp only at L u i j o ⊢;unfold I at *
 refine bL O Tryz.func53 O ?_
 repeat' (first|simp(maxSteps:=9999999) (disch:=first|exact dZ|fail) only[gW,reduceIte,aH,aC,anZ,bg, *]|refine dX ?_ ?_<;>(intro _;try omega))
 all_goals exact⟨_,_,O,by simp[*]⟩
def ap8(e:pV c.who)(h:Heap)(p:Int × Int):∃r h',SB.call 57 [.agg (aq c a),.agg (aZ p)] h=J (r,h')/\r=.ret (.v (.bool (fU c.who p))):=by
 have u:=ok.cells;have o:=rh p;obtain⟨h2,i,f⟩:=ZX ok D A e ((h.push (aq c a)).push (aZ p)) p.1;obtain⟨-,-,-,-,-,v⟩:=gL ok (aN (cs:=aZ p) (aK h (aq c a)));have L:=vG (aK (h.push (aq c a)) (aZ p));have j:=vG (f.box _ _ (aK (h.push (aq c a)) (aZ p)));have z1:=Dg;clear ok D A e f;unfold fU cN Qi;generalize aZ p=z0 at *
 generalize aq c a=N at *
 generalize c.who.contains p.1=z2 at *
 obtain⟨B,E⟩:=p;simp only at L j i ⊢;unfold I at *
 refine bL O Tryz.func57 O ?_
 repeat' (first|simp(maxSteps:=9999999) (disch:=first|exact dZ|fail) only[gW,reduceIte,aH,aC,an1,bg, *]|refine dX ?_ ?_<;>(intro _;try omega))
 all_goals exact⟨_,_,O,by simp[*]⟩
def ams(h:Heap)(p:Pr):∃r h',SB.call 50 [.agg (aq c a),.agg (aB p)] h=J (r,h')/\r=.ret (.v (.bool (fT c.who p))):=by
 have o:=ok.cells;have j:=rg p;obtain⟨-,-,u,-,-,-⟩:=gL ok (aN (cs:=aB p) (aK h (aq c a)));obtain⟨-,-,f2,-,-⟩:=py;have L:=Er (aK (h.push (aq c a)) (aB p));have z1:=Gu;have f:=(nS (Wf p.d) O O).call;have i:=(nS (Wf p.e) O O).call;have e:=Wb ok.w M p.aO;rw[D.W]at e;have e:=(nS e O O).call;clear ok D A;unfold fT;generalize aB p=z0 at *
 generalize aq c a=N at *
 generalize c.who.contains p.aO=z2 at *
 generalize bX p.d=u2 at *
 generalize bX p.e=u3 at *
 obtain⟨E,pn,v,B⟩:=p;simp only at L e f i ⊢;unfold I at *
 refine bL O Tryz.func50 O ?_
 repeat' (first|simp(maxSteps:=9999999) (disch:=first|exact dZ|fail) only[gW,reduceIte,aH,aC,anX,bg, *]|refine dX ?_ ?_<;>(intro _;try omega))
 all_goals exact⟨_,_,O,by simp[*]⟩
def amK(h:Heap)(p:Int × Int):∃r h',SB.call 51 [.agg (aq c a),.agg (aZ p)] h=J (r,h')/\r=.ret (.v (.bool (fU c.who p))):=by
 have i:=ok.cells;have f:=rh p;obtain⟨-,-,j,-,-,-⟩:=gL ok (aN (cs:=aZ p) (aK h (aq c a)));obtain⟨-,-,f2,-,-⟩:=py;have L:=vG (aK (h.push (aq c a)) (aZ p));have B:=Dg;have e:=Wb ok.w M p.1;rw[D.W]at e;have e:=(nS e O O).call;clear ok D A;unfold fU cN Qi;generalize aZ p=v at *
 generalize aq c a=N at *
 generalize c.who.contains p.1=E at *
 obtain⟨o,u⟩:=p;simp only at L e ⊢;unfold I at *
 refine bL O Tryz.func51 O ?_
 repeat' (first|simp(maxSteps:=9999999) (disch:=first|exact dZ|fail) only[gW,reduceIte,aH,aC,anY,bg, *]|refine dX ?_ ?_<;>(intro _;try omega))
 all_goals exact⟨_,_,O,by simp[*]⟩
end
end Go.Proofs.YtcbhpkjbiehcpaaGreatDoor
end
section
namespace Go.AE
variable {P:bk}
def wP{w:bP}{dT sT elem:aF}{i:TypeInfo}(hu:P.underlying dT=J (.slice elem))(hi:P.info? elem=J i){g o dl m sl:Nat}{a:Addr}{cells:Array aG}{e:aF}{vs:List aG}
 (hg:w.heap[g]?=J (.cells cells e (0,0))) (hm:Nat.min sl dl=m) (B:F vs=m*i.size) (f:∀j v,vs[j]?=J v->w.cell? (a.add j)=J v) (E:o+F vs<=cells.size) (h1:∀v∈vs,mE v=V):
 ∃w' cZ,(∀ty u D,(Builtin.copy_ #[dT,sT] ty #[.slice (J ⟨g,o,ag⟩) dl u,.slice (J a) sl D]).run P w=.ok (goInt m) w')/\jC w w' g (.cells cZ e (0,0))/\cZ.toList=cells.toList.take o++vs++cells.toList.drop (o+F vs):=by
 obtain⟨w',cZ,q1,q2,q3⟩:=Cc (P:=P) o e (0,0) vs 0 cells w hg M h1 λj _ _=>yy j;refine⟨w',cZ,λty u D=>?_,q2,by rw[q3];rfl⟩;have A:=run_loadCells_list (P:=P) w a vs f;rw[B]at A;simp[Builtin.copy_,run_underlying hu,Builtin.lenOf,Builtin.firstCells,sizeOf,typeInfo,hi,hm,A,q1]
def YX(w:bP)(o tR e:aF)(ht:P.underlying o=J (.slice e))(size:Nat)(hz:∀w,(Go.sizeOf e).run P w=.ok size w)
 (a b:Addr) (u ca v cb:Nat) (D:a.block≠b.block) (tA tB:aF) (i f:Nat) (qW:w.shape? a.block=J (tA,i)) (Ee:w.shape? b.block=J (tB,f)) (hkA:i≠0) (hkB:f≠0) (B:∀j,w.frozen? ⟨b.block,j,ag⟩=ah) (A:b.spot=ag):
 (Extern.SlicesOverlaps.overlaps #[o,o] #[tR] #[.slice (J a) u ca,.slice (J b) v cb]).run P w=.ok (.bool ah) w:=by
 have uh:(a.block !=b.block)=V:=by simpa using D
 have E:(a.block==b.block)=ah:=by simpa using D
 have AY:w.frozen? b=ah:=by obtain⟨g,z0,sp⟩:=b;simp only at A;subst A;exact B z0
 have ou:w.frozen? {block:=b.block,off:=f}=ah:=B f;change Sem.run P (α:=aG) (do
  let J t := (#[o, o] : Array aF)[0]? | stuck "slices.overlaps: no parameter types"
  let .slice elem <- underlying t | stuck "slices.overlaps: slice type expected"
  let size <-sizeOf elem
  match (J a:Option Addr),(J b:Option Addr) with
  |some a,J b=>
   if u=0∨v=0∨size=0 then pure (Value.bool ah)
   else if a.block !=b.block&&(<-frozen a)&&(<-frozen b) then unsupported .addressObserved
   else do
    if a.block !=b.block then do
     noView a;noView b
     if <- mayBeOne a b then return Value.bool ((<- choose (.extern "sameAddr.stringBytes" 2)) == 1)
    pure (Value.bool (a.block==b.block&&a.off<b.off+v*size&&b.off<a.off+u*size))
  |_,_=>pure (Value.bool ah)) w=_
 by_cases h0:u=0∨v=0∨size=0
 .simp[run_underlying ht,hz,h0]
 .cases f with
  |zero=>exact absurd O hkB|succ f=>cases i with
  |zero=>exact absurd O hkA|succ i=>
   cases hfa:w.frozen? a<;>cases hfe:w.frozen? {block:=a.block,off:=i+1}<;>
   simp[run_underlying ht,hz,h0,uh,E,frozen,noView,viewAt,mayBeOne,stringish,shape,Sem.run,qW,Ee,AY,ou,hfa,hfe]
def VV{α:Type}{L vs T e:List α}{a b s}(A:b+s<=F L)(B:a<=b)(v:F vs=s)(u:T=(L.take b).drop a)(f:e=L.take (a+s)++T++L.drop (a+s+F T)):
 (e.take a++vs++e.drop (a+s)).take (b+s)=L.take a++vs++T:=by
 have i:F T=b-a:=by rw[u,eC,cR];omega
 have j:e.take a=L.take a:=by rw[f,iO,List.take_append_of_le_length (by rw[cR];omega),FR];congr 1;omega
 have o:e.drop (a+s)=T++L.drop (a+s+F T):=by rw[f,iO];exact aaN (by rw[cR];omega)
 rw[j,o,<-iO];exact qK (by simp only[ck,cR,i,v];omega)
end Go.AE
end
section
namespace Go.Proofs.YtcbhpkjbiehcpaaGreatDoor
open Go.AE Go.Lib
def HP:∃i,aa.info? 46=J i/\i.size=4/\i.bytes<=64/\∃z,i.zero=J z/\z.cells.size=4:=by
 have h:(match aa.info? 46 with|some i=>decide (i.size=4)&&decide (i.bytes<=64)&&(match i.zero with|some z=>decide (z.cells.size=4)|none=>ah)|none=>ah)=V:=by kernel_rfl
 cases f:aa.info? 46 with
 |none=>rw[f]at h;cases h
 |some i=>
  rw[f]at h;simp only at h;cases e:i.zero with|none=>rw[e]at h;simp at h|some z=>rw[e]at h;simp only[bm,decide_eq_true_eq]at h;exact⟨i,O,h.1.1,h.1.2,z,e,h.2⟩
def ajx(w:bP)(g n c i A ov vc:Nat)(cells:Array aG)(e:aF)(hg:w.heap[g]?=J (.cells cells e (0,0)))(hi:i<n)(Eb:n+1<=c)(uh:n<1000000)(jc:c*4<=cells.size)(fP:A≠g)(vs:List aG)(B:F vs=4)(gC:∀j v,vs[j]?=J v->w.cell? ⟨A,ov+j,ag⟩=J v)(pE:∀v∈vs,mE v=V)(pD:∀v∈cells.toList.take (n*4),mE v=V)(tA:aF)(kA:Nat)(f:w.shape? A=J (tA,kA)):
 Calls aa 116 #[.slice (J ⟨g,0,ag⟩) n c,.int .i64 i,.slice (J ⟨A,ov,ag⟩) 1 vc] w λr w'=>r=.returned (.slice (J ⟨g,0,ag⟩) (n+1) c)/\
  ∃cZ,jC w w' g (.cells cZ e (0,0))/\cZ.size=cells.size/\cZ.toList.take ((n+1)*4)=cells.toList.take (i*4)++vs++(cells.toList.take (n*4)).drop (i*4):=by
 obtain⟨inf,u,nf,-,-⟩:=HP;have u32:=lP;have eM:F (cells.toList.take (n*4))=n*4:=by rw[cR,ip];omega
 have lY:F ((cells.toList.take (n*4)).drop (i*4))=(n-i)*4:=by rw[eC,eM];omega
 obtain⟨w1,c1,yJ,E,q2⟩:=wP (P:=aa) (w:=w.drew) (dT:=32) (sT:=32) u32 u (g:=g) (o:=(i+1)*4) (dl:=n-i) (m:=n-i) (sl:=n+1-i) (a:=⟨g,i*4,ag⟩) (vs:=(cells.toList.take (n*4)).drop (i*4)) (hg:w.drew.heap[g]?=_) (by simp only[xV];split<;>omega) (by rw[lY,nf]) (λj v hj=>by
  rw[Addr.hC,cell_of (w:=w.drew) hg];rw[o0,mM]at hj;split at hj
  .simpa using hj
  .cases hj) (by rw[lY];omega) (λv hv=>pD v (FP hv))
 have DH:c1.size=cells.size:=by have:=congrArg F q2;simp only[ck,cR,eC,ip,lY]at this;rw[this];rw[eC,cR,ip]at lY;omega
 obtain⟨w2,c2,yK,q3,q4⟩:=wP (P:=aa) (w:=w1) (dT:=32) (sT:=32) u32 u (g:=g) (o:=i*4) (dl:=n+1-i) (m:=1) (sl:=1) (a:=⟨A,ov,ag⟩) (vs:=vs) E.this (by simp only[xV];split<;>omega) (by rw[B,nf]) (λj v hj=>by rw[Addr.hC];have:=gC j v hj;unfold World.cell? at this ⊢;rw[E.other A fP];exact this) (by rw[B,DH];omega) pE;have MZ:∀lb cb,(callFunc 180 #[.slice (J ⟨A,ov,ag⟩) 1 vc,.slice (J ⟨g,(i+1)*4,ag⟩) lb cb]).run aa w=.ok (.value (.bool ah)) w:=λlb cb=>by
  rw[run_callFunc_extern Tryz.func180 bD bD bD (e:=Extern.SlicesOverlaps.overlaps #[32,32] #[4]) bD,
   YX w 32 4 46 u32 4 (λw=>by simp[sizeOf,typeInfo,u,nf]) ⟨A,ov,ag⟩ ⟨g,(i+1)*4,ag⟩ 1 vc lb cb fP tA e kA cells.size f (by unfold World.shape?;rw[hg]) ?_ M (λj=>by rw[tP hg];exact yy j) O]
  .rfl
  .intro q;subst q;have h0:=gC 0 _ (aP M);unfold World.shape? at f;unfold World.cell? at h0;split at f
   .rename_i c e z D;simp only[dt,cL]at f;rw[D]at h0;simp only at h0;rw[Cq M]at h0;cases h0
   .cases f
 have mixed:aa.follows .mixedOrders=V:=wG.mixed;have u0:=run_underlying lP;have Em:¬((1:Int)=0):=by omega
 have oN:¬((i:Int)=(n:Int)):=by omega
 have Bh:IntKind.i64.wrap ((i:Int)+1)=(i:Int)+1:=by rw[IntKind.wrap_i64];omega
 have oM:IntKind.i64.wrap ((n:Int)+1)=(n:Int)+1:=by rw[IntKind.wrap_i64];omega
 have ou:(0:Int)<=(i:Int)+1:=by omega
 have jH:i<=n:=by omega
 have Eg:((i:Int)+1).toNat=i+1:=by omega
 have k':¬(c=i+1):=by omega
 have tY:(i:Int)<=(n:Int)+1:=by omega
 have vm:¬(c=i):=by omega
 have gK:(aa.info? 46).map (·.size)=J 4:=by rw[u];simp[nf]
 have rQ:∃cZ,jC w w2 g (.cells cZ e (0,0))/\cZ.size=cells.size/\cZ.toList.take ((n+1)*4)=cells.toList.take (i*4)++vs++(cells.toList.take (n*4)).drop (i*4):=by
  refine⟨c2,⟨q3.os.trans E.os,q3.tape.trans E.tape,q3.output.trans E.output,q3.size.trans E.size,λk hk=>(q3.other k hk).trans (E.other k hk),q3.this⟩,?_,?_⟩
  .have:=congrArg F q4;simp only[ck,cR,eC,ip,B]at this;omega
  .rw[q4,B,(M:(n+1)*4=n*4+4)];refine VV (by rw[ip];omega) M B O ?_;rw[q2,(M:(i+1)*4=i*4+4)]
 clear E q2 q3 q4 hg f gC pE pD
 go_enter KA,Ri
 go_wp2_with (simp only[MZ])
 go_region_law (refine step_copy_runI O _ _ 32 32 O _ _ (by simp[Act.eval,Act.put]) (by simp[Act.eval,Act.put]) (yJ _ _ _) ?_)
 go_wp2_with (at_builtin;refine wpList_copy_runI _ O _ _ 32 32 O _ _ O O (yK _ _ _) ?_)
 go_ret
 exact⟨O,rQ⟩
def ajv(w w':bP)(e:Option Addr)(n c o:Nat)(a:Addr)(u:aG)(hn:n<=c)(f:∀ty,(Builtin.append_ #[32,32] ty #[.slice e n c,.slice (J a) 1 o]).run aa w=.ok u w'):
 Calls aa 116 #[.slice e n c,.int .i64 n,.slice (J a) 1 o] w λr A=>r=.returned u/\A=w':=by
 have v:aa.follows .mixedOrders=V:=wG.mixed;have u0:=run_underlying lP;obtain⟨inf,i,j,-,-⟩:=HP;have D:(aa.info? 46).map (·.size)=J 4:=by rw[i];simp[j]
 have E:¬((1:Int)=0):=by omega
 go_enter KA,Ri
 cases e with
 |none=>
  go_wp2_with (at_builtin;refine Lib.wpList_append_run _ O _ _ _ _ O _ _ O O _ _ (f _) ?_)
  all_goals (go_ret;exact⟨O,O⟩)
 |some a0=>
  obtain⟨ab,ao,B⟩:=a0
  go_wp2_with (at_builtin;refine Lib.wpList_append_run _ O _ _ _ _ O _ _ O O _ _ (f _) ?_)
  all_goals (go_ret;exact⟨O,O⟩)
def ajw(w:bP)(g n c i gv ov vc:Nat)(cells:Array aG)(e:aF)(hg:w.heap[g]?=J (.cells cells e (0,0)))(hi:i<n)(hnc:n<=c)(Eb:c<n+1)(hb:n<1000000)(jc:n*4<=cells.size)(vs:List aG)(E:F vs=4)(gC:∀j v,vs[j]?=J v->w.cell? ⟨gv,ov+j,ag⟩=J v)(pE:∀v∈vs,mE v=V)(pD:∀v∈cells.toList.take (n*4),mE v=V):
 Calls aa 116 #[.slice (J ⟨g,0,ag⟩) n c,.int .i64 i,.slice (J ⟨gv,ov,ag⟩) 1 vc] w λr w'=>∃c2 N c0 cZ,r=.returned (.slice (J ⟨w.heap.size,0,ag⟩) (n+1) c2)/\n+1<=c2/\jC {w with drawn:=N,heap:=w.heap.push (.cells c0 46)} w' w.heap.size (.cells cZ 46 (0,0))/\cZ.size=c2*4/\cZ.toList.take ((n+1)*4)=cells.toList.take (i*4)++vs++(cells.toList.take (n*4)).drop (i*4):=by
 obtain⟨inf,D,nf,rR,z,hz,Bj⟩:=HP;have u32:=lP;have eM:F (cells.toList.take (n*4))=n*4:=by rw[cR,ip];omega
 have lY:F ((cells.toList.take (n*4)).drop (i*4))=(n-i)*4:=by rw[eC,eM];omega
 have Mq:c=n:=by omega
 subst Mq;have hold:(Builtin.firstCells inf.size i (.slice (J ⟨g,0,ag⟩) i c)).run aa w.drew=.ok (cells.toList.take (i*4)).toArray w.drew:=by
  have:=run_loadCells_list (P:=aa) w.drew ⟨g,0,ag⟩ (cells.toList.take (i*4)) (λj v A=>by
   rw[Addr.hC,cell_of (w:=w.drew) hg];simp only[mM]at A;split at A
   .simpa using A
   .cases A)
  rw[show(F (cells.toList.take (i*4)))=i*inf.size by rw[cR,ip,nf];omega]at this;exact this
 have vk:=Lib.run_append_grow_zeros (P:=aa) w 32 3 32 46 inf z .i64 .i64 u32 jF D hz (J ⟨g,0,ag⟩) i c (cells.toList.take (i*4)) hold (c+1-i) M M M M (by have:=jt (M:c+1-i<=1000001) rR;omega) (by have:=growslice_fits (bytes:=inf.bytes) (M:c<i+(c+1-i)) (by have:=jt (M:i+(c+1-i)<=1000001) rR;omega);omega);rw[(M:i+(c+1-i)=c+1)]at vk;obtain⟨u,qU⟩:∃u,u=grownCap w (c+1) c 46:=⟨_,O⟩;have Ma:c+1<=u:=by rw[qU];exact grownCap_ge w _ _ _
 have ahY:u<=9223372036854775807:=by have:=grownCap_le_maxLen w (c+1) c 46 (by unfold maxLen;omega);rw[<-qU]at this;unfold maxLen at this;omega
 rw[<-qU]at vk;obtain⟨f,B⟩:∃f:Array aG,f=(cells.toList.take (i*4)).toArray++Builtin.zeroCells z.cells (c+1-i)++Builtin.zeroCells z.cells (u-(c+1)):=⟨_,O⟩;rw[<-B]at vk;have Dy:f.size=u*4:=by rw[B];simp only[Cs,Kf,Jk,Bj,cR,ip];omega
 have Dz:f.toList.take (i*4)=cells.toList.take (i*4):=by rw[B];simp only[wp];rw[iO];exact qK (by rw[cR,ip];omega)
 obtain⟨W1,vj⟩:∃W1,W1=(w.alloc (.cells f 46)).drew:=⟨_,O⟩;have DB:W1.heap[w.heap.size]?=J (.cells f 46 (0,0)):=by rw[vj];show(w.heap.push _)[w.heap.size]?=_;rw[FB,av O]
 have yD:∀k,k<w.heap.size->W1.heap[k]?=w.heap[k]?:=λk hk=>by rw[vj];show(w.heap.push _)[k]?=_;rw[FB,aL M]
 have MA:=oy hg;have Ei:gv<w.heap.size:=block_lt_of_cell (gC 0 _ (aP M));obtain⟨w1,c1,yJ,q1,q2⟩:=wP (P:=aa) (w:=W1) (dT:=32) (sT:=32) u32 D (g:=w.heap.size) (o:=i*4) (dl:=c+1-i) (m:=1) (sl:=1) (a:=⟨gv,ov,ag⟩) (vs:=vs) DB (by simp only[xV];split<;>omega) (by rw[E,nf]) (λj v A=>by rw[Addr.hC];have:=gC j v A;unfold World.cell? at this ⊢;rw[yD gv Ei];exact this) (by rw[E,Dy];omega) pE;have DH:c1.size=f.size:=by have:=congrArg F q2;simp only[ck,cR,eC,ip,E]at this;omega
 have A2:w1.heap[g]?=J (.cells cells e (0,0)):=by rw[q1.other g M,yD g MA];exact hg
 obtain⟨w2,c2,yK,q3,q4⟩:=wP (P:=aa) (w:=w1.drew) (dT:=32) (sT:=32) u32 D (g:=w.heap.size) (o:=(i+1)*4) (dl:=c-i) (m:=c-i) (sl:=c-i) (a:=⟨g,i*4,ag⟩) (vs:=(cells.toList.take (c*4)).drop (i*4)) (q1.this:w1.drew.heap[_]?=_) (by simp only[xV];split<;>omega) (by rw[lY,nf]) (λj v A=>by
  rw[Addr.hC,cell_of (w:=w1.drew) A2];rw[o0,mM]at A;split at A
  .simpa using A
  .cases A) (by rw[lY];omega) (λv hv=>pD v (FP hv))
 have mixed:aa.follows .mixedOrders=V:=wG.mixed;have u0:=run_underlying lP;have Em:¬((1:Int)=0):=by omega
 have oN:¬((i:Int)=(c:Int)):=by omega
 have hz3:(c:Int)<(c:Int)+1:=by omega
 have Bh:IntKind.i64.wrap ((i:Int)+1)=(i:Int)+1:=by rw[IntKind.wrap_i64];omega
 have oM:IntKind.i64.wrap ((c:Int)+1)=(c:Int)+1:=by rw[IntKind.wrap_i64];omega
 have hw3:IntKind.i64.wrap ((c:Int)+1-(i:Int))=((c+1-i:Nat):Int):=by rw[IntKind.wrap_i64];omega
 have yS:(c:Int)+1-(i:Int)=((c+1-i:Nat):Int):=by omega
 have ou:(0:Int)<=(i:Int)+1:=by omega
 have jH:i<=c:=by omega
 have Eg:((i:Int)+1).toNat=i+1:=by omega
 have hGi:¬(u=i):=by omega
 have ahZ:¬(u=i+1):=by omega
 have yI:¬(c=i):=by omega
 have tY:(i:Int)<=(c:Int):=by omega
 have gK:(aa.info? 46).map (·.size)=J 4:=by rw[D];simp[nf]
 have rQ:∃c3 N c0 cZ,(.returned (.slice (J ⟨w.heap.size,0,ag⟩) (c+1) u):Ending)=.returned (.slice (J ⟨w.heap.size,0,ag⟩) (c+1) c3)/\c+1<=c3/\jC {w with drawn:=N,heap:=w.heap.push (.cells c0 46)} w2 w.heap.size (.cells cZ 46 (0,0))/\cZ.size=c3*4/\cZ.toList.take ((c+1)*4)=cells.toList.take (i*4)++vs++(cells.toList.take (c*4)).drop (i*4):=by
  subst vj;refine⟨u,w.drew.drawn,f,c2,O,Ma,⟨q3.os.trans q1.os,q3.tape.trans q1.tape,q3.output.trans q1.output,q3.size.trans q1.size,λk hk=>(q3.other k hk).trans (q1.other k hk),q3.this⟩,?_,?_⟩
  .have:=congrArg F q4;simp only[ck,cR,eC,ip,lY]at this;omega
  .rw[q4,lY];have e1:c1.toList.take ((i+1)*4)=cells.toList.take (i*4)++vs:=(by rw[q2,Dz];exact qK (by simp only[ck,cR,ip,E];omega));rw[e1];exact qK (by simp only[ck,cR,eC,ip,E];omega)
 clear q1 q2 q3 q4 hg gC pE pD Dz B hold DB yD A2 qU Dy;subst vj
 go_enter KA,Ri
 go_wp2_with (first
  |(at_builtin;refine Lib.wpList_append_run _ O _ _ _ _ O _ _ O O _ _ (vk) ?_)
  |(at_builtin;refine wpList_copy_runI _ O _ _ 32 32 O _ _ O O (yJ _ _ _) ?_))
 go_region_law (refine step_copy_runI O _ _ 32 32 O (.slice (J ⟨w.heap.size,(i+1)*4,ag⟩) (c-i) (u-(i+1))) (.slice (J ⟨g,i*4,ag⟩) (c-i) (c-i)) (by simp[Act.eval,Act.put]) (by simp[Act.eval,Act.put]) (yK _ _ _) ?_)
 go_wp2
 go_ret
 exact rQ
def Eo:∃i,aa.info? 48=J i/\i.size=2/\i.bytes<=64/\∃z,i.zero=J z/\z.cells.size=2:=by
 have h:(match aa.info? 48 with|some i=>decide (i.size=2)&&decide (i.bytes<=64)&&(match i.zero with|some z=>decide (z.cells.size=2)|none=>ah)|none=>ah)=V:=by kernel_rfl
 cases f:aa.info? 48 with
 |none=>rw[f]at h;cases h
 |some i=>
  rw[f]at h;simp only at h;cases e:i.zero with|none=>rw[e]at h;simp at h|some z=>rw[e]at h;simp only[bm,decide_eq_true_eq]at h;exact⟨i,O,h.1.1,h.1.2,z,e,h.2⟩
def ajD(w:bP)(g n c i A ov vc:Nat)(cells:Array aG)(e:aF)(hg:w.heap[g]?=J (.cells cells e (0,0)))(hi:i<n)(Eb:n+1<=c)(uh:n<1000000)(jc:c*2<=cells.size)(fP:A≠g)(vs:List aG)(B:F vs=2)(gC:∀j v,vs[j]?=J v->w.cell? ⟨A,ov+j,ag⟩=J v)(pE:∀v∈vs,mE v=V)(pD:∀v∈cells.toList.take (n*2),mE v=V)(tA:aF)(kA:Nat)(f:w.shape? A=J (tA,kA)):
 Calls aa 120 #[.slice (J ⟨g,0,ag⟩) n c,.int .i64 i,.slice (J ⟨A,ov,ag⟩) 1 vc] w λr w'=>r=.returned (.slice (J ⟨g,0,ag⟩) (n+1) c)/\
  ∃cZ,jC w w' g (.cells cZ e (0,0))/\cZ.size=cells.size/\cZ.toList.take ((n+1)*2)=cells.toList.take (i*2)++vs++(cells.toList.take (n*2)).drop (i*2):=by
 obtain⟨inf,u,nf,-,-⟩:=Eo;have u33:=mV;have eM:F (cells.toList.take (n*2))=n*2:=by rw[cR,ip];omega
 have lY:F ((cells.toList.take (n*2)).drop (i*2))=(n-i)*2:=by rw[eC,eM];omega
 obtain⟨w1,c1,yJ,E,q2⟩:=wP (P:=aa) (w:=w.drew) (dT:=33) (sT:=33) u33 u (g:=g) (o:=(i+1)*2) (dl:=n-i) (m:=n-i) (sl:=n+1-i) (a:=⟨g,i*2,ag⟩) (vs:=(cells.toList.take (n*2)).drop (i*2)) (hg:w.drew.heap[g]?=_) (by simp only[xV];split<;>omega) (by rw[lY,nf]) (λj v hj=>by
  rw[Addr.hC,cell_of (w:=w.drew) hg];rw[o0,mM]at hj;split at hj
  .simpa using hj
  .cases hj) (by rw[lY];omega) (λv hv=>pD v (FP hv))
 have DH:c1.size=cells.size:=by have:=congrArg F q2;simp only[ck,cR,eC,ip,lY]at this;rw[this];rw[eC,cR,ip]at lY;omega
 obtain⟨w2,c2,yK,q3,q4⟩:=wP (P:=aa) (w:=w1) (dT:=33) (sT:=33) u33 u (g:=g) (o:=i*2) (dl:=n+1-i) (m:=1) (sl:=1) (a:=⟨A,ov,ag⟩) (vs:=vs) E.this (by simp only[xV];split<;>omega) (by rw[B,nf]) (λj v hj=>by rw[Addr.hC];have:=gC j v hj;unfold World.cell? at this ⊢;rw[E.other A fP];exact this) (by rw[B,DH];omega) pE;have MZ:∀lb cb,(callFunc 182 #[.slice (J ⟨A,ov,ag⟩) 1 vc,.slice (J ⟨g,(i+1)*2,ag⟩) lb cb]).run aa w=.ok (.value (.bool ah)) w:=λlb cb=>by
  rw[run_callFunc_extern Tryz.func182 bD bD bD (e:=Extern.SlicesOverlaps.overlaps #[33,33] #[4]) bD,
   YX w 33 4 48 u33 2 (λw=>by simp[sizeOf,typeInfo,u,nf]) ⟨A,ov,ag⟩ ⟨g,(i+1)*2,ag⟩ 1 vc lb cb fP tA e kA cells.size f (by unfold World.shape?;rw[hg]) ?_ M (λj=>by rw[tP hg];exact yy j) O]
  .rfl
  .intro q;subst q;have h0:=gC 0 _ (aP M);unfold World.shape? at f;unfold World.cell? at h0;split at f
   .rename_i c e z D;simp only[dt,cL]at f;rw[D]at h0;simp only at h0;rw[Cq M]at h0;cases h0
   .cases f
 have mixed:aa.follows .mixedOrders=V:=wG.mixed;have u0:=run_underlying mV;have Em:¬((1:Int)=0):=by omega
 have oN:¬((i:Int)=(n:Int)):=by omega
 have Bh:IntKind.i64.wrap ((i:Int)+1)=(i:Int)+1:=by rw[IntKind.wrap_i64];omega
 have oM:IntKind.i64.wrap ((n:Int)+1)=(n:Int)+1:=by rw[IntKind.wrap_i64];omega
 have ou:(0:Int)<=(i:Int)+1:=by omega
 have jH:i<=n:=by omega
 have Eg:((i:Int)+1).toNat=i+1:=by omega
 have k':¬(c=i+1):=by omega
 have tY:(i:Int)<=(n:Int)+1:=by omega
 have vm:¬(c=i):=by omega
 have gK:(aa.info? 48).map (·.size)=J 2:=by rw[u];simp[nf]
 have rQ:∃cZ,jC w w2 g (.cells cZ e (0,0))/\cZ.size=cells.size/\cZ.toList.take ((n+1)*2)=cells.toList.take (i*2)++vs++(cells.toList.take (n*2)).drop (i*2):=by
  refine⟨c2,⟨q3.os.trans E.os,q3.tape.trans E.tape,q3.output.trans E.output,q3.size.trans E.size,λk hk=>(q3.other k hk).trans (E.other k hk),q3.this⟩,?_,?_⟩
  .have:=congrArg F q4;simp only[ck,cR,eC,ip,B]at this;omega
  .rw[q4,B,(M:(n+1)*2=n*2+2)];refine VV (by rw[ip];omega) M B O ?_;rw[q2,(M:(i+1)*2=i*2+2)]
 clear E q2 q3 q4 hg f gC pE pD
 go_enter KB,Rj
 go_wp2_with (simp only[MZ])
 go_region_law (refine step_copy_runI O _ _ 33 33 O _ _ (by simp[Act.eval,Act.put]) (by simp[Act.eval,Act.put]) (yJ _ _ _) ?_)
 go_wp2_with (at_builtin;refine wpList_copy_runI _ O _ _ 33 33 O _ _ O O (yK _ _ _) ?_)
 go_ret
 exact⟨O,rQ⟩
def ajB(w w':bP)(e:Option Addr)(n c o:Nat)(a:Addr)(u:aG)(hn:n<=c)(f:∀ty,(Builtin.append_ #[33,33] ty #[.slice e n c,.slice (J a) 1 o]).run aa w=.ok u w'):
 Calls aa 120 #[.slice e n c,.int .i64 n,.slice (J a) 1 o] w λr A=>r=.returned u/\A=w':=by
 have v:aa.follows .mixedOrders=V:=wG.mixed;have u0:=run_underlying mV;obtain⟨inf,i,j,-,-⟩:=Eo;have D:(aa.info? 48).map (·.size)=J 2:=by rw[i];simp[j]
 have E:¬((1:Int)=0):=by omega
 go_enter KB,Rj
 cases e with
 |none=>
  go_wp2_with (at_builtin;refine Lib.wpList_append_run _ O _ _ _ _ O _ _ O O _ _ (f _) ?_)
  all_goals (go_ret;exact⟨O,O⟩)
 |some a0=>
  obtain⟨ab,ao,B⟩:=a0
  go_wp2_with (at_builtin;refine Lib.wpList_append_run _ O _ _ _ _ O _ _ O O _ _ (f _) ?_)
  all_goals (go_ret;exact⟨O,O⟩)
def ajC(w:bP)(g n c i gv ov vc:Nat)(cells:Array aG)(e:aF)(hg:w.heap[g]?=J (.cells cells e (0,0)))(hi:i<n)(hnc:n<=c)(Eb:c<n+1)(hb:n<1000000)(jc:n*2<=cells.size)(vs:List aG)(E:F vs=2)(gC:∀j v,vs[j]?=J v->w.cell? ⟨gv,ov+j,ag⟩=J v)(pE:∀v∈vs,mE v=V)(pD:∀v∈cells.toList.take (n*2),mE v=V):
 Calls aa 120 #[.slice (J ⟨g,0,ag⟩) n c,.int .i64 i,.slice (J ⟨gv,ov,ag⟩) 1 vc] w λr w'=>∃c2 N c0 cZ,r=.returned (.slice (J ⟨w.heap.size,0,ag⟩) (n+1) c2)/\n+1<=c2/\jC {w with drawn:=N,heap:=w.heap.push (.cells c0 48)} w' w.heap.size (.cells cZ 48 (0,0))/\cZ.size=c2*2/\cZ.toList.take ((n+1)*2)=cells.toList.take (i*2)++vs++(cells.toList.take (n*2)).drop (i*2):=by
 obtain⟨inf,D,nf,rR,z,hz,Bj⟩:=Eo;have u33:=mV;have eM:F (cells.toList.take (n*2))=n*2:=by rw[cR,ip];omega
 have lY:F ((cells.toList.take (n*2)).drop (i*2))=(n-i)*2:=by rw[eC,eM];omega
 have Mq:c=n:=by omega
 subst Mq;have hold:(Builtin.firstCells inf.size i (.slice (J ⟨g,0,ag⟩) i c)).run aa w.drew=.ok (cells.toList.take (i*2)).toArray w.drew:=by
  have:=run_loadCells_list (P:=aa) w.drew ⟨g,0,ag⟩ (cells.toList.take (i*2)) (λj v A=>by
   rw[Addr.hC,cell_of (w:=w.drew) hg];simp only[mM]at A;split at A
   .simpa using A
   .cases A)
  rw[show(F (cells.toList.take (i*2)))=i*inf.size by rw[cR,ip,nf];omega]at this;exact this
 have vk:=Lib.run_append_grow_zeros (P:=aa) w 33 3 33 48 inf z .i64 .i64 u33 jF D hz (J ⟨g,0,ag⟩) i c (cells.toList.take (i*2)) hold (c+1-i) M M M M (by have:=jt (M:c+1-i<=1000001) rR;omega) (by have:=growslice_fits (bytes:=inf.bytes) (M:c<i+(c+1-i)) (by have:=jt (M:i+(c+1-i)<=1000001) rR;omega);omega);rw[(M:i+(c+1-i)=c+1)]at vk;obtain⟨u,qU⟩:∃u,u=grownCap w (c+1) c 48:=⟨_,O⟩;have Ma:c+1<=u:=by rw[qU];exact grownCap_ge w _ _ _
 have ahY:u<=9223372036854775807:=by have:=grownCap_le_maxLen w (c+1) c 48 (by unfold maxLen;omega);rw[<-qU]at this;unfold maxLen at this;omega
 rw[<-qU]at vk;obtain⟨f,B⟩:∃f:Array aG,f=(cells.toList.take (i*2)).toArray++Builtin.zeroCells z.cells (c+1-i)++Builtin.zeroCells z.cells (u-(c+1)):=⟨_,O⟩;rw[<-B]at vk;have Dy:f.size=u*2:=by rw[B];simp only[Cs,Kf,Jk,Bj,cR,ip];omega
 have Dz:f.toList.take (i*2)=cells.toList.take (i*2):=by rw[B];simp only[wp];rw[iO];exact qK (by rw[cR,ip];omega)
 obtain⟨W1,vj⟩:∃W1,W1=(w.alloc (.cells f 48)).drew:=⟨_,O⟩;have DB:W1.heap[w.heap.size]?=J (.cells f 48 (0,0)):=by rw[vj];show(w.heap.push _)[w.heap.size]?=_;rw[FB,av O]
 have yD:∀k,k<w.heap.size->W1.heap[k]?=w.heap[k]?:=λk hk=>by rw[vj];show(w.heap.push _)[k]?=_;rw[FB,aL M]
 have MA:=oy hg;have Ei:gv<w.heap.size:=block_lt_of_cell (gC 0 _ (aP M));obtain⟨w1,c1,yJ,q1,q2⟩:=wP (P:=aa) (w:=W1) (dT:=33) (sT:=33) u33 D (g:=w.heap.size) (o:=i*2) (dl:=c+1-i) (m:=1) (sl:=1) (a:=⟨gv,ov,ag⟩) (vs:=vs) DB (by simp only[xV];split<;>omega) (by rw[E,nf]) (λj v A=>by rw[Addr.hC];have:=gC j v A;unfold World.cell? at this ⊢;rw[yD gv Ei];exact this) (by rw[E,Dy];omega) pE;have DH:c1.size=f.size:=by have:=congrArg F q2;simp only[ck,cR,eC,ip,E]at this;omega
 have A2:w1.heap[g]?=J (.cells cells e (0,0)):=by rw[q1.other g M,yD g MA];exact hg
 obtain⟨w2,c2,yK,q3,q4⟩:=wP (P:=aa) (w:=w1.drew) (dT:=33) (sT:=33) u33 D (g:=w.heap.size) (o:=(i+1)*2) (dl:=c-i) (m:=c-i) (sl:=c-i) (a:=⟨g,i*2,ag⟩) (vs:=(cells.toList.take (c*2)).drop (i*2)) (q1.this:w1.drew.heap[_]?=_) (by simp only[xV];split<;>omega) (by rw[lY,nf]) (λj v A=>by
  rw[Addr.hC,cell_of (w:=w1.drew) A2];rw[o0,mM]at A;split at A
  .simpa using A
  .cases A) (by rw[lY];omega) (λv hv=>pD v (FP hv))
 have mixed:aa.follows .mixedOrders=V:=wG.mixed;have u0:=run_underlying mV;have Em:¬((1:Int)=0):=by omega
 have oN:¬((i:Int)=(c:Int)):=by omega
 have hz3:(c:Int)<(c:Int)+1:=by omega
 have Bh:IntKind.i64.wrap ((i:Int)+1)=(i:Int)+1:=by rw[IntKind.wrap_i64];omega
 have oM:IntKind.i64.wrap ((c:Int)+1)=(c:Int)+1:=by rw[IntKind.wrap_i64];omega
 have hw3:IntKind.i64.wrap ((c:Int)+1-(i:Int))=((c+1-i:Nat):Int):=by rw[IntKind.wrap_i64];omega
 have yS:(c:Int)+1-(i:Int)=((c+1-i:Nat):Int):=by omega
 have ou:(0:Int)<=(i:Int)+1:=by omega
 have jH:i<=c:=by omega
 have Eg:((i:Int)+1).toNat=i+1:=by omega
 have hGi:¬(u=i):=by omega
 have ahZ:¬(u=i+1):=by omega
 have yI:¬(c=i):=by omega
 have tY:(i:Int)<=(c:Int):=by omega
 have gK:(aa.info? 48).map (·.size)=J 2:=by rw[D];simp[nf]
 have rQ:∃c3 N c0 cZ,(.returned (.slice (J ⟨w.heap.size,0,ag⟩) (c+1) u):Ending)=.returned (.slice (J ⟨w.heap.size,0,ag⟩) (c+1) c3)/\c+1<=c3/\jC {w with drawn:=N,heap:=w.heap.push (.cells c0 48)} w2 w.heap.size (.cells cZ 48 (0,0))/\cZ.size=c3*2/\cZ.toList.take ((c+1)*2)=cells.toList.take (i*2)++vs++(cells.toList.take (c*2)).drop (i*2):=by
  subst vj;refine⟨u,w.drew.drawn,f,c2,O,Ma,⟨q3.os.trans q1.os,q3.tape.trans q1.tape,q3.output.trans q1.output,q3.size.trans q1.size,λk hk=>(q3.other k hk).trans (q1.other k hk),q3.this⟩,?_,?_⟩
  .have:=congrArg F q4;simp only[ck,cR,eC,ip,lY]at this;omega
  .rw[q4,lY];have e1:c1.toList.take ((i+1)*2)=cells.toList.take (i*2)++vs:=(by rw[q2,Dz];exact qK (by simp only[ck,cR,ip,E];omega));rw[e1];exact qK (by simp only[ck,cR,eC,ip,E];omega)
 clear q1 q2 q3 q4 hg gC pE pD Dz B hold DB yD A2 qU Dy;subst vj
 go_enter KB,Rj
 go_wp2_with (first
  |(at_builtin;refine Lib.wpList_append_run _ O _ _ _ _ O _ _ O O _ _ (vk) ?_)
  |(at_builtin;refine wpList_copy_runI _ O _ _ 33 33 O _ _ O O (yJ _ _ _) ?_))
 go_region_law (refine step_copy_runI O _ _ 33 33 O (.slice (J ⟨w.heap.size,(i+1)*2,ag⟩) (c-i) (u-(i+1))) (.slice (J ⟨g,i*2,ag⟩) (c-i) (c-i)) (by simp[Act.eval,Act.put]) (by simp[Act.eval,Act.put]) (yK _ _ _) ?_)
 go_wp2
 go_ret
 exact rQ
end Go.Proofs.YtcbhpkjbiehcpaaGreatDoor
end
section
namespace Go.AE
open Go.RowKit (Below)
def xu(z:Nat)(args:List U)(h:Heap):Option (U × Heap):=
 match args with
 | [.arr b f n n',.v (.int .i64 i),.list _ s [row]]=>
  match h.boxes[b]? with
  |some e=>if f=0/\n'=n/\0<n/\n<1000000/\0<=i/\i<=n/\s=z/\F e=n*z then
   J (.arr (F h.boxes) 0 (n+1) (n+1),(h.put b []).push (e.take (i.toNat*z)++row++e.drop (i.toNat*z))) else ag
  |none=>ag
 | [.list k _ [],.v (.int .i64 0),.list _ s [row]]=>if (k=.nil∨k=.tight)/\s=z then J (.arr (F h.boxes) 0 1 1,h.push row) else ag
 |_=>ag
structure JY(P:bk)(f t:Nat)(E:aF)(z:Nat):Prop where
 body:∃fn,P.funcs[f]?=J fn/\fn.body.isSome=V
 pos:0<z
 JB:P.underlying t=J (.slice E)
 inf:∃i,P.info? E=J i/\i.size=z/\i.bytes<=64/\∃v,i.zero=J v/\v.cells.size=z
 shift:∀(w:bP) (g n c i gv ov vc:Nat) (cells:Array aG) (e:aF) (_:w.heap[g]?=J (.cells cells e (0,0))) (_:i<n) (_:n+1<=c) (_:n<1000000) (_:c * z<=cells.size) (_:gv≠g) (vs:List aG) (_:vs.length=z) (_:∀j v,vs[j]?=J v->w.cell? ⟨gv,ov+j,ag⟩=J v) (_:∀v∈vs,mE v=V) (_:∀v∈cells.toList.take (n * z),mE v=V) (tA:aF) (kA:Nat) (_:w.shape? gv=J (tA,kA)),
  Calls P f #[.slice (J ⟨g,0,ag⟩) n c,.int .i64 i,.slice (J ⟨gv,ov,ag⟩) 1 vc] w λr w'=>r=.returned (.slice (J ⟨g,0,ag⟩) (n+1) c)/\
   ∃cZ,jC w w' g (.cells cZ e (0,0))/\cZ.size=cells.size/\cZ.toList.take ((n+1) * z)=cells.toList.take (i * z)++vs++(cells.toList.take (n * z)).drop (i * z)
 fin:∀(w w':bP) (base:Option Addr) (n c vc:Nat) (a:Addr) (vr:aG) (_:n<=c) (_:∀ty,(Builtin.append_ #[t,t] ty #[.slice base n c,.slice (J a) 1 vc]).run P w=.ok vr w'),
  Calls P f #[.slice base n c,.int .i64 n,.slice (J a) 1 vc] w λr w2=>r=.returned vr/\w2=w'
 grow:∀(w:bP) (g n c i gv ov vc:Nat) (cells:Array aG) (e:aF) (_:w.heap[g]?=J (.cells cells e (0,0))) (_:i<n) (_:n<=c) (_:c<n+1) (_:n<1000000) (_:n * z<=cells.size) (vs:List aG) (_:vs.length=z) (_:∀j v,vs[j]?=J v->w.cell? ⟨gv,ov+j,ag⟩=J v) (_:∀v∈vs,mE v=V) (_:∀v∈cells.toList.take (n * z),mE v=V),
  Calls P f #[.slice (J ⟨g,0,ag⟩) n c,.int .i64 i,.slice (J ⟨gv,ov,ag⟩) 1 vc] w λr w'=>∃c2 N c0 cZ,r=.returned (.slice (J ⟨w.heap.size,0,ag⟩) (n+1) c2)/\n+1<=c2/\jC {w with drawn:=N,heap:=w.heap.push (.cells c0 E)} w' w.heap.size (.cells cZ E (0,0))/\cZ.size=c2 * z/\cZ.toList.take ((n+1) * z)=cells.toList.take (i * z)++vs++(cells.toList.take (n * z)).drop (i * z)
section
variable {P:bk} {G:Nat->Option (List U)} {ok:aR->Nat->Code->Bool} {w0 w w':bP} {K:aW} {h:Heap} {z:Nat}
def bK.JI(s:bK K G ok w0 h w){b g:Nat}(e:K.β[b]?=J g):g<w.heap.size:=by have f:=(aT.1 e).1;rw[s.iN]at f;obtain⟨-,-,-,cells,i,q,-⟩:=s.box b g _ e (aP f);exact oy q
def VU(s:bK K G ok w0 h w){g n c2:Nat}{f:List U}{cells c0:Array aG}{e e0:aF}{z0:Nat × Nat}(hg:K.base<=g)(xg:∀j,K.ic g j=ag)(i:∀b:Nat,K.β[b]?=J g->h.boxes[b]?=J [])
 (A:∀t,alive h t=V->(K.tk t).1≠g) (B:w.heap[g]?=J (.cells c0 e0 z0)) (c:jC w w' g (.cells cells e (0,0))) (hz:0<z) (hl:F f=(n+1)*z) (hv:aI K f (cells.toList.take ((n+1)*z))) (D:f.all U.cW=V) (hc2:n+1<=c2) (o:c2*z<=cells.size):
 ∃u,K.Le u/\aQ u (.arr (F h.boxes) 0 (n+1) (n+1)) (.slice (J ⟨g,0,ag⟩) (n+1) c2)/\bK u G ok w0 (h.push f) w':=by
 obtain⟨s3,E⟩:=s.ZW (g:=g) (cs:=f) (cells:=cells) (e:=e) hg xg i A B (J (n+1,z,cells.size)) (λN sz room q=>by injection q with q;injection q with q1 q;injection q with q2 q3;subst q1 q2 q3;exact .inr ⟨hl,aV _⟩) c (by rw[hl];exact hv) D;refine⟨_,K.zF _ _,.arr _ _ _ _ _ _ _ E (aV _) hc2 (.inl O) (.inr (.inr (.inr ⟨z,cells.size,?_,hz,o⟩))),s3⟩;have v:F h.boxes=F K.β:=s.iN.symm;simp only[aW.mX,v,if_true]
def WH{k:Tok}{s:Nat}{row:List U}{c:aG}(E:aQ K (.list k s [row]) c):∃e f u vs,c=.slice (J ⟨e,f,ag⟩) 1 u/\F row=s/\aI K row vs/\(∀j v,vs[j]?=J v->K.ic e (f+j)=J v)/\row.all U.cW=V:=by
 cases E with|list _ _ _ e f m u vs A B o D htk i=>simp only[ef,f_,Nat.zero_add]at A;subst A;simp only[jP,List.flatten_nil,gj]at o i;exact⟨e,f,u,vs,O,B row gH,o,D,i⟩
def acO{b n:Nat}{c:aG}(A:aQ K (.arr b 0 n n) c)(E:0<n):∃g e,c=.slice (J ⟨g,0,ag⟩) n e/\K.β[b]?=J g/\n<=e/\(e=n∨∃sz f,K.lb b=J (n,sz,f)/\0<sz/\e*sz<=f):=by
 cases A with
 |arr _ g _ _ _ i e B D j u v=>
  have o:i=0:=by rcases u with p|p<;>omega
  subst o;refine⟨g,e,O,B,j,?_⟩;rcases v with r|r|r|r
  .exact .inl r
  .omega
  .exact absurd O r
  .exact .inr r
def ZZ{f i j:U}{l:List aG}(B:aI K [f,i,j] l):∃e c2 o,l=[e,c2,o]/\aQ K f e/\aQ K i c2/\aQ K j o:=by rcases B with _|⟨_,c0,_,_,v,_|⟨_,e,_,_,u,_|⟨_,c2,_,_,A,_|_⟩⟩⟩;exact⟨_,_,_,O,v,u,A⟩
def VT{f t:Nat}{z3:aF}(o:JY P f t z3 z)(z4:bP):kJ P G z4 f (xu z):=by
 refine⟨o.body,λargs h x h' hx K w j hv v=>?_⟩;obtain⟨inf,U1,A,rR,v0,qo,hvz⟩:=o.inf;have zl:(inf.zero.map λz=>z.cells.size)=J inf.size:=by rw[qo,A];simp[hvz]
 unfold xu at hx;split at hx
 .rename_i b off n n' i k s row;split at hx
  .rename_i u jc;split at hx
   .rename_i hc;obtain⟨rfl,rfl,ug,uh,MC,jH,rfl,eM⟩:=hc;obtain⟨i,rfl⟩:=Int.eq_ofNat_of_zero_le MC;simp only[dt,cL]at hx;obtain⟨rfl,rfl⟩:=hx;have jH:i<=n':=(by omega);have hti:(i:Int).toNat=i:=fD i;rw[hti];obtain⟨j⟩:=j;obtain⟨c0,c1,c2,rfl,ha,DR,hr⟩:=ZZ hv;cases DR;have dn:=hr;have DD:=ha;obtain⟨gv,ov,vc,vs,rfl,l_,gC,Ns,Mn⟩:=WH hr;obtain⟨g,c,rfl,hb,pH,rW⟩:=acO ha ug;have pI:F vs=s:=(by rw[<-gC.length,l_]);have pE:=xZ gC Mn;have Nu:∀z1 z0,vs[z1]?=J z0->w.cell? ⟨gv,ov+z1,ag⟩=J z0:=λz1 z0 hj=>v.ic _ _ _ (Ns z1 z0 hj);have avk:(n'+1)*s=n' * s+s:=(by rw[js,Nat.one_mul]);obtain⟨k1,k2,ka,cells,z2,k3,k4⟩:=v.box b g u hb jc;have fP:u≠[]:=λq=>(by subst q;have:=Nat.mul_pos ug o.pos;simp only[f_]at eM;omega);have UH:=(aT.1 jc).1;have DK:=v.Tg b;have Hk:F (h.put b []).boxes=F h.boxes:=(by simp[Heap.put]);have G8:=k4.1;have iE:=k4.le;rw[eM]at G8 iE;have pD:∀z0∈cells.toList.take (n' * s),mE z0=V:=xZ G8 ka;have hgv:gv≠g:=λq=>(by subst q;have h0:=o.pos;have:=Ns 0 _ (aP M);rw[k2]at this;cases this);by_cases rQ:i=n'
    .subst rQ;have Nq:=Jx (P:=P) (t0:=t) (t1:=t) (h:=h) (b:=b) (len:=i) (cs:=u) (new:=[row]) (i:=inf) (x:=.list k s [row]) o.JB o.JB U1 (by rw[A];exact o.pos) zl b8 (by have:=jt (show i+F [row]<=1000001 by simp;omega) rR;omega) (by simp;omega) jc ug (by rw[A];exact eM.symm) (by rw[A];exact EC);obtain⟨E,z0,w',le,s',e,xk⟩:=P0 (P:=P) (ty:=0) v Nq DD dn;have aiZ:∀ty,(Builtin.append_ #[t,t] ty #[.slice (J ⟨g,0,ag⟩) i c,.slice (J ⟨gv,ov,ag⟩) 1 vc]).run P w=.ok z0 w':=λty=>xk;refine Calls.mono (o.fin w w' _ i c vc _ z0 pH aiZ) ?_;rintro r w2 ⟨rfl,rfl⟩;refine⟨z0,E,O,le,e,?_⟩;rw[ga M,nq M,gj];simpa using s'
    .have eH:i<n':=(by omega);have U2:F (u.take (i*s)++row++u.drop (i*s))=(n'+1)*s:=(by have:=mz s jH;simp only[ck,cR,eC,l_,eM];omega);have yE:(u.take (i*s)++row++u.drop (i*s)).all U.cW=V:=(by rw[sZ,sZ,Mn];simp only[bm,eJ]at ka ⊢;exact⟨⟨λx hx=>ka x (List.mem_of_mem_take hx),aX⟩,λx hx=>ka x (FP hx)⟩);have Vw:aI K (u.take (i*s)++row++u.drop (i*s)) (cells.toList.take (i*s)++vs++(cells.toList.take (n' * s)).drop (i*s)):=by
      refine((?_:aI K (u.take (i*s)) (cells.toList.take (i*s))).append gC).append (G8.drop _);have:=G8.take (i*s)
      rwa [FR,Nat.min_eq_left (mz s jH)]at this
     rcases dp c (n'+1) with B|B
     .refine Calls.mono (o.grow w g n' c i gv ov vc cells z2 k3 eH pH B uh iE vs pI Nu pE pD) ?_;rintro r w2 ⟨c2,N,c0,cZ,rfl,q1,q2,q3,q4⟩;have s1:=(DK.drew N).push (.cells c0 z3);obtain⟨E,le,e,s'⟩:=VU (h:=h.put b []) (z:=s) (n:=n') (c2:=c2) s1 (g:=w.heap.size) v.size (λz1=>by
       cases hq:K.ic w.heap.size z1 with
       |none=>rfl|some c=>have:=v.ur hq;omega) (λb2 k'=>by have:=v.JI k';omega) (λt ht hq=>by obtain⟨-,-,-,c,z2,z,q,-⟩:=v.tok t ht;have:=oy q;omega) (by show(w.heap.push _)[w.heap.size]?=_;rw[FB,av O]) q2 o.pos U2 (by rw[q4];exact Vw) yE q1 (by rw[q3];exact aV _)
      rw[Hk]at e;exact⟨_,E,O,le,e,s'⟩
     .rcases rW with r|⟨sz,room,r1,r2,r3⟩
      .omega
      .rcases k4.2 _ _ _ r1 with q|⟨q1,q2⟩
       .exact absurd q fP
       .have gK:s=sz:=Nat.eq_of_mul_eq_mul_left ug (eM.symm.trans q1);subst gK;have Mu:c*s<=cells.size:=e8 r3 q2;have h0:=Nu 0 _ (aP (by have:=o.pos;omega));obtain⟨tA,kA,qW⟩:∃tA kA,w.shape? gv=J (tA,kA):=by
         unfold World.cell? at h0;unfold World.shape?;split at h0
         .rename_i D;rw[D];exact⟨_,_,O⟩
         .cases h0
        refine Calls.mono (o.shift w g n' c i gv ov vc cells z2 k3 eH B uh Mu hgv vs pI Nu pE pD tA kA qW) ?_;rintro r w2 ⟨rfl,cZ,p1,p2,p3⟩;obtain⟨E,le,e,s'⟩:=VU (h:=h.put b []) (z:=s) (n:=n') (c2:=c) DK (g:=g) k1 k2 (λb2 k'=>by
         show(h.boxes.set b [])[b2]?=J [];rw[List.getElem?_set];by_cases tZ:b=b2
         .subst tZ;rw[av O,av UH]
         .rw[aL tZ];rcases v.np _ _ _ hb k' with p|p|p
          .exact absurd p tZ
          .rw[jc]at p;injection p with p;exact absurd p fP
          .exact p) (λt ht hq=>by
         obtain⟨_,q,_⟩:=v.tok t ht;exact q b (by rw[hq];exact hb)) k3 p1 o.pos U2 (by rw[p3];exact Vw) yE B (by rw[p2];exact Mu)
        rw[Hk]at e;exact⟨_,E,O,le,e,s'⟩
   .cases hx
  .cases hx
 .rename_i k s0 k2 s row;split at hx
  .rename_i hc;obtain⟨hk,rfl⟩:=hc;simp only[dt,cL]at hx;obtain⟨rfl,rfl⟩:=hx;obtain⟨j⟩:=j;obtain⟨c0,c1,c2,rfl,ha,DR,hr⟩:=ZZ hv;cases DR;have dn:=hr;obtain⟨gv,ov,vc,vs,rfl,l_,gC,Ns,Mn⟩:=WH hr;have Nq:=zS (P:=P) (t0:=t) (t1:=t) (h:=h) (k:=k) (sz:=s0) (es:=[]) (new:=[row]) (i:=inf) (x:=.list k2 s [row]) o.JB o.JB U1 (by rw[A];exact o.pos) zl b8 (by simp;omega) b8 (.inr O) hk (by rw[A];exact EC);obtain⟨c,rfl⟩:∃b,c0=.slice b 0 0:=by
    cases ha with
    |nil=>exact⟨_,O⟩|fZ=>exact⟨_,O⟩|list _ _ _ g off m aS cells hn y9 e hc' ht Uw=>
     have h0:m=0:=(by simpa using hn);subst h0;rcases hk with rfl|rfl
     .exact ht.2.elim
     .have:=ht.2;simp only at this;subst this;exact⟨_,O⟩
   obtain⟨E,z0,w',le,s',e,xk⟩:=P0 (P:=P) (ty:=0) v Nq ha dn;refine Calls.mono (o.fin w w' c 0 0 vc _ z0 (aV _) λty=>xk) ?_;rintro r w2 ⟨rfl,rfl⟩;exact⟨z0,E,O,le,e,by simpa using s'⟩
  .cases hx
 .cases hx
end
end Go.AE
end
section
namespace Go.Proofs.YtcbhpkjbiehcpaaGreatDoor
open Go.AE
def aju:JY aa 116 32 46 4:=⟨⟨_,KA,by kernel_rfl⟩,by decide,lP,HP,ajx,ajv,ajw⟩
def ajA:JY aa 120 33 48 2:=⟨⟨_,KB,by kernel_rfl⟩,by decide,mV,Eo,ajD,ajB,ajC⟩
def ul(g:aR):Option (List U->Heap->Option (U × Heap)):=if g=116 then J (xu 4) else if g=120 then J (xu 2) else ag
def ND{G}:∀e g p,ul g=some p->kJ Tryz.prog G e g p:=by
 intro e g p h;unfold ul at h;split at h
 .rename_i q;subst q;injection h with h;subst h;exact VT aju e
 .split at h
  .rename_i q;subst q;injection h with h;subst h;exact VT ajA e
  .cases h
end Go.Proofs.YtcbhpkjbiehcpaaGreatDoor
end
section
namespace Go.Proofs.YtcbhpkjbiehcpaaGreatDoor
open Go.AE Go.NT
def qs9:Tryz.f9.results.toList=[.tmp 6]:=by kernel_rfl
def aj4{c}{a}(ok:cA c a)(D:dG a):∃b,(b=V->F c.rows<=80/\F c.ac<=80/\F c.ai<=80)/\∀h,SB.call 31 [.agg (aM c.ep a.X a.Y a.C),.list .nil 0 [],.list .nil 0 []] h=J (.ret (.v (.bool b)),h):=by obtain⟨b,e,q⟩:=aj2 (ep:=c.ep) ok.x ok.y ok.cm;rw[D.X,D.Y,D.C]at q;exact⟨b,e,(nS q O O).call⟩
def agG(h:Heap){c:Ce}{a:CA}(ok:cA c a)(D:dG a):∃r h',SB.call 9 [.agg (aM c.ep a.X a.Y a.C),.agg (bj c.doc a.p a.r a.n),a.W] h=J (r,h')/\∃b,r=.ret (.v (.bool b))/\(b=V->F c.rows<=80/\F c.ac<=80/\F c.ai<=80/\F c.doc.pa<=20/\F c.doc.rv<=20/\F c.doc.nd<=20/\F c.who<=80):=by
 have A:=nC (ep:=c.ep) ok.x ok.y ok.cm;have B:=ok.d.cells;obtain⟨b,e,j⟩:=aj4 ok D;have q:=(aj6 ok.d).up (L:=LB) (P:=aa) (G:=Gt) O;rw[D.p,D.r,D.n]at q;have o:∀h,SB.call 32 [.agg (bj c.doc a.p a.r a.n)] h=J (.ret (.v (.bool (yr c.doc))),h):=q.call;have l1:aD aa Gt ((h.push (aM c.ep a.X a.Y a.C)).push (bj c.doc a.p a.r a.n)) 27 (.ptr (.box (F h.boxes)) 0)=J (.agg (aM c.ep a.X a.Y a.C)):=by rw[fR bD (by kernel_rfl:cC aa 27=J 4) (aN (aK _ _)) (by decide:0+4<=4)];rfl
 have l2:=vE ok.d.len (aK (h.push (aM c.ep a.X a.Y a.C)) (bj c.doc a.p a.r a.n));have v:=cU;obtain⟨k,s,u,-⟩:=ok.w;have E:=cG c.who;have f:=ae.mk e;have i:ae (yr c.doc=V->F c.doc.pa<=20/\F c.doc.rv<=20/\F c.doc.nd<=20):=⟨λq=>by unfold yr at q;simp only[bm,decide_eq_true_eq]at q;exact⟨q.1.1,q.1.2,q.2⟩⟩;rw[u]at *
 clear ok D q e u;generalize aM c.ep a.X a.Y a.C=K at *
 generalize bj c.doc a.p a.r a.n=z0 at *
 generalize yr c.doc=z1 at *
 refine bL O Tryz.func9 O ?_
 repeat' (first|simp(maxSteps:=9999999) (disch:=first|exact dZ|fail) only[gW,reduceIte,aH,aC,qs9,bg, *]|refine dX ?_ ?_<;>(intro _;try omega))
 all_goals exact⟨_,_,O,_,O,λq=>by
  first
   |(have h1:=f.out (by assumption);have h2:=i.out (by assumption);simp only[decide_eq_true_eq]at q;omega)
   |(simp at q)⟩
def LC:List aR:=LB++[11,12,53,57,50,51,9]
noncomputable def me:aR->Option (List U->Heap->Option (U × Heap)):=mb SB LC (λ_=>0) ul
noncomputable abbrev SC:=whole aa Gt me
def jG:mo me LC:=λg e=>⟨uq SB g,by unfold me mb;rw[av (by simpa using e)];rfl⟩
def qr{x}{k}{s}{es}(e:x=.list k s es)(D:al x=x)(h):dE h x=x:=by subst e;rw[al]at D;injection D with h1 h2 f;rw[dE,h1]
def HK(h):∀a b:List U,iF h (a++b)=iF h a++iF h b
 | [],_=>rfl
 |x::a,b=>by rw[ey,iF,HK h a b];rfl
def ajf(h)(l:List UInt8):iF h (l.map fJ)=l.map fJ:=by
 induction l with
 |nil=>rfl|cons b l e=>show dE h (fJ b)::iF h (l.map fJ)=_;rw[e];rfl
section
variable {c:Ce} {a:CA}
def Gi(ok:cA c a)(D:dG a)(h:Heap):iF h (aq c a)=aq c a:=by obtain⟨E,s1,xs,e,-⟩:=ok.x.form;obtain⟨k2,s2,f,-⟩:=ok.y;obtain⟨k3,s3,i,-⟩:=ok.cm;obtain⟨k4,s4,j,-⟩:=ok.d.p;obtain⟨k5,s5,o,-⟩:=ok.d.r;obtain⟨k6,s6,u,-⟩:=ok.d.n;obtain⟨k7,s7,v,-⟩:=ok.w;obtain⟨k8,s8,A,-⟩:=ok.pa;obtain⟨k9,s9,B,-⟩:=ok.z;unfold aq aM bj;rw[HK,HK,HK,ajf];simp only[iF,qr e D.X,qr f D.Y,qr i D.C,qr j D.p,qr o D.r,qr u D.n,qr v D.W,qr A D.Pa,qr B D.Z];rfl
def oG(D:dG a):a_ (aq c a)=aq c a:=by unfold aq aM;rw[vq,vq,yn,D.p,D.r,D.n];simp only[a_,D.X,D.Y,D.C,D.W,D.Pa,D.Z];rfl
def lV(ok:cA c a)(D:dG a):aA 0 0 0 (aq c a)=V:=by obtain⟨h1,h2,u,e⟩:=zy c.ep ok.x ok.y ok.cm;obtain⟨-,f⟩:=ok.d.hold;obtain⟨-,i⟩:=ok.w.hold;obtain⟨-,j⟩:=ok.pa.fk;obtain⟨-,o⟩:=ok.z.hold;rw[D.X,D.Y,D.C]at e;rw[D.p,D.r,D.n]at f;rw[D.W]at i;rw[D.Pa]at j;rw[D.Z]at o;unfold aq;rw[GA,GA,e,f];simp[aA,i,j,o]
def uc:dG a0:=⟨O,O,O,O,O,O,O,O,O⟩
def Ib(D:dG a):dG (iY c a):=by
 unfold iY;split
 .exact⟨D.X,D.Y,D.C,D.p,D.r,D.n,D.W,O,O⟩
 .exact uc
def KR(D:dG a):a_ [.agg (aM c.ep a.X a.Y a.C),.agg (bj c.doc a.p a.r a.n),a.W]=[.agg (aM c.ep a.X a.Y a.C),.agg (bj c.doc a.p a.r a.n),a.W]:=by
 have e:a_ (aM c.ep a.X a.Y a.C)=aM c.ep a.X a.Y a.C:=by unfold aM;simp only[a_,D.X,D.Y,D.C];rfl
 have f:a_ (bj c.doc a.p a.r a.n)=bj c.doc a.p a.r a.n:=by rw[yn,D.p,D.r,D.n]
 simp only[a_,al,e,f,D.W]
def KQ(ok:cA c a)(D:dG a):aA 0 0 0 [.agg (aM c.ep a.X a.Y a.C),.agg (bj c.doc a.p a.r a.n),a.W]=V:=by obtain⟨h1,h2,j,e⟩:=zy c.ep ok.x ok.y ok.cm;obtain⟨-,f⟩:=ok.d.hold;obtain⟨-,i⟩:=ok.w.hold;rw[D.X,D.Y,D.C]at e;rw[D.p,D.r,D.n]at f;rw[D.W]at i;simp[aA,au,e,f,i]
def Wc(ok:cA c a)(D:dG a)(e:c.Fit):bN SC 11 [.agg (aM c.ep a.X a.Y a.C),.agg (bj c.doc a.p a.r a.n),a.W] (.tuple [.agg (aq (jp c) (iY c a)),I c.e_]):=by
 obtain⟨_,_,q,rfl⟩:=alI ⟨[],[],0,[]⟩ c a ok (Xc ok D e);refine bN.qx (L:=LC) q O (KR D) (KQ ok D) ?_ ?_
 .simp only[dE,iF,Gi (ut ok) (Ib D)];rfl
 .simp[au,aA,lV (ut ok) (Ib D),I]
def akj(ok:cA c a)(D:dG a)(e:c.Fit):bN SC 12 [.agg (aM c.ep a.X a.Y a.C),.agg (bj c.doc a.p a.r a.n),a.W] (.tuple [.agg (aq (jp c) (iY c a)),I c.e_]):=by
 obtain⟨_,_,q,rfl⟩:=apD ⟨[],[],0,[]⟩ c a ok (Xc ok D e);refine bN.qx (L:=LC) q O (KR D) (KQ ok D) ?_ ?_
 .simp only[dE,iF,Gi (ut ok) (Ib D)];rfl
 .simp[au,aA,lV (ut ok) (Ib D),I]
def EJ(p):a_ (aB p)=aB p:=rfl
def Wd(ok:cA c a)(D:dG a)(A:F c.who<=1000000)(e:pV c.who)(p:Pr):bN SC 53 [.agg (aq c a),.agg (aB p)] (.v (.bool (fT c.who p))):=by obtain⟨_,_,q,rfl⟩:=ap7 ok D A e ⟨[],[],0,[]⟩ p;exact bN.qx (L:=LC) q O (by simp only[a_,al,oG D,EJ]) (by simp only[aA,au,lV ok D];rfl) O rfl
def We(ok:cA c a)(D:dG a)(A:F c.who<=1000000)(e:pV c.who)(p:Int × Int):bN SC 57 [.agg (aq c a),.agg (aZ p)] (.v (.bool (fU c.who p))):=by obtain⟨_,_,q,rfl⟩:=ap8 ok D A e ⟨[],[],0,[]⟩ p;exact bN.qx (L:=LC) q O (by simp only[a_,al,oG D];rfl) (by simp only[aA,au,lV ok D];rfl) O rfl
def aj9(ok:cA c a)(D:dG a)(A:F c.who<=1000000)(p:Pr):bN SC 50 [.agg (aq c a),.agg (aB p)] (.v (.bool (fT c.who p))):=by obtain⟨_,_,q,rfl⟩:=ams ok D A ⟨[],[],0,[]⟩ p;exact bN.qx (L:=LC) q O (by simp only[a_,al,oG D,EJ]) (by simp only[aA,au,lV ok D];rfl) O rfl
def akb(ok:cA c a)(D:dG a)(A:F c.who<=1000000)(p:Int × Int):bN SC 51 [.agg (aq c a),.agg (aZ p)] (.v (.bool (fU c.who p))):=by obtain⟨_,_,q,rfl⟩:=amK ok D A ⟨[],[],0,[]⟩ p;exact bN.qx (L:=LC) q O (by simp only[a_,al,oG D];rfl) (by simp only[aA,au,lV ok D];rfl) O rfl
def aj5(ok:cA c a)(D:dG a):∃b,(b=V->F c.rows<=80/\F c.ac<=80/\F c.ai<=80/\F c.doc.pa<=20/\F c.doc.rv<=20/\F c.doc.nd<=20/\F c.who<=80)/\bN SC 9 [.agg (aM c.ep a.X a.Y a.C),.agg (bj c.doc a.p a.r a.n),a.W] (.v (.bool b)):=by obtain⟨_,_,q,b,rfl,e⟩:=agG ⟨[],[],0,[]⟩ ok D;exact⟨b,e,bN.qx (L:=LC) q O (KR D) (KQ ok D) O O⟩
end
def anQ:Tryz.f179.results.toList=[.tmp 2]:=by kernel_rfl
def OO:Tryz.f115.results.toList=[.tmp 4]:=by kernel_rfl
def an0:Tryz.f55.results.toList=[.tmp 2]:=by kernel_rfl
def ID:Tryz.f114.results.toList=[.tmp 5]:=by kernel_rfl
def vV:Tryz.f113.results.toList=[.tmp 6,.tmp 7]:=by kernel_rfl
def WY(n:Int)(h:Heap):SC.call 179 [.v (.int .i64 n)] h=J (.ret (.v (.bool ah)),h):=by
 have e:decide (n=n)=V:=by simp
 refine cr O Tryz.func179 O ?_;exact iL @anQ
def wN(a b:Int):Int:=if a<b then -1 else if b<a then 1 else 0
def SV(a b:Int)(h:Heap):SC.call 115 [.v (.int .i64 a),.v (.int .i64 b)] h=J (.ret (.v (.int .i64 (wN a b))),h):=by
 have e:=WY a h;have f:=WY b h;unfold wN;by_cases h1:a<b
 .rw[av h1];have d1:decide (a<b)=V:=bQ h1;refine cr O Q_ O ?_;exact iL @OO
 .rw[aL h1];have d1:decide (a<b)=ah:=b7 h1;by_cases h2:b<a
  .rw[av h2];have d2:decide (a>b)=V:=bQ h2;refine cr O Q_ O ?_;exact iL @OO
  .rw[aL h2];have d2:decide (a>b)=ah:=b7 h2;refine cr O Q_ O ?_;exact iL @OO
def Ih(p:Pr)(h:Heap):SC.call 55 [.agg (aB p)] h=J (.ret (.v (.int .i64 p.aO)),h.push (aB p)):=by
 have e:=rg p;have L:=Er (aK h (aB p));have i:=Gu;generalize aB p=f at *
 unfold I at *
 refine cr O Tryz.func55 O ?_;exact dV @an0 @bg
def Ry:fH aa 98=J ah:=by kernel_rfl
def Wh(p q:Pr)(i:Nat)(h:Heap)(A:h.boxes[i]?=J [.func (.func 55) [] []]):∃h',SC.call 114 [.agg (aB p),.agg (aB q),.ptr (.box i) 0] h=J (.ret (.v (.int .i64 (wN p.aO q.aO))),h')/\Ext h h':=by
 have bp:=rg p;have bq:=rg q;obtain⟨e,f⟩:∃e,(h.push (aB p)).push (aB q)=e:=⟨_,O⟩;have j:Ext h e:=by rw[<-f];exact(Ext.push _ _).trans (.push _ _)
 have D:e.boxes[h.boxes.length]?=J (aB p):=by rw[<-f];exact aN (aK _ _)
 have o:e.boxes[(h.push (aB p)).boxes.length]?=J (aB q):=by rw[<-f];exact aK _ _
 have u:=j.box _ _ A;have L0:=jZ D;have L1:=jZ o;have L1':=jZ (aN (cs:=aB p) o);have F0:aD aa Gt e 98 (.ptr (.box i) 0)=J (.func (.func 55) [] []):=by rw[fm Ry u];rfl
 have F1:aD aa Gt (e.push (aB p)) 98 (.ptr (.box i) 0)=J (.func (.func 55) [] []):=by rw[fm Ry (aN u)];rfl
 have k1:=Ih p e;have k2:=Ih q (e.push (aB p));have k3:=SV p.aO q.aO ((e.push (aB p)).push (aB q));have x:=(j.trans (.push e (aB p))).trans (.push _ (aB q));have s1:cE (.agg (aB q)) (.agg (aB q))=V:=by simp[cE,fV,gF,aB]
 have s2:cE (.func (.func 55) [] []) (.func (.func 55) [] [])=V:=rfl;clear A D o u j;generalize aB p=z0 at *
 generalize aB q=E at *
 refine gI O Tryz.func114 O ?_;refine cK @ID @bg @f ?_;refine iG [(2,3),(2,4)] jG bD (λz B=>?_) ?_
 .simp only[gU,qJ,or_false]at B;rcases B with rfl|rfl
  .refine kj (x:=.ptr (.box i) 0) (v:=.func (.func 55) [] []) bD O O O bD (s2) ?_ ?_<;>(simp only[dw,cX];exact dV @ID @and_self)
  .refine kj (x:=.ptr (.box (F (h.push z0).boxes)) 0) (v:=.agg E) bD O O O bD (s1) ?_ ?_<;>(simp only[dw,cX];exact dV @ID @and_self)
 refine bh @ID ?_;exact⟨_,O,x⟩
def SW(a b):decide (wN a b<0)=decide (a<b):=by
 unfold wN;by_cases h:a<b
 .rw[av h];simp[h]
 .rw[aL h];split<;>simp[h]
def SX(a b):decide (wN a b=0)=decide (a=b):=by
 unfold wN;by_cases h:a<b
 .rw[av h];simp;omega
 .rw[aL h];split<;>simp<;>omega
def FJ{α:Type}(k:α->Int)(l:List α):Prop:=∀(e f:Nat) (x y:α),l[e]?=J x->l[f]?=J y->e<f->k x<k y
def Y8{α}{k}{l:List α}{n}{lo}(h1:lo<=F l)(h2:∀j y,j<lo->l[j]?=J y->k y<n)(e:∀j y,lo<=j->l[j]?=J y->n<=k y):ir k n l=lo:=acY h1 h2 λy E=>by have:=e lo y (aV _) E;omega
def nB{α:Type}(k:α->Int)(n:Int)(l:List α):Bool:=(jv k n l).isSome
def arF(h:Heap)(k:Tok)(s:Nat)(l:List Pr)(p:Pr)(B:Nat)(hb:h.boxes[B]?=J [.func (.func 55) [] []])(hs:l≠[]->s=4)(U0:FJ Pr.aO l)(hl:F l<=1000000):
 ∃r h',SC.call 113 [.list k s (bH l),.agg (aB p),.func (.func 114) [] [.ptr (.box B) 0]] h=J (r,h')/\r=.ret (.tuple [.v (.int .i64 (ir Pr.aO p.aO l:Nat)),.v (.bool (nB Pr.aO p.aO l))])/\Ext h h':=by
 have kk:=ae.mk (aj hs U0);clear hs U0;have u32:=lP;have z46:=qA;have bp:=rg p;have eH:F (bH l)=F l:=by unfold bH;rw[br]
 have kx0:=ae.mk (Ext.push h (aB p));have kb0:=ae.mk (aN (cs:=aB p) hb);have kp0:=ae.mk (aK h (aB p));clear hb;refine bL O Tryz.func113 O ?_;refine bG @vV @bg ?_;refine bC.gen λD o hY eu dn=>?_;have f0:D.get 0=.list k s (bH l):=by rw[o];exact gS
 have f2:D.get 2=.func (.func 114) [] [.ptr (.box B) 0]:=by rw[o];exact gS
 have f4:D.get 4=.ptr (.box (F h.boxes)) 0:=by rw[o];exact gS
 have f8:D.get 8=.v (.int .i64 (F l:Nat)):=by rw[o];simp only[gW,reduceIte,aH,aC,eH]
 have f9:D.get 9=.v (.int .i64 (0:Nat)):=by rw[o];exact gR
 have f10:D.get 10=.v (.int .i64 (F l:Nat)):=by rw[o];simp only[gW,reduceIte,aH,aC,eH]
 have fd:D.defers=[]:=by rw[hY];exact gS
 clear o hY eu dn;refine b_ (λm z0 H=>∃e f:Nat,e<=f/\f<=F l/\m=f-e/\ae ((∀j y,j<e->l[j]?=J y->y.aO<p.aO)/\∀j y,f<=j->l[j]?=J y->p.aO<=y.aO)/\z0.get 0=.list k s (bH l)/\z0.get 2=.func (.func 114) [] [.ptr (.box B) 0]/\z0.get 4=.ptr (.box (F h.boxes)) 0/\z0.get 8=.v (.int .i64 (F l:Nat))/\z0.get 9=.v (.int .i64 (e:Nat))/\z0.get 10=.v (.int .i64 (f:Nat))/\z0.defers=[]/\ae (Ext h H)/\ae (H.boxes[B]?=J [.func (.func 55) [] []])/\ae (H.boxes[h.boxes.length]?=J (aB p))) ?_ (F l) _ _ ?_;rotate_left 1
 .exact⟨0,l.length,bY _,aV _,O,⟨λj y hj=>absurd hj (Nat.not_lt_zero _),λj y h1 h2=>by have:=(aT.1 h2).1;omega⟩,f0,f2,f4,f8,f9,f10,fd,kx0,kb0,kp0⟩
 clear f0 f2 f4 f8 f9 f10 fd kx0 kb0 kp0;rintro m z0 H ⟨e,f,h1,h2,rfl,kI,g0,g2,g4,g8,g9,g10,hd,kx,kb,kp⟩;have lp:=jZ kp.out;by_cases di:e<f
 .have ev:s=4:=kk.out.1 (by intro q;rw[q,f_]at h2;omega);subst ev;obtain⟨i,v⟩:∃i:Nat,(e+f)/2=i:=⟨_,O⟩;obtain⟨y,E⟩:∃y,l[i]?=J y:=⟨_,aP M⟩;have ld:=qt (H:=H) (s:=4) E;obtain⟨H2,ls,x2⟩:=Wh y p B H kb.out;have fO:(e:Int)<(f:Int):=by omega
  have xc:(e:Int)+(f:Int)=((e+f:Nat):Int):=by omega
  have Bh:IntKind.u64.wrap ((e+f:Nat):Int)=((e+f:Nat):Int):=wrap_u64 M;have oM:IntKind.i64.wrap (((e+f)/2:Nat):Int)=((i:Nat):Int):=by rw[v];exact jm M M
  have Va:(i:Int)<(F l:Int):=by omega
  have cn:=SW y.aO p.aO;have kx2:=ae.mk (kx.out.trans x2);have kb2:=ae.mk (x2.box _ _ kb.out);have kp2:=ae.mk (x2.box _ _ kp.out);have khy:=ae.mk E;clear E x2;by_cases hc:y.aO<p.aO
  .have kI2:ae ((∀j y,j<i+1->l[j]?=J y->y.aO<p.aO)/\∀j y,f<=j->l[j]?=J y->p.aO<=y.aO):=⟨λj w hj A=>by
    rcases dp j i with q|q
    .exact Int.lt_trans (kk.out.2 j i w y A khy.out q) hc
    .have:j=i:=(by omega);subst this;rw[khy.out]at A;injection A with A;rw[<-A];exact hc,kI.out.2⟩
   rw[bQ hc]at cn;have khm:=ae.mk v;clear hc v;refine bA @vV @ey.{0} @dO.{0} (aj @aU (aj @mC (aj @tL @uI))) ?_;refine du jG bD ?_;refine bA @vV @ey.{0} @dO.{0} (aj @aU (aj @mC (aj @tL @uI))) ?_;have:=khm.out;exact⟨f-(i+1),by omega,i+1,f,by omega,h2,O,kI2,by simp,by first|exact kx2|trivial,by first|exact kb2|trivial,by first|exact kp2|trivial⟩
  .have kI2:ae ((∀j y,j<e->l[j]?=J y->y.aO<p.aO)/\∀j y,i<=j->l[j]?=J y->p.aO<=y.aO):=⟨kI.out.1,λj w hj A=>by
    rcases dp i j with q|q
    .have:=kk.out.2 i j y w khy.out A q;omega
    .have:j=i:=(by omega);subst this;rw[khy.out]at A;injection A with A;rw[<-A];omega⟩
   rw[b7 hc]at cn;have khm:=ae.mk v;clear hc v;refine bA @vV @ey.{0} @dO.{0} (aj @aU (aj @mC (aj @tL @uI))) ?_;refine du jG bD ?_;refine bA @vV @ey.{0} @dO.{0} (aj @aU (aj @mC (aj @tL @uI))) ?_;have:=khm.out;exact⟨i-e,by omega,e,i,by omega,by omega,O,kI2,by simp,by first|exact kx2|trivial,by first|exact kb2|trivial,by first|exact kp2|trivial⟩
 .have iE:e=f:=by omega
  subst iE;have u:=Y8 h2 kI.out.1 kI.out.2;by_cases jH:e<F l
  .have ev:s=4:=kk.out.1 (by intro q;rw[q,f_]at jH;omega);subst ev;obtain⟨y,E⟩:∃y,l[e]?=J y:=⟨_,aP jH⟩;have ld:=qt (H:=H) (s:=4) E;obtain⟨H2,ls,x2⟩:=Wh y p B H kb.out;have fO:(e:Int)<(F l:Int):=(by omega);have DJ:decide ((e:Int)<(F l:Int))=V:=(by simp[jH]);have cz:=SX y.aO p.aO;have hf:nB Pr.aO p.aO l=decide (y.aO=p.aO):=(by unfold nB jv;rw[u,E];simp only;split<;>simp[*]);have kf:=ae.mk hf;have ka:=ae.mk u;have kx2:=ae.mk (kx.out.trans x2);clear hf u E x2;refine bA @vV @ey.{0} @dO.{0} @aU ?_;refine du jG bD ?_;refine bA @vV @ey.{0} @dO.{0} @aU ?_;exact⟨_,_,O,by rw[kf.out,ka.out],kx2.out⟩
  .have hf:nB Pr.aO p.aO l=ah:=(by unfold nB jv;rw[u,uS M];rfl);have DJ:decide ((e:Int)<(F l:Int))=ah:=(by simp;omega);have kf:=ae.mk hf;have ka:=ae.mk u;clear hf u;refine bA @vV @ey.{0} @dO.{0} @aU ?_;refine du jG bD ?_;refine bA @vV @ey.{0} @dO.{0} @aU ?_;exact⟨_,_,O,by rw[kf.out,ka.out],kx.out⟩
def wU(d)(a b):cV aa (Op.equalIn (d+1) 3 (.int .i64 a) (.int .i64 b))=J (a==b):=by unfold Op.equalIn;rw[gt,BS jF,iR];simp[cV];rfl
def xx{α}{P}(a):cV P (pure a:Sem α)=J a:=rfl
def lF(p:Pr):Array aG:=#[.int .i64 p.aO,.int .i64 p.no,.int .i64 p.d,.int .i64 p.e]
def Tp(d)(p q):cV aa (Op.equalIn (d+2) 46 (.agg (lF p)) (.agg (lF q)))=J (decide (p=q)):=by
 have h1:∀p,cV aa (part 3 (lF p) 0)=J (.int .i64 p.aO):=λp=>by kernel_rfl
 have h2:∀p,cV aa (part 3 (lF p) 1)=J (.int .i64 p.no):=λp=>by kernel_rfl
 have f:∀p,cV aa (part 3 (lF p) 2)=J (.int .i64 p.d):=λp=>by kernel_rfl
 have i:∀p,cV aa (part 3 (lF p) 3)=J (.int .i64 p.e):=λp=>by kernel_rfl
 have j:aa.stoodInHeld 46=ah:=by kernel_rfl
 have hp:cV aa program=J aa:=rfl;have A:(p=q)↔(p.aO=q.aO/\p.no=q.no/\p.d=q.d/\p.e=q.e):=by
  constructor
  .intro z0;subst z0;exact⟨O,O,O,O⟩
  .obtain⟨a,b,c,d⟩:=p;obtain⟨D,E,c',d'⟩:=q;rintro⟨rfl,rfl,rfl,rfl⟩;rfl
 have B:decide (p=q)=(decide (p.aO=q.aO)&&decide (p.no=q.no)&&decide (p.d=q.d)&&decide (p.e=q.e)):=by rw[Bool.eq_iff_iff];simp[A,and_assoc]
 rw[B];unfold Op.equalIn;rw[gt,BS Tryz.underlying46,iR];by_cases e:p.aO=q.aO
 .by_cases o:p.no=q.no
  .by_cases u:p.d=q.d
   .by_cases v:p.e=q.e
    .simp[gt,xx,hp,j,h1,h2,f,i,wU,e,o,u,v]
    .simp[gt,xx,hp,j,h1,h2,f,i,wU,e,o,u,v]
   .simp[gt,xx,hp,j,h1,h2,f,i,wU,e,o,u]
  .simp[gt,xx,hp,j,h1,h2,f,i,wU,e,o]
 .simp[gt,xx,hp,j,h1,h2,f,i,wU,e]
def agt{x y}(p q):cy aa .eql 46 x y (.agg (aB p)) (.agg (aB q))=J (.v (.bool (decide (p=q)))):=by
 have e:cV aa (eqGuard .eql 46 x y (.agg (lF p)) (.agg (lF q)))=J ():=by kernel_rfl
 show(cV aa (do eqGuard .eql 46 x y (.agg (lF p)) (.agg (lF q));binOp .eql 46 (.agg (lF p)) (.agg (lF q)))).bind jf=_;rw[gt,e,iR];show(cV aa (do pure (.bool (<-Op.equal 46 (.agg (lF p)) (.agg (lF q)))))).bind jf=_;rw[gt];have:=Tp 9998 p q;unfold Op.equal Op.maxDepth;rw[this];rfl
def W_{x y}(p q):cy aa .neq 46 x y (.agg (aB p)) (.agg (aB q))=J (.v (.bool (!decide (p=q)))):=by
 have e:cV aa (eqGuard .neq 46 x y (.agg (lF p)) (.agg (lF q)))=J ():=by kernel_rfl
 show(cV aa (do eqGuard .neq 46 x y (.agg (lF p)) (.agg (lF q));binOp .neq 46 (.agg (lF p)) (.agg (lF q)))).bind jf=_;rw[gt,e,iR];show(cV aa (do pure (.bool (!(<-Op.equal 46 (.agg (lF p)) (.agg (lF q))))))).bind jf=_;rw[gt];have:=Tp 9998 p q;unfold Op.equal Op.maxDepth;rw[this];rfl
def OP:Tryz.f117.results.toList=[.tmp 2]:=by kernel_rfl
def uy:Tryz.f54.results.toList=[.tmp 6]:=by kernel_rfl
def adP:fy aa 32 0 []=J (.list .tight 4 []):=by kernel_rfl
def atG{h}{s}{l}(o:l≠[])(j:F l<=1000000)(k)(u:s=4):ml aa h #[32,32] (.list .tight 4 []) (.list k s (bH l))=J (.arr (F h.boxes) 0 (F l) (F l),h.push (bH l).flatten):=by
 subst u;obtain⟨A,h1,f,v,i⟩:=VO;have B:=jt j v;have e:F (bH l)=F l:=by unfold bH;rw[br]
 have:=zS (P:=aa) (t0:=32) (t1:=32) (h:=h) (k:=.tight) (sz:=4) (es:=[]) (new:=bH l) (i:=A) (x:=.list k 4 (bH l)) lP lP h1 M (by rw[f];exact i) (by intro q;apply o;unfold bH at q;simpa using q) (by simp[e];omega) (by simp[e];omega) (.inl f.symm) (.inr O) (by rw[f];exact EC);simpa [e] using this
def ae3(h:Heap)(k:Tok)(s:Nat)(l:List Pr)(D:l≠[]->s=4)(j:k=.nil->l=[])(B:F l<=1000000):∃r h',SC.call 117 [.list k s (bH l)] h=J (r,h')/\((l=[]/\h'=h/\∃kk s0,r=.ret (.list kk s0 [])/\(kk=.nil∨kk=.tight))∨(l≠[]/\r=.ret (.arr (F h.boxes) 0 (F l) (F l))/\h'=h.push (bH l).flatten)):=by
 have u32:=lP;have b:=adP;by_cases e:l=[]
 .subst e;clear j;have z0:bH ([]:List Pr)=[]:=rfl;rw[z0];by_cases i:k=.nil
  .subst i;refine bL O Q' O ?_;have v:∀x y,cy aa .eql 32 x y (.list .nil s []) (.list .nil 0 [])=J (.v (.bool V)):=λ_ _=>(by kernel_rfl);refine bh @OP ?_;exact⟨_,_,O,.inl ⟨by first|rfl|trivial,O,_,_,O,.inl O⟩⟩
  .have v:∀x y,cy aa .eql 32 x y (.list k s []) (.list .nil 0 [])=J (.v (.bool ah)):=λ_ _=>by cases k<;>first|exact absurd O i|kernel_rfl
   have ta:ml aa h #[32,32] (.list .tight 4 []) (.list k s [])=J (.list .tight 4 [],h):=(by obtain⟨z1,h1,q2,q3,h4⟩:=VO;unfold ml;simp only[List.getElem?_toArray,List.getElem?_cons_zero,jE,iR,u32,h1,jL,rowsOf];simp[q2,h4]);refine bL O Q' O ?_;refine bh @OP ?_;exact⟨_,_,O,.inl ⟨by first|rfl|trivial,O,_,_,O,.inr O⟩⟩
 .have E:=D e;subst E;have u:bH l≠[]:=by intro q;apply e;unfold bH at q;simpa using q
  have ta:=atG (h:=h) (s:=4) e B k O;obtain⟨o,R,A⟩:∃o R,bH l=o::R:=by
   cases hq:bH l with|nil=>exact absurd hq u|cons o R=>exact⟨o,R,O⟩
  by_cases i:k=.nil
  .exact absurd (j i) e
  .have v:∀x y,cy aa .eql 32 x y (.list k 4 (bH l)) (.list .nil 0 [])=J (.v (.bool ah)):=λ_ _=>by rw[A];cases k<;>first|exact absurd O i|kernel_rfl
   have f:=ae.mk e;clear u A D B e j;generalize bH l=P at *
   refine bL O Q' O ?_;refine bh @OP ?_;exact⟨_,_,O,.inr ⟨by first|exact f.out|trivial,O,O⟩⟩
def ajy{h}{b n i}{cs row}{k}(e:h.boxes[b]?=J cs)(j:0<n)(f:n<1000000)(hi:i<=n)(hc:F cs=n*4):SC.call 116 [.arr b 0 n n,.v (.int .i64 (i:Nat)),.list k 4 [row]] h=J (.ret (.arr (F h.boxes) 0 (n+1) (n+1)),(h.put b []).push (cs.take (i*4)++row++cs.drop (i*4))):=by rw[rD];unfold k_ me mb ul;rw[aL aY];simp only[if_true];unfold xu;simp only[e];rw[av ⟨aX,aX,j,f,by omega,by omega,aX,hc⟩,fD];rfl
def ajz{h}{kk k}{s0}{row}(e:kk=.nil∨kk=.tight):SC.call 116 [.list kk s0 [],.v (.int .i64 0),.list k 4 [row]] h=J (.ret (.arr (F h.boxes) 0 1 1),h.push row):=by rw[rD];unfold k_ me mb ul;rw[aL aY];simp only[if_true];unfold xu;simp only;rw[av ⟨e,aX⟩];rfl
def Oo(l):F (bH l).flatten=F l*4:=by
 induction l with
 |nil=>rfl|cons p l e=>show(F (aB p++(bH l).flatten))=_;rw[ck,e,ef,js];show 4+_=_;omega
def XE:∀(l:List Pr) (i:Nat),(bH l).flatten.take (i*4)=(bH (l.take i)).flatten/\(bH l).flatten.drop (i*4)=(bH (l.drop i)).flatten
 | [],i=>by simp[bH]
 |p::l,0=>by simp[bH]
 |p::l,i+1=>by obtain⟨h1,h2⟩:=XE l i;have f:(bH (p::l)).flatten=aB p++(bH l).flatten:=rfl;have e:F (aB p)=4:=rfl;rw[f,show(i+1)*4=F (aB p)+i*4 by rw[e];omega,List.take_length_add_append,List.drop_length_add_append,h1,h2];exact⟨O,O⟩
def amx(l)(p)(i):(bH l).flatten.take (i*4)++aB p++(bH l).flatten.drop (i*4)=(bH (l.take i++p::l.drop i)).flatten:=by obtain⟨h1,h2⟩:=XE l i;rw[h1,h2];unfold bH;rw[List.map_append,eI,List.flatten_append,jP,iO]
def adO(p):fy aa 32 1 [(0,.agg (aB p))]=J (.list .tight 4 [aB p]):=by kernel_rfl
def TM(g:Nat):(U.func (.func g) [] []).bF=J [.func (.func g) [] []]:=rfl
def Kv(h h':Heap)(x:U)(l:List Pr)(p:Pr)(r:dR):Prop:=
 match jv Pr.aO p.aO l with
 |some y=>if y=p then r=.ret x else r=.panic (lI 151)
 |none=>∃b,r=.ret (.arr b 0 (F l+1) (F l+1))/\F h.boxes<=b/\h'.boxes[b]?=J (bH (jd Pr.aO p l)).flatten
def anz(h:Heap)(k:Tok)(s:Nat)(l:List Pr)(p:Pr)(A:l≠[]->s=4)(B:k=.nil->l=[])(o:FJ Pr.aO l)(hl:F l<1000000):
 ∃r h',SC.call 54 [.list k s (bH l),.agg (aB p),.func (.func 55) [] []] h=J (r,h')/\Ext h h'/\Kv h h' (.list k s (bH l)) l p r:=by
 have bp:=rg p;have bf:=TM 55;obtain⟨D,e⟩:∃D,(h.push (aB p)).push [.func (.func 55) [] []]=D:=⟨_,O⟩;have e2:Ext h D:=by rw[<-e];exact(Ext.push _ _).trans (.push _ _)
 have q0:D.boxes[h.boxes.length]?=J (aB p):=by rw[<-e];exact aN (aK _ _)
 have u:D.boxes[(h.push (aB p)).boxes.length]?=J [.func (.func 55) [] []]:=by rw[<-e];exact aK _ _
 have n1:=bE h (aB p);rw[n1]at u;obtain⟨_,f,cs,rfl,x3⟩:=arF D k s l p (F h.boxes+1) u A o M;have L2:=jZ q0;have L3:=jZ (x3.box _ _ q0);have sB:cE (.agg (aB p)) (.agg (aB p))=V:=by simp[cE,fV,gF,aB]
 have u32:=lP;have z46:=qA;have eH:F (bH l)=F l:=by unfold bH;rw[br]
 have kx:=ae.mk (e2.trans x3);have nX:=BB (pr:=me) O;have uf:=BA (pr:=me) O;unfold Kv;cases j:jv Pr.aO p.aO l with
 |some y=>
  have hi:nB Pr.aO p.aO l=V:=by unfold nB;rw[j];rfl
  rw[hi]at cs;have E:l[ir Pr.aO p.aO l]?=J y:=by
   unfold jv at j;split at j
   .split at j
    .rename_i z1 _;rw[z1];exact j
    .cases j
   .cases j
  have di:=(aT.1 E).1;have Ng:=A (by intro q;rw[q]at di;simp at di);subst Ng;have ld:=qt (H:=f) (s:=4) E;have eq:=λx z=>agt (x:=x) (y:=z) y p;generalize ir Pr.aO p.aO l=at' at *
  have fO:(at':Int)<(F l:Int):=by omega
  clear j hi E A B o q0 u e2 x3;by_cases hp:y=p
  .rw[bQ hp]at eq;have khp:=ae.mk hp;clear hp;refine bL O KC O ?_;refine bA @uy @bg @e @aU ?_;refine du jG bD ?_;refine bA @uy @bg @e @aU ?_;exact⟨_,_,O,kx.out,by rw[av khp.out]⟩
  .rw[b7 hp]at eq;have khp:=ae.mk hp;clear hp;refine bL O KC O ?_;refine bA @uy @bg @e @aU ?_;refine YV (n:=6) O bD bD bD ?_;simp only[dw,cX];refine bA @uy @bg @e (aj @aU (aj @List.drop_succ_cons.{0} (aj @gG.{0} (aj @Wk (aj @ZU @ZV))))) ?_;exact⟨_,_,O,kx.out,by rw[aL khp.out]⟩
 |none=>
  have hi:nB Pr.aO p.aO l=ah:=by unfold nB;rw[j];rfl
  rw[hi]at cs;have rO:=KT (k:=Pr.aO) p.aO l;have bl:=adO p;obtain⟨_,H4,cc,⟨hn,rfl,kk,s0,rfl,yS⟩|⟨hn,rfl,rfl⟩⟩:=ae3 f k s l A B M
  .subst hn;have DD:ir Pr.aO p.aO ([]:List Pr)=0:=rfl;rw[DD]at cs;have ci:SC.call 116 [.list kk s0 [],.v (.int .i64 ((0:Nat):Int)),.list .tight 4 [aB p]] H4=_:=ajz (h:=H4) (k:=.tight) (s0:=s0) (row:=aB p) yS;have kb:ae (F h.boxes<=F H4.boxes):=⟨by have:=(aT.1 (x3.box _ _ u)).1;omega⟩;have kl:=ae.mk (aK H4 (aB p));have kx2:=ae.mk (kx.out.trans (.push H4 (aB p)));clear j hi A B o q0 u e2 x3 rO nX uf;have el:bH ([]:List Pr)=[]:=rfl;simp only[el]at cs cc ⊢;generalize hB:aB p=z0 at *
   refine bL O KC O ?_;refine cK @uy @bg @e ?_;refine iG [(1,3)] jG bD (λz hz=>?_) ?_
   .simp only[ig]at hz;subst hz;refine kj (x:=.ptr (.box (F h.boxes)) 0) (v:=.agg z0) bD O O O bD (sB) ?_ ?_<;>(simp only[dw,cX];exact dV @uy @and_self)
   refine cK @uy @bg @e ?_;exact⟨_,_,O,kx2.out,_,O,kb.out,by rw[<-hB]at kl;rw[<-hB];exact kl.out⟩
  .have Ng:=A hn;subst Ng;have vm:=aK f (bH l).flatten;have ci:=ajy (h:=f.push (bH l).flatten) (b:=f.boxes.length) (n:=l.length) (i:=ir Pr.aO p.aO l) (row:=aB p) (k:=.tight) vm (by cases l with|nil=>exact absurd O hn|cons _ _=>simp) hl rO (Oo l);rw[amx]at ci;have ei:l.take (ir Pr.aO p.aO l)++p::l.drop (ir Pr.aO p.aO l)=jd Pr.aO p l:=rfl;rw[ei]at ci;have L4:=jZ (aN (cs:=(bH l).flatten) (x3.box _ _ q0));have kb:ae (F h.boxes<=F (f.push (bH l).flatten).boxes):=⟨by have:=(aT.1 (x3.box _ _ u)).1;rw[bE];omega⟩;have kl:ae ((((f.push (bH l).flatten).put (F f.boxes) []).push (bH (jd Pr.aO p l)).flatten).boxes[(f.push (bH l).flatten).boxes.length]?=J (bH (jd Pr.aO p l)).flatten):=⟨by
    have:=aK ((f.push (bH l).flatten).put (F f.boxes) []) (bH (jd Pr.aO p l)).flatten
    rwa [je]at this⟩
   have kx2:ae (Ext h (((f.push (bH l).flatten).put (F f.boxes) []).push (bH (jd Pr.aO p l)).flatten)):=⟨((kx.out.trans (.push f _)).fI (by have:=(aT.1 (x3.box _ _ u)).1;omega) []).trans (.push _ _)⟩;clear j hi A B o q0 u e2 x3 rO nX uf vm ei;generalize hB:aB p=z0 at *
   generalize ir Pr.aO p.aO l=at' at *
   generalize (bH l).flatten=PF at *
   generalize (bH (jd Pr.aO p l)).flatten=IF at *
   refine bL O KC O ?_;refine cK @uy @bg @e ?_;refine iG [(1,3)] jG bD (λz hz=>?_) ?_
   .simp only[ig]at hz;subst hz;refine kj (x:=.ptr (.box (F h.boxes)) 0) (v:=.agg z0) bD O O O bD (sB) ?_ ?_<;>(simp only[dw,cX];exact dV @uy @and_self)
   refine cK @uy @bg @e ?_;exact⟨_,_,O,kx2.out,_,O,kb.out,kl.out⟩
end Go.Proofs.YtcbhpkjbiehcpaaGreatDoor
end
