/-
  The engine, part 54: as part 48, where what is answered lies in boxes of rows of more than one cell; and functions of the library taken by contracts beside calm ones.
-/
import Derived.Test.YtcbhpkjbiehcpaaGreatDoorRE
import Derived.Test.YtcbhpkjbiehcpaaGreatDoorRC
import Derived.Test.YtcbhpkjbiehcpaaGreatDoorRD
import Derived.WalkKit
import Derived.Shelf.Spec.SlicesInsert
import Derived.Lib.AppendZerosOnto
import Derived.Laws.Externs
import Derived.Test.YtcbhpkjbiehcpaaGreatDoorChecked
import Derived.Test.YtcbhpkjbiehcpaaGreatDoorRB
import Derived.KernelRfl
open True renaming intro->aX
open Go renaming FuncId->aQ,Program->bj,World->bO,Value->aG,TypeId->aC
open Go.Proofs.Tryz renaming prog->aa,func143->aa1,func170->aa4,underlying23->cT,func184->aa5,underlying116->kY,func28->abf,func42->abh,func36->abg,underlying20->abo,func85->abk,underlying32->kZ,checked->wg,func116->J9,ntmps116->QH,underlying3->mD,underlying33->mZ,func120->J_,ntmps120->QI,func115->Qx,func117->Qy,func54->J'
open Option renaming some->J,none->af,map_some->fk,some.injEq->dt,bind_some->iH
open List renaming length->F,mem_cons->gL,length_cons->dY,length_append->cg,length_take->cR,length_drop->ev,mem_cons_of_mem->gj,filter_cons->sF,mem_cons_self->gx,mem_of_getElem?->cU,contains_iff_mem->JC,drop_eq_getElem_cons->ss,drop_length->Fl,all_eq_true->eF,length_map->br,all_append->sn,drop_zero->gw,take_length->fB,drop_of_length_le->mW,getElem?_eq_some_iff->aS,getElem?_eq_getElem->aN,ext_getElem?->nV,getElem?_map->dW,getElem?_eq_none->uy,map_cons->eD,nil_append->dM,append_nil->ga,getElem?_take->mr,getElem?_drop->oL,cons_append->eu,take_of_length_le->fR,length_nil->fQ,drop_drop->pF,drop_left->Ci,getElem?_append_left->qn,getElem?_append_right->v_,mem_singleton->hY,take_succ_cons->dw,take_zero->cX,not_mem_nil->qp,append_assoc->iE,take_left'->qr,drop_left'->aae,take_take->Fs,mem_of_mem_drop->Fp,size_toArray->JM,flatten_cons->jA
open Bool renaming false->ai,true->V,and_eq_true->bm,true_and->mq,false_and->ut,and_true->ZG,true_eq_false->uu,false_eq_true->jo
open Nat renaming le_of_ble_eq_true->jq,le_refl->aV,zero_le->bV,le_trans->eS,reduceEqDiff->aJ,lt_or_ge->dp,add_mul->jh,mul_le_mul->ji,mul_one->jC,min_def->xB,mul_le_mul_right->ma
open And renaming intro->aj
open Prod renaming fst->dN,mk.injEq->cL
open Int renaming le_refl->Cd,toNat_natCast->fh
open Array renaming length_toList->hW,getElem?_eq_none->B7,size_append->B9,toList_append->vR,getElem?_push->Fa
set_option maxHeartbeats 64000000
set_option maxRecDepth 100000
set_option linter.unusedSimpArgs false
set_option linter.unusedVariables false
set_option linter.constructorNameAsVariable false
set_option linter.defProp false
section
namespace Go.Proofs.YtcbhpkjbiehcpaaGreatDoor
open Go.AE Go.NT
section
variable (R:Rec) (L:List aQ)
noncomputable def up:Rec:=whole aa Gt (lh R L)
def vW:Prop:=∀n h,R.call 97 [I n] h=J (.ret (.agg (cO n)),h)
def vY:Prop:=∀s h,R.call 99 [sv s] h=J (.ret (.agg (ar 2 0 s .nil 0 [])),h)
def Jm:Prop:=∀(e b:List UInt8) (k:Tok),F b<=1099511610000->F e<=1099511610000->∀h,R.call 241 [.v (.string (bs e)),.list k 1 (bI b)] h=J (.ret (I (pc (jQ e b):Nat)),h)
def vV:Prop:=∀(e:Vl) (r:List U),b8 e r->fg e<=16->F (cA e)<=1099511600000->∃t,∀h,R.call 100 [.agg r] h=J (.ret (.tuple [.list t 1 (bI (cA e)),.v (.int .i64 0)]),h)
def vX:Prop:=∀(l:List Vl) (rows:List (List U)),fN l rows->dk rows=rows->∀k:Tok,F rows<=1000000->∀h,R.call 96 [.list k 4 rows] h=J (.ret (.agg (ar 3 0 [] (bU k) 4 rows)),h)
def Jq(g:aQ):Prop:=∀x n h,R.call g [I x,I n] h=J (.ret (I (fb x n)),h)
def Jo(g:aQ):Prop:=∀x n h,R.call g [I x,I n] h=J (.ret (I (nI x n)),h)
def Jk(g:aQ):Prop:=∀x n h,R.call g [I x,I n] h=J (.ret (I (dx x n)),h)
def Jl(g:aQ):Prop:=∀x n h,R.call g [I x,I n] h=J (.ret (I (cS x n)),h)
def Cb(g:aQ):Prop:=∀x h,R.call g [I x] h=J (.ret (.v (.bool (bX x))),h)
def Jp:Prop:=∀p h,R.call 253 [.agg (aL p)] h=J (.ret (.v (.bool (alZ p))),h)
def Jn:Prop:=∀x l,PL x l->F l<=1000000->∃X,IL X (l.map Pr.aU)/\∀h,R.call 197 [x] h=J (.ret X,h)
def xr:Prop:=∀x y rows ac,RL x rows->IL y ac->F rows<=1000000->∀h,R.call 40 [.agg [x,y]] h=J (.ret (I (cG rows ac)),h)
def zE:Prop:=∀x y z rows ac who,RL x rows->IL y ac->IL z who->F rows<=1000000->F who<=1099511627776->
 (∃e,fm rows ac who=([],ai,e)/\∀h,R.call 44 [.agg [x,y],z] h=J (.ret (.tuple [.list .nil 0 [],.v (.bool ai),.v (.int .i64 e)]),h))∨
 ∃l,fm rows ac who=(l,V,0)/\F l=F rows/\∀h,R.call 44 [.agg [x,y],z] h=J (.ret (.tuple [.list .held 1 (ints l),.v (.bool V),.v (.int .i64 0)]),h)
def Fe:Prop:=∀x y z rows ac ah,RL x rows->IL y ac->IL z ah->F ah<=1000000->∀h,R.call 94 [.agg [x,y],z] h=J (.ret (.v (.bool (ah.all bX&&decide (F ah=cd rows)))),h)
def Ff:Prop:=∀x y rows ac,RL x rows->IL y ac->∃b,(b=V->F rows<=80/\F ac<=80)/\∀h,R.call 84 [.agg [x,y]] h=J (.ret (.v (.bool b)),h)
def xu:Prop:=∀(k:Tok) (l:List Int),F l<=1000->l≠[]->(∀n∈l,0<=n/\n<=4611686018427387903)->∀h,R.call 98 [.list k 1 (ints l)] h=J (.ret (.agg (ar 3 0 [] .held 4 (l.map cO))),h)
def Jr(g:aQ):Prop:=∀x y a b,IL x a->IL y b->F a<=1000000->F b<=1000000->∀h,R.call g [x,y] h=J (.ret (.v (.bool (decide (a=b)))),h)
end
section
variable {R:Rec} {L:List aQ}
def PL.fc{x}{l}(h:PL x l):PL (al x) l/\au 0 0 0 (al x)=V:=by
 obtain⟨k,s,rfl,f⟩:=h;have h1:∀l:List Pr,dk (bH l)=bH l:=λl=>by
  induction l with
  |nil=>rfl|cons p l e=>show aZ (aL p)::dk (bH l)=_;rw[e];rfl
 have h2:∀l:List Pr,e_ 0 0 0 (bH l)=V:=λl=>by
  induction l with
  |nil=>rfl|cons p l e=>show(aA 0 0 0 (aL p)&&e_ 0 0 0 (bH l))=V;rw[e];rfl
 rw[al,h1];exact⟨⟨bU k,s,O,f⟩,by rw[au,ef,h2];rfl⟩
def vW.up(e:L.contains 97=V)(c:vW R):vW (up R L):=λn=>bR e O O (c n _) O rfl
def vY.up(e:L.contains 99=V)(c:vY R):vY (up R L):=λs=>bR e O O (c s _) O rfl
def Jm.up(i:L.contains 241=V)(c:Jm R):Jm (up R L):=λe b k f ht=>
 bR (B:=[.v (.string (bs e)),.list (bU k) 1 (bI b)]) i (by rw[aZ,aZ,al.eq_1,pX];rfl) (by simp[aA,au,ef,i']) (c e b _ f ht _) O rfl
def vV.up(f:L.contains 100=V)(c:vV R):vV (up R L):=λo r j e i=>by obtain⟨h1,h2⟩:=b8.hold o r j;obtain⟨t,c⟩:=c o _ h1 e i;exact⟨bU t,bR (B:=[.agg (aZ r)]) f O (by simpa [aA,au] using h2) (c _) O (by simp[au,aA,ef,i'])⟩
def vX.up(i:L.contains 96=V)(c:vX R):vX (up R L):=λl rows e D k f=>by
 have j:b8 (.list l) (ar 3 0 [] k 4 rows):=.list l k 4 rows e.1 (λ_=>rfl) f e.2;obtain⟨h1,h2⟩:=b8.hold _ _ j;have o:aZ (ar 3 0 [] k 4 rows)=ar 3 0 [] (bU k) 4 (dk rows):=rfl;rw[o,D]at h1 h2;refine bR (B:=[.list (bU k) 4 rows]) i ?_ ?_ (c l rows e D (bU k) f _) ?_ ?_
 .simp only[aZ,al,D]
 .unfold ar at h2;simp only[aA,bm]at h2 ⊢;exact⟨h2.2.2.2.1,aX⟩
 .show U.agg [I 3,I 0,sv [],.list (bU (bU (bU k))) 4 rows]=_;rw[fc,fc];rfl
 .rw[au];exact h2
def Jq.up{g:aQ}(e:L.contains g=V)(c:Jq R g):Jq (up R L) g:=λx n=>bR e O O (c x n _) O rfl
def Jo.up{g:aQ}(e:L.contains g=V)(c:Jo R g):Jo (up R L) g:=λx n=>bR e O O (c x n _) O rfl
def Jk.up{g:aQ}(e:L.contains g=V)(c:Jk R g):Jk (up R L) g:=λx n=>bR e O O (c x n _) O rfl
def Jl.up{g:aQ}(e:L.contains g=V)(c:Jl R g):Jl (up R L) g:=λx n=>bR e O O (c x n _) O rfl
def Cb.up{g:aQ}(e:L.contains g=V)(c:Cb R g):Cb (up R L) g:=λx=>bR e O O (c x _) O rfl
def Jp.up(e:L.contains 253=V)(c:Jp R):Jp (up R L):=λp=>bR e O O (c p _) O rfl
def IL.aiM{x}{l}(hx:IL x l)(h):IL (dD h x) l/\au 0 0 0 (dD h x)=V:=by obtain⟨k,s,rfl,e⟩:=hx;refine⟨⟨bU k,s,O,e⟩,?_⟩;show au 0 0 0 (.list (bU k) s (ints l))=V;rw[au,ef,jj];rfl
def Jn.up(j:L.contains 197=V)(c:Jn R):Jn (up R L):=λx l hx o=>by obtain⟨h1,h2⟩:=hx.fc;obtain⟨X,i,c⟩:=c _ l h1 o;obtain⟨e,f⟩:=i.aiM ⟨[],[],0,[]⟩;exact⟨_,e,bR (B:=[al x]) j O (by simp[aA,h2]) (c _) O f⟩
def xr.up(i:L.contains 40=V)(c:xr R):xr (up R L):=λx y rows ac hx E j=>by obtain⟨h1,h2⟩:=hx.fc;obtain⟨e,f⟩:=E.hold;exact bR (B:=[.agg [al x,al y]]) i O (by simp[aA,au,h2,f]) (c _ _ rows ac h1 e j _) O rfl
def zE.up(j:L.contains 44=V)(c:zE R):zE (up R L):=λx y z rows ac who hx E hz D A=>by
 obtain⟨h1,h2⟩:=hx.fc;obtain⟨u,f⟩:=E.hold;obtain⟨v,i⟩:=hz.hold;rcases c _ _ _ rows ac who h1 u v D A with⟨z0,e,hc⟩|⟨l,e,o,hc⟩
 .exact .inl ⟨z0,e,bR (B:=[.agg [al x,al y],al z]) j O (by simp[aA,au,h2,f,i]) (hc _) O O⟩
 .exact .inr ⟨l,e,o,bR (B:=[.agg [al x,al y],al z]) j O (by simp[aA,au,h2,f,i]) (hc _) O (by simp[au,aA,jj,oJ])⟩
def Fe.up(o:L.contains 94=V)(c:Fe R):Fe (up R L):=λx y z rows ac ah hx E v u=>by obtain⟨h1,h2⟩:=hx.fc;obtain⟨e,f⟩:=E.hold;obtain⟨i,j⟩:=v.hold;exact bR (B:=[.agg [al x,al y],al z]) o O (by simp[aA,au,h2,f,j]) (c _ _ _ rows ac ah h1 e i u _) O rfl
def Ff.up(u:L.contains 84=V)(c:Ff R):Ff (up R L):=λx y rows ac hx E=>by obtain⟨e,f⟩:=hx.fc;obtain⟨i,j⟩:=E.hold;obtain⟨b,o,hc⟩:=c _ _ rows ac e i;exact⟨b,o,bR (B:=[.agg [al x,al y]]) u O (by simp[aA,au,f,j]) (hc _) O O⟩
def GT:∀l:List Int,dk (l.map cO)=l.map cO/\e_ 0 0 0 (l.map cO)=V
 | []=>⟨O,O⟩
 |n::l=>by
  obtain⟨h1,h2⟩:=GT l;refine⟨?_,?_⟩
  .show aZ (cO n)::dk (l.map cO)=_;rw[h1];rfl
  .show(aA 0 0 0 (cO n)&&e_ 0 0 0 (l.map cO))=V;rw[h2];rfl
def xu.up(f:L.contains 98=V)(c:xu R):xu (up R L):=λk l i j e=>
 bR (B:=[.list (bU k) 1 (ints l)]) f (by rw[aZ,aZ,al,rA]) (by simp[aA,au,ef,jj]) (c _ l i j e _) O (by simp only[ar,au,aA,(GT l).2];rfl)
def Jr.up{g:aQ}(o:L.contains g=V)(c:Jr R g):Jr (up R L) g:=λx y a b hx E i j=>by obtain⟨h1,h2⟩:=hx.hold;obtain⟨e,f⟩:=E.hold;exact bR (B:=[al x,al y]) o O (by simp[aA,h2,f]) (c _ _ a b h1 e i j _) O rfl
end
def ajd:vW W7:=vW.up O λn h=>XC n h
def as3:vY W7:=vY.up O λs h=>aqh s h
def afD:vV W7:=vV.up O λj r i e f=>anR i e f
def aks:vX W7:=vX.up O λl rows f D k e h=>by rw[aoV f D k e h]
def atB:Cb W7 111:=Cb.up O λx h=>X9 x h
def abu:zE W6:=λx y z rows ac who hx E hz D A=>by
 obtain⟨h1,h2⟩:=hx.fc;obtain⟨u,i⟩:=E.hold;obtain⟨v,j⟩:=hz.hold;obtain⟨r,h',hc,⟨z0,e,rfl⟩|⟨l,b,e,f,rfl,o⟩⟩:=abz ⟨[],[],0,[]⟩ O _ _ _ rows ac who h1 u v D A
 .exact .inl ⟨z0,e,bR (L:=L6) (B:=[.agg [al x,al y],al z]) O O (by simp[aA,au,h2,i,j]) hc O O⟩
 .refine .inr ⟨l,e,f,bR (L:=L6) (B:=[.agg [al x,al y],al z]) O O (by simp[aA,au,h2,i,j]) hc ?_ (by simp[au,aA,jj,oJ])⟩;rw[dD,ir,yK o f];rfl
def abv:zE W7:=zE.up O abu
def aem:xr W6:=xr.up O λx y rows ac hx E e h=>Xp x y rows ac hx E e h
def aen:xr W7:=xr.up O aem
def aeW:Fe W7:=λx y z rows ac ah hx E u o=>by obtain⟨h1,h2⟩:=hx.fc;obtain⟨e,f⟩:=E.hold;obtain⟨i,j⟩:=u.hold;obtain⟨r,v,c,-,rfl⟩:=aeX ⟨[],[],0,[]⟩ _ _ _ rows ac ah h1 e i o;exact bR (L:=L7) (B:=[.agg [al x,al y],al z]) O O (by simp[aA,au,h2,f,j]) c O rfl
def af7:Ff W7:=λx y rows ac hx E=>by obtain⟨e,f⟩:=hx.fc;obtain⟨i,j⟩:=E.hold;obtain⟨r,u,c,-,b,rfl,o⟩:=af6 ⟨[],[],0,[]⟩ _ _ rows ac e i;exact⟨b,o,bR (L:=L7) (B:=[.agg [al x,al y]]) O O (by simp[aA,au,f,j]) c O O⟩
def ajg:xu W7:=λk l f i e=>by obtain⟨r,j,c,n,rfl⟩:=ajf ⟨[],[],0,[]⟩ O (bU k) l f i e;exact bR (L:=L7) (B:=[.list (bU k) 1 (ints l)]) O (by rw[aZ,aZ,al,rA]) (by simp[aA,au,ef,jj]) c O (by simp only[ar,au,aA,(GT l).2];rfl)
def Ov:Tryz.f31.results.toList=[.tmp 6]:=by kernel_rfl
def On:Tryz.f41.results.toList=[.tmp 2]:=by kernel_rfl
def af5(h:Heap)(ep:Int)(X Y C T L:U)(rows:List (List Int))(ac ah:List Int)(text:List UInt8)(l:List Pr)(hx:RL X rows)(E:IL Y ac)(hc:IL C ah)(ht:BL T text)(hp:PL L l):
 ∃h' b,W7.call 31 [.agg (aF ep X Y C),T,L] h=J (.ret (.v (.bool b)),h')/\(b=V->F rows<=80/\F ac<=80/\F ah<=80/\F text<=70000/\F l<=80):=by
 obtain⟨b,A,c1⟩:=af7 X Y rows ac hx E;have bx:=mP (ep:=ep) hx E hc;have i:=aK h (aF ep X Y C);have l1:aD aa Gt (h.push (aF ep X Y C)) 25 (.ptr (.box (F h.boxes)) 1)=J (.agg [X,Y]):=by rw[fC zU Pe i (jq O)];rfl
 have l2:aD aa Gt (h.push (aF ep X Y C)) 23 (.ptr (.box (F h.boxes)) 3)=J C:=dE mE i O;have lc:=hc.dK;have lt:=ht.dK;have lp:=hp.dK;have j:=ae.mk A;clear A hx E hc ht hp i;obtain⟨H,e⟩:∃H,h.push (aF ep X Y C)=H:=⟨_,O⟩;rw[e]at l1 l2;generalize aF ep X Y C=K at *
 suffices hs:∃r h',W7.call 31 [.agg K,T,L] h=J (r,h')/\∃b,r=.ret (.v (.bool b))/\(b=V->F rows<=80/\F ac<=80/\F ah<=80/\F text<=70000/\F l<=80) by obtain⟨r,h',c,b,rfl,q⟩:=hs;exact⟨h',b,c,q⟩
 refine bL O Tryz.func31 O ?_;cases b with
 |false=>refine bA @Ov @a_ @e (aj @gN @iK) ?_;exact⟨_,_,O,ai,O,λq=>by cases q⟩|true=>
 obtain⟨B,D⟩:=j.out O;by_cases f:(F ah:Int)<=80;rotate_left 1
 .have d1:decide ((F ah:Int)<=80)=ai:=b_ f;clear j f;refine bA @Ov @a_ @e (aj @gN @iK) ?_;exact⟨_,_,O,ai,O,λq=>by cases q⟩
 have d1:decide ((F ah:Int)<=80)=V:=bQ f;have key:((F text:Int)<=300)∨(¬(F text:Int)<=300/\¬(65536:Int)<F text)∨(¬(F text:Int)<=300/\(65536:Int)<F text/\¬(F text:Int)<=70000)∨(¬(F text:Int)<=300/\(65536:Int)<F text/\(F text:Int)<=70000):=by omega
 have o:((F l:Int)<=8)∨(¬(F l:Int)<=8/\¬(64:Int)<F l)∨(¬(F l:Int)<=8/\(64:Int)<F l/\¬(F l:Int)<=80)∨(¬(F l:Int)<=8/\(64:Int)<F l/\(F l:Int)<=80):=by omega
 have u:ae (F rows<=80/\F ac<=80/\F ah<=80):=⟨B,D,by omega⟩;clear B D f j;rcases key with t1|⟨t1,t2⟩|⟨t1,t2,t3⟩|⟨t1,t2,t3⟩<;>rcases o with v|⟨v,p2⟩|⟨v,p2,p3⟩|⟨v,p2,p3⟩
 all_goals
  refine bA @Ov @a_ @e (aj @gN @iK) ?_
  first|exact⟨_,_,O,ai,O,λq=>by cases q⟩|exact⟨_,_,O,V,O,λ_=>⟨u.out.1,u.out.2.1,u.out.2.2,by omega,by omega⟩⟩
def ajS(h:Heap)(ep:Int)(X Y C:U)(rows:List (List Int))(ac ah:List Int)(hx:RL X rows)(E:IL Y ac)(hc:IL C ah)(v:F ah<=1000000):
 ∃r h',W7.call 41 [.agg (aF ep X Y C)] h=J (r,h')/\r=.ret (.v (.bool (iM rows ep ah))):=by
 have c1:=aeW X Y C rows ac ah hx E hc v;have bx:=mP (ep:=ep) hx E hc;have f:=aK h (aF ep X Y C);have B:aD aa Gt (h.push (aF ep X Y C)) 3 (.ptr (.box (F h.boxes)) 0)=J (.v (.int .i64 ep)):=dE dS f O;have D:aD aa Gt (h.push (aF ep X Y C)) 25 (.ptr (.box (F h.boxes)) 1)=J (.agg [X,Y]):=by rw[fC zU Pe f (jq O)];rfl
 have l2:aD aa Gt (h.push (aF ep X Y C)) 23 (.ptr (.box (F h.boxes)) 3)=J C:=dE mE f O;have e:ae (iM rows ep ah=(decide (0<=ep)&&decide (ep<=64)&&decide (F ah=cd rows)&&ah.all bX)):=⟨O⟩;generalize iM rows ep ah=res at *
 clear hx E hc f;obtain⟨H,i⟩:∃H,h.push (aF ep X Y C)=H:=⟨_,O⟩;rw[i]at B D l2;generalize aF ep X Y C=K at *
 refine bL O Tryz.func41 O ?_;by_cases h1:0<=ep;rotate_left 1
 .have u:res=ai:=by rw[e.out];simp[h1]
  have j:decide (0<=ep)=ai:=b_ h1;clear h1 e;subst u;refine bA @On @a_ @i (aj @qA (aj @gN @iK)) ?_;exact⟨_,_,O,O⟩
 have j:decide (0<=ep)=V:=bQ h1;by_cases h2:ep<=64;rotate_left 1
 .have u:res=ai:=by rw[e.out];simp[h2]
  have o:decide (ep<=64)=ai:=b_ h2;clear h1 h2 e;subst u;refine bA @On @a_ @i (aj @qA (aj @gN @iK)) ?_;exact⟨_,_,O,O⟩
 have o:decide (ep<=64)=V:=bQ h2;have A:ae (res=(ah.all bX&&decide (F ah=cd rows))):=⟨by rw[e.out,j,o,mq,mq,Bool.and_comm]⟩;clear h1 h2 e;generalize (ah.all bX&&decide (F ah=cd rows))=dd at *
 refine bA @On @a_ @i (aj @qA (aj @gN @iK)) ?_;exact⟨_,_,O,by rw[A.out]⟩
def vx(p:Pr):List U:=ar 3 0 [] .held 4 ([p.aU,p.no,p.d,p.e].map cO)
def aaZ(p:Pr):Prop:=∀n∈[p.aU,p.no,p.d,p.e],0<=n/\n<=4611686018427387903
def UA:∀l:List Pr,dk (l.map vx)=l.map vx/\e_ 0 0 0 (l.map vx)=V
 | []=>⟨O,O⟩
 |p::l=>by
  obtain⟨h1,h2⟩:=UA l;refine⟨?_,?_⟩
  .show aZ (vx p)::dk (l.map vx)=_;rw[h1];rfl
  .show(aA 0 0 0 (vx p)&&e_ 0 0 0 (l.map vx))=V;rw[h2];rfl
def L8:List aQ:=L7++[60,61,31,41,240,243]
noncomputable def N4:aQ->Option (List U->Heap->Option (U × Heap)):=lh W7 L8
noncomputable abbrev W8:=whole aa Gt N4
def CL:lW N4 L8:=rm
section
variable (R:Rec)
def Js:Prop:=∀(k:Tok) (l:List Pr),F l<=1000->l≠[]->(∀p∈l,aaZ p)->∀h,R.call 240 [.list k 4 (bH l)] h=J (.ret (.agg (ar 3 0 [] .held 4 (l.map vx))),h)
def Fh:Prop:=∀ep X Y C rows ac ah,RL X rows->IL Y ac->IL C ah->F ah<=1000000->∀h,R.call 41 [.agg (aF ep X Y C)] h=J (.ret (.v (.bool (iM rows ep ah))),h)
def Fg:Prop:=∀ep X Y C T L rows ac ah text l,RL X rows->IL Y ac->IL C ah->BL T text->PL L l->
 ∃b,(b=V->F rows<=80/\F ac<=80/\F ah<=80/\F text<=70000/\F l<=80)/\∀h,R.call 31 [.agg (aF ep X Y C),T,L] h=J (.ret (.v (.bool b)),h)
end
def BL.fc{x}{b}(h:BL x b):BL (al x) b/\au 0 0 0 (al x)=V:=by obtain⟨k,s,rfl,e⟩:=h;rw[al,pX];exact⟨⟨bU k,s,O,e⟩,by rw[au,ef,i'];rfl⟩
def WI(l):dk (bH l)=bH l/\e_ 0 0 0 (bH l)=V:=by
 induction l with
 |nil=>exact⟨O,O⟩|cons p l e=>
  refine⟨?_,?_⟩
  .show aZ (aL p)::dk (bH l)=_;rw[e.1];rfl
  .show(aA 0 0 0 (aL p)&&e_ 0 0 0 (bH l))=V;rw[e.2];rfl
section
variable {R:Rec} {L:List aQ}
def agh(l:List Pr):au 0 0 0 (.agg (ar 3 0 [] .held 4 (l.map vx)))=V:=by simp only[ar,au,aA,(UA l).2];rfl
def Js.up(f:L.contains 240=V)(c:Js R):Js (up R L):=λk l i j e=>
 bR (B:=[.list (bU k) 4 (bH l)]) f (by rw[aZ,aZ,al,(WI l).1]) (by simp[aA,au,ef,(WI l).2]) (c _ l i j e _) O (agh l)
def Fh.up(o:L.contains 41=V)(c:Fh R):Fh (up R L):=λep X Y C rows ac ah hx E hc u=>by obtain⟨h1,h2⟩:=hx.fc;obtain⟨e,f⟩:=E.hold;obtain⟨i,j⟩:=hc.hold;exact bR (B:=[.agg (aF ep (al X) (al Y) (al C))]) o O (by simp[aF,aA,au,h2,f,j]) (c ep _ _ _ rows ac ah h1 e i u _) O rfl
def Fg.up(hg:L.contains 31=V)(c:Fg R):Fg (up R L):=λep X Y C T l' rows ac ah text l hx E hc ht hp=>by obtain⟨h1,h2⟩:=hx.fc;obtain⟨f,i⟩:=E.hold;obtain⟨j,o⟩:=hc.hold;obtain⟨u,v⟩:=ht.fc;obtain⟨A,e⟩:=hp.fc;obtain⟨b,D,c⟩:=c ep _ _ _ _ _ rows ac ah text l h1 f j u A;exact⟨b,D,bR (B:=[.agg (aF ep (al X) (al Y) (al C)),al T,al l']) hg O (by simp[aF,aA,au,h2,i,o,v,e]) (c _) O O⟩
end
def aje:vW W8:=ajd.up rfl
def as4:vY W8:=as3.up rfl
def afE:vV W8:=afD.up rfl
def akv:vX W8:=aks.up rfl
def ajT:Fh W8:=λep X Y C rows ac ah hx E hc o=>by obtain⟨h1,h2⟩:=hx.fc;obtain⟨e,f⟩:=E.hold;obtain⟨i,j⟩:=hc.hold;obtain⟨r,u,c,rfl⟩:=ajS ⟨[],[],0,[]⟩ ep _ _ _ rows ac ah h1 e i o;exact bR (L:=L8) (B:=[.agg (aF ep (al X) (al Y) (al C))]) O O (by simp[aF,aA,au,h2,f,j]) c O rfl
def af8:Fg W8:=λep X Y C T l' rows ac ah text l hx E hc ht hp=>by obtain⟨h1,h2⟩:=hx.fc;obtain⟨f,i⟩:=E.hold;obtain⟨j,o⟩:=hc.hold;obtain⟨u,v⟩:=ht.fc;obtain⟨A,e⟩:=hp.fc;obtain⟨h',b,c,D⟩:=af5 ⟨[],[],0,[]⟩ ep _ _ _ _ _ rows ac ah text l h1 f j u A;exact⟨b,D,bR (L:=L8) (B:=[.agg (aF ep (al X) (al Y) (al C)),al T,al l']) O O (by simp[aF,aA,au,h2,i,o,v,e]) c O O⟩
end Go.Proofs.YtcbhpkjbiehcpaaGreatDoor
end
section
namespace Go.NT
structure Dc where
 no:Int
 tm:Int
 kd:Int
 vl:Int
 fr:Int
 un:Int
 pa:List Int
 rv:List Int
 nd:List Int
 tx:List UInt8
def nh(qb:Int):Int->List Int->Bool
 |_,[]=>V
 |yQ,n::l=>decide (yQ<n)&&decide (n<qb)&&nh qb n l
def hh(l:List Int)(qb:Int):Bool:=nh qb (-1) l&&decide (F l<=16)
def xm(t:Int):Bool:=decide (0<=t)&&decide (t<1099511627776)
def ij(d:Dc):Bool:=decide (0<=d.no)&&decide (d.no<4096)&&xm d.tm&&decide (0<=d.kd)&&decide (d.kd<16)&&decide (0<=d.vl)&&decide (d.vl<=1099511627776)&&decide (0<=d.fr)&&decide (d.fr<d.un)&&decide (d.un<=1099511627776)&&hh d.pa 1048577&&hh d.rv d.no&&hh d.nd d.no
def Dc.sg(d:Dc):Prop:=F d.pa<=9223372036854775807/\F d.rv<=9223372036854775807/\F d.nd<=9223372036854775807
def A3(l:List Int):Vl:=.list (l.map .int)
def iR(d:Dc):Vl:=.list [.int d.no,.int d.tm,.int d.kd,.int d.vl,.int d.fr,.int d.un,A3 d.pa,A3 d.rv,A3 d.nd,.text d.tx]
structure Ce where
 rows:List (List Int)
 ac:List Int
 ep:Int
 ah:List Int
 doc:Dc
 who:List Int
 bT:List Pr
 parts:List (Int × Int)
def Ce.Fit(c:Ce):Prop:=F c.rows<=1000000/\F c.ah<=1000000/\F c.who<=1000000/\c.doc.sg/\F c.bT<=1000000/\F c.parts<=1000000
def eM(rows:List (List Int))(ac:List Int)(ep:Int)(ah:List Int)(d:Dc)(who:List Int):Int:=
 if cG rows ac≠0 then cG rows ac
 else if (decide (0<=ep)&&decide (ep<=64)&&ah.all bX&&decide (F ah=cd rows))=ai then 380
 else if ij d=ai then 170
 else if dy (-1) who=ai then 1
 else if (fm rows ac who).2.1=ai∨(fm rows ac who).2.2≠0 then 440
 else 0
end Go.NT
end
section
namespace Go.NT
section
variable {α:Type} (o:α->Bool) (k:α->Int)
def eE:Int->List α->Bool
 |_,[]=>V
 |yQ,x::l=>o x&&decide (yQ<k x)&&eE (k x) l
def iY(n:Int):List α->Nat
 | []=>0
 |y::l=>if k y<n then iY n l+1 else 0
def mO(x:α)(l:List α):List α:=l.take (iY k (k x) l)++x::l.drop (iY k (k x) l)
def oZ(n:Int)(l:List α):Option α:=
 match l[iY k n l]? with
 |some y=>if k y=n then J y else af
 |none=>af
end
section
variable {α:Type} {o:α->Bool} {k:α->Int}
def Bn{e:Int}{x:α}{l:List α}:eE o k e (x::l)=V↔o x=V/\e<k x/\eE o k (k x) l=V:=by rw[eE,bm,bm,decide_eq_true_eq,and_assoc]
def WD{l:List α}:∀{e:Int},eE o k e l=V->∀x∈l,o x=V/\e<k x:=by
 induction l with
 |nil=>intro _ _ x hx;cases hx
 |cons y l f=>
  intro e h x hx;rw[Bn]at h;rcases gL.1 hx with rfl|hx
  .exact⟨h.1,h.2.1⟩
  .have:=f h.2.2 x hx;exact⟨this.1,by omega⟩
def Kq(n:Int)(l:List α):iY k n l<=F l:=by
 induction l with
 |nil=>exact aV _|cons y l e=>rw[iY,dY];split<;>omega
def U7(x:α)(l:List α):F (mO k x l)=F l+1:=by unfold mO;have:=Kq (k:=k) (k x) l;rw[cg,dY,cR,ev];omega
def alK{who:List Int}:∀{l:List α} {f:Int},eE o k f l=V->(∀x∈l,k x∈who)->F l<=F (who.filter λn=>decide (f<n)):=by
 intro l
 induction l with
 |nil=>intro _ _ _;exact bV _|cons x l D=>
  intro f h A;rw[Bn]at h;have h1:=D h.2.2 λy E=>A y (gj _ E);have B:∀who:List Int,k x∈who->F (who.filter λn=>decide (k x<n))+1<=F (who.filter λn=>decide (f<n)):=by
   intro who
   induction who with
   |nil=>intro q;cases q
   |cons w who i=>
    intro q;by_cases c:k x<w
    .have j:f<w:=(by omega);rw[sF,av (by simpa using c),sF,av (by simpa using j),dY,dY];have:=i (by rcases gL.1 q with e|e<;>first|omega|exact e);omega
    .rw[sF,aP (by simpa using c)];by_cases e:w=k x
     .have j:f<w:=(by omega);rw[sF,av (by simpa using j),dY];have:F (who.filter λn=>decide (k x<n))<=F (who.filter λn=>decide (f<n)):=by
       clear i q
       induction who with
       |nil=>exact aV _|cons z0 who v=>
        rw[sF,sF];by_cases d:k x<z0
        .rw[av (by simpa using d),av (by simp;omega),dY,dY];omega
        .rw[aP (by simpa using d)];split
         .rw[dY];omega
         .exact v
      omega
     .have:=i (by rcases gL.1 q with u|u<;>first|exact absurd u.symm e|exact u);rw[sF];split
      .rw[dY];omega
      .exact this
  have:=B who (A x gx);rw[dY];omega
def alJ{who:List Int}{l:List α}{e:Int}(h:eE o k e l=V)(A:∀x∈l,k x∈who):F l<=F who:=
 eS (alK h A) (List.length_filter_le _ _)
def acp{l:List α}{n:Int}{i:Nat}(hi:i<=F l)(h1:∀(j:Nat) y,j<i->l[j]?=J y->k y<n)(h2:∀y,l[i]?=J y->¬k y<n):iY k n l=i:=by
 induction l generalizing i with
 |nil=>simp at hi;subst hi;rfl|cons y l f=>
  cases i with|zero=>rw[iY,aP (h2 y O)]|succ i=>rw[iY,av (h1 0 y (Nat.zero_lt_succ _) O),f (i:=i) (by simpa using hi) (λj z o e=>h1 (j+1) z M (by simpa using e)) λz e=>h2 z (by simpa using e)]
def WC{l:List α}:∀{e:Int},eE o k e l=V->∀{i j:Nat} {x y:α},l[i]?=J x->l[j]?=J y->i<j->k x<k y:=by
 induction l with
 |nil=>intro _ _ i j x y h;simp at h|cons z l f=>
  intro e h i j x y hx E u;rw[Bn]at h;cases j with
  |zero=>omega|succ j=>
   cases i with|zero=>simp at hx;subst hx;exact(WD h.2.2 y (cU (by simpa using E))).2|succ i=>exact f h.2.2 (by simpa using hx) (by simpa using E) M
end
end Go.NT
end
section
namespace Go.NT
deriving instance DecidableEq for Pr
def fV(who:List Int)(p:Pr):Bool:=who.contains p.aU&&decide (0<=p.no)&&decide (p.no<4096)&&bX p.d&&bX p.e
def fW(who:List Int)(z:Int × Int):Bool:=who.contains z.1&&cN z.2
def Ce.eM(c:Ce):Int:=NT.eM c.rows c.ac c.ep c.ah c.doc c.who
def eH(c:Ce):Int:=
 if c.eM≠0 then 440
 else if (eE (fV c.who) Pr.aU (-1) c.bT&&eE (fW c.who) dN (-1) c.parts)=ai then 440
 else if F c.bT≠F c.who/\c.parts≠[] then 440 else 0
def HX{α:Type}[DecidableEq α](k:α->Int)(x:α)(l:List α):Int × List α:=
 match oZ k (k x) l with
 |some y=>if y=x then (0,l) else (151,[])
 |none=>(0,mO k x l)
def mg(c:Ce)(p:Pr):Int × List Pr:=
 if eH c≠0 then (440,[]) else if fV c.who p=ai then (420,[]) else HX Pr.aU p c.bT
def mS(c:Ce)(z:Int × Int):Int × List (Int × Int):=
 if eH c≠0 then (440,[]) else if fW c.who z=ai then (400,[]) else if F c.bT≠F c.who then (420,[]) else HX dN z c.parts
section
variable {α:Type} [DecidableEq α] {k:α->Int} {o:α->Bool} {x y:α} {l m:List α}
end
def RT{c}:eH c=0↔c.eM=0/\eE (fV c.who) Pr.aU (-1) c.bT=V/\eE (fW c.who) dN (-1) c.parts=V/\(c.parts≠[]->F c.bT=F c.who):=by
 unfold eH;by_cases e:c.eM=0
 .rw[aP (by simp[e])];cases j:eE (fV c.who) Pr.aU (-1) c.bT<;>cases o:eE (fW c.who) dN (-1) c.parts<;>simp[e];by_cases f:c.parts=[]
  .simp[f]
  .by_cases i:F c.bT=F c.who
   .simp[i]
   .simp[f,i]
 .rw[av (by simp[e])];simp[e]
def XB{who}{p}(h:fV who p=V):p.aU∈who:=by unfold fV at h;simp only[bm,JC]at h;exact h.1.1.1.1
def an9{who}{z}(h:fW who z=V):z.1∈who:=by unfold fW at h;simp only[bm,JC]at h;exact h.1
def ami{who}:∀{e:Int},dy e who=V->∀n∈who,e<n:=by
 induction who with
 |nil=>intro _ _ n f;cases f
 |cons w who i=>
  intro e h n f;rw[dy]at h;simp only[bm,decide_eq_true_eq]at h;rcases gL.1 f with rfl|f
  .omega
  .have:=i h.2 n f;omega
def NI{c:Ce}(h:c.eM=0):dy (-1) c.who=V:=by
 unfold Ce.eM NT.eM at h;split at h
 .rename_i q;exact absurd h q
 split at h
 .exact absurd h aY
 split at h
 .exact absurd h aY
 split at h
 .exact absurd h aY
 .rename_i q;simpa using q
end Go.NT
end
section
namespace Go.Proofs.YtcbhpkjbiehcpaaGreatDoor
open Go.AE Go.NT
def Xh:Tryz.f143.results.toList=[.tmp 2]:=by kernel_rfl
def Xi:Tryz.f170.results.toList=[.tmp 2]:=by kernel_rfl
def Eo:Tryz.f144.results.toList=[.tmp 4]:=by kernel_rfl
def qM:Tryz.f171.results.toList=[.tmp 4]:=by kernel_rfl
def Es:Tryz.f38.results.toList=[.tmp 2]:=by kernel_rfl
def as9(t:Int)(h:Heap):W8.call 143 [I t] h=J (.ret (.v (.bool (xm t))),h):=by
 unfold I xm;by_cases e:0<=t
 .refine cq O aa1 O ?_;have:decide (0<=t)=V:=by simp[e]
  exact dV @Xh @mq
 .refine cq O aa1 O ?_;have:decide (0<=t)=ai:=by simp[e]
  exact dV @Xh @ut
def ata(t:Int)(h:Heap):W8.call 170 [I t] h=J (.ret (.v (.bool (xm t))),h):=by
 unfold I xm;by_cases e:0<=t
 .refine cq O aa4 O ?_;have:decide (0<=t)=V:=by simp[e]
  exact dV @Xi @mq
 .refine cq O aa4 O ?_;have:decide (0<=t)=ai:=by simp[e]
  exact dV @Xi @ut
def Sr{l}{i}(h:i<F l):l.drop i=ag l i::l.drop (i+1):=by rw[ss h,fS h]
def akq(h:Heap)(x:U)(l:List Int)(e:Int)(hx:IL x l)(hl:F l<=9223372036854775807):∃r h',W8.call 144 [x,I e] h=J (r,h')/\h'=h/\r=.ret (.v (.bool (hh l e))):=by
 obtain⟨k,s,rfl,E⟩:=hx;have ks:=ae.mk E;clear E;have u23:=cT;have z3:=eR;have eC:=cE l;unfold I;refine bL O Tryz.func144 O ?_;refine bg @Eo ?_;refine b9 (λm A H=>∃(j:Nat) (i:Int),j<=F l/\m=F l-j/\ae (nh e i (l.drop j)=nh e (-1) l)/\A.get 0=.list k s (ints l)/\A.get 1=.v (.int .i64 e)/\A.get 5=.v (.int .i64 i)/\A.get 8=.list k s (ints l)/\A.get 9=.v (.int .i64 (F l:Nat))/\A.get 10=.v (.int .i64 (j:Nat))/\A.defers=[]/\H=h) ?_ (F l) _ _ ?_;rotate_left 1
 .refine⟨0,-1,bV _,O,⟨O⟩,?_,?_,?_,?_,?_,?_,?_,O⟩<;>exact gR
 rintro m A H ⟨j,i,hi,rfl,kP,g0,g1,g5,g8,g9,g10,hd,rfl⟩;by_cases o:j<F l
 .have eo:s=1:=ks.out (by intro q;rw[q]at o;simp at o);subst eo;have ld:=eJ (H:=H) (s:=1) o;have fH:(j:Int)<(F l:Int):=by omega
  have B:ae (nh e (-1) l=(decide (i<ag l j)&&decide (ag l j<e)&&nh e (ag l j) (l.drop (j+1)))):=⟨by rw[<-kP.out,Sr o,nh]⟩;generalize ag l j=u at *
  by_cases D:u<=i
  .have v:ae (hh l e=ai):=⟨by unfold hh;rw[B.out,b_ (M:¬i<u)];rfl⟩;have d1:decide (u<=i)=V:=bQ D
   repeat' (first|simp(maxSteps:=9999999) (disch:=first|exact dZ|fail) only[gW,reduceIte,aJ,aB,Eo,aT, *]|refine dX ?_ ?_<;>(intro _;try omega))
   all_goals exact⟨_,_,O,O,by rw[v.out]⟩
  .have d1:decide (u<=i)=ai:=b_ D;by_cases c2:e<=u
   .have v:ae (hh l e=ai):=⟨by unfold hh;rw[B.out,b_ (M:¬u<e),Bool.and_false];rfl⟩;have d2:decide (u>=e)=V:=bQ c2
    repeat' (first|simp(maxSteps:=9999999) (disch:=first|exact dZ|fail) only[gW,reduceIte,aJ,aB,Eo,aT, *]|refine dX ?_ ?_<;>(intro _;try omega))
    all_goals exact⟨_,_,O,O,by rw[v.out]⟩
   .have f:ae (nh e u (l.drop (j+1))=nh e (-1) l):=⟨by rw[B.out,bQ (M:i<u),bQ (M:u<e)];rfl⟩;have d2:decide (u>=e)=ai:=b_ M
    repeat' (first|simp(maxSteps:=9999999) (disch:=first|exact dZ|fail) only[gW,reduceIte,aJ,aB,Eo,aT, *]|refine dX ?_ ?_<;>(intro _;try omega))
    all_goals exact⟨F l-(j+1),by omega,j+1,u,by omega,O,f,by simp⟩
 .have:j=F l:=by omega
  subst this;have v:ae (hh l e=decide (F l<=16)):=⟨by unfold hh;rw[<-kP.out,Fl];rfl⟩
  repeat' (first|simp(maxSteps:=9999999) (disch:=first|exact dZ|fail) only[gW,reduceIte,aJ,aB,Eo, *]|refine dX ?_ ?_<;>(intro _;try omega))
  all_goals exact⟨_,_,O,O,by rw[v.out];by_cases q:F l<=16<;>simp[q]<;>omega⟩
def ame(h:Heap)(x:U)(l:List Int)(hx:IL x l)(hl:F l<=9223372036854775807):∃r h',W8.call 38 [x] h=J (r,h')/\h'=h/\r=.ret (.v (.bool (dy (-1) l))):=by
 obtain⟨k,s,rfl,D⟩:=hx;have ks:=ae.mk D;clear D;have u23:=cT;have z3:=eR;have eC:=cE l;refine bL O Tryz.func38 O ?_;refine bg @Es ?_;refine b9 (λm A H=>∃(j:Nat) (e:Int),j<=F l/\m=F l-j/\ae (dy e (l.drop j)=dy (-1) l)/\ae (-1<=e)/\A.get 3=.v (.int .i64 e)/\A.get 6=.list k s (ints l)/\A.get 7=.v (.int .i64 (F l:Nat))/\A.get 8=.v (.int .i64 (j:Nat))/\A.defers=[]/\H=h) ?_ (F l) _ _ ?_;rotate_left 1
 .refine⟨0,-1,bV _,O,⟨O⟩,⟨Cd _⟩,?_,?_,?_,?_,?_,O⟩<;>exact gR
 rintro m A H ⟨j,e,hi,rfl,kP,kl,g3,g6,g7,g8,hd,rfl⟩;by_cases i:j<F l
 .have E:s=1:=ks.out (by intro q;rw[q]at i;simp at i);subst E;have ld:=eJ (H:=H) (s:=1) i;have fH:(j:Int)<(F l:Int):=by omega
  have v:ae (dy (-1) l=dy e (ag l j::l.drop (j+1))):=⟨by rw[<-kP.out,Sr i]⟩;generalize ag l j=u at *
  by_cases B:u<=e
  .have o:ae (dy (-1) l=ai):=⟨by rw[v.out,dy];simp;omega⟩;have d1:decide (u<=e)=V:=bQ B
   repeat' (first|simp(maxSteps:=9999999) (disch:=first|exact dZ|fail) only[gW,reduceIte,aJ,aB,Es,aT, *]|refine dX ?_ ?_<;>(intro _;try omega))
   all_goals exact⟨_,_,O,O,by rw[o.out]⟩
  .have d1:decide (u<=e)=ai:=b_ B;by_cases c2:64<=u
   .have o:ae (dy (-1) l=ai):=⟨by rw[v.out,dy];simp;omega⟩;have d2:decide (u>=64)=V:=bQ c2
    repeat' (first|simp(maxSteps:=9999999) (disch:=first|exact dZ|fail) only[gW,reduceIte,aJ,aB,Es,aT, *]|refine dX ?_ ?_<;>(intro _;try omega))
    all_goals exact⟨_,_,O,O,by rw[o.out]⟩
   .have f:ae (dy u (l.drop (j+1))=dy (-1) l):=⟨by have:=kl.out;rw[v.out,dy];simp;omega⟩;have d2:decide (u>=64)=ai:=b_ M;have kl2:ae (-1<=u):=⟨by have:=kl.out;omega⟩
    repeat' (first|simp(maxSteps:=9999999) (disch:=first|exact dZ|fail) only[gW,reduceIte,aJ,aB,Es,aT, *]|refine dX ?_ ?_<;>(intro _;try omega))
    all_goals exact⟨F l-(j+1),by omega,j+1,u,by omega,O,f,kl2,by simp⟩
 .have:j=F l:=by omega
  subst this;have o:ae (dy (-1) l=V):=⟨by rw[<-kP.out,Fl];rfl⟩
  repeat' (first|simp(maxSteps:=9999999) (disch:=first|exact dZ|fail) only[gW,reduceIte,aJ,aB,Es, *]|refine dX ?_ ?_<;>(intro _;try omega))
  all_goals exact⟨_,_,O,O,by rw[o.out]⟩
def anp:Tryz.f72.results.toList=[.tmp 2]:=by kernel_rfl
def anq:Tryz.f95.results.toList=[.tmp 2]:=by kernel_rfl
def ang:Tryz.f32.results.toList=[.tmp 2]:=by kernel_rfl
def fA(b:UInt8):U:=.v (.int .u8 b.toNat)
def ba(d:Dc)(p r n:U):List U:=[I d.no,I d.tm,I d.kd,I d.vl,I d.fr,I d.un,p,r,n]++d.tx.map fA
structure jR(d:Dc)(p r n:U):Prop where
 p:IL p d.pa
 r:IL r d.rv
 n:IL n d.nd
 t:d.tx.length=32
def Ns{x}{l}(hx:IL x l)(f:F l<=9223372036854775807)(e):∀h,W8.call 144 [x,I e] h=J (.ret (.v (.bool (hh l e))),h):=λh=>by obtain⟨_,_,c,rfl,rfl⟩:=akq h x l e hx f;exact c
def ato(l:List UInt8):(l.map fA).all U.cW=V:=by rw[eF];intro x hx;obtain⟨b,-,rfl⟩:=List.mem_map.1 hx;rfl
section
variable {d:Dc} {p r n:U} (ok:jR d p r n)
include ok
def jR.len:F (ba d p r n)=41:=by unfold ba;rw[cg,br,ok.t];rfl
def jR.cells:(U.agg (ba d p r n)).bG=J (ba d p r n):=by obtain⟨_,_,rfl,-⟩:=ok.p;obtain⟨_,_,rfl,-⟩:=ok.r;obtain⟨_,_,rfl,-⟩:=ok.n;have:=ato d.tx;unfold U.bG ba;simp only;rw[av];rw[sn,this];rfl
end
def Ar:(∀b,dQ aa 31 (.ptr (.box b) 0) 0=J (.ptr (.box b) 0))/\(∀b,dQ aa 31 (.ptr (.box b) 0) 1=J (.ptr (.box b) 1))/\(∀b,dQ aa 31 (.ptr (.box b) 0) 2=J (.ptr (.box b) 2))/\(∀b,dQ aa 31 (.ptr (.box b) 0) 3=J (.ptr (.box b) 3))/\
 (∀b,dQ aa 31 (.ptr (.box b) 0) 4=J (.ptr (.box b) 4))/\(∀b,dQ aa 31 (.ptr (.box b) 0) 5=J (.ptr (.box b) 5))/\(∀b,dQ aa 31 (.ptr (.box b) 0) 6=J (.ptr (.box b) 6))/\(∀b,dQ aa 31 (.ptr (.box b) 0) 7=J (.ptr (.box b) 7))/\
 (∀b,dQ aa 31 (.ptr (.box b) 0) 8=J (.ptr (.box b) 8))/\∀b,dQ aa 31 (.ptr (.box b) 0) 9=J (.ptr (.box b) 9):=
 ⟨λ_=>by kernel_rfl,λ_=>by kernel_rfl,λ_=>by kernel_rfl,λ_=>by kernel_rfl,λ_=>by kernel_rfl,λ_=>by kernel_rfl,λ_=>by kernel_rfl,λ_=>by kernel_rfl,λ_=>by kernel_rfl,λ_=>by kernel_rfl⟩
def qJ{H}{b}{d}{p r n}(e:H.boxes[b]?=J (ba d p r n)):aD aa Gt H 3 (.ptr (.box b) 0)=J (I d.no)/\aD aa Gt H 3 (.ptr (.box b) 1)=J (I d.tm)/\aD aa Gt H 3 (.ptr (.box b) 2)=J (I d.kd)/\aD aa Gt H 3 (.ptr (.box b) 3)=J (I d.vl)/\aD aa Gt H 3 (.ptr (.box b) 4)=J (I d.fr)/\aD aa Gt H 3 (.ptr (.box b) 5)=J (I d.un)/\
 aD aa Gt H 23 (.ptr (.box b) 6)=J p/\aD aa Gt H 23 (.ptr (.box b) 7)=J r/\aD aa Gt H 23 (.ptr (.box b) 8)=J n:=by
 refine⟨?_,?_,?_,?_,?_,?_,?_,?_,?_⟩<;>first|(rw[fe dS e];rfl)|(rw[fe mE e];rfl)
def rE{H}{b}{D}(f:F D=41)(e:H.boxes[b]?=J D):aD aa Gt H 31 (.ptr (.box b) 0)=J (.agg D):=by rw[fC bD (by kernel_rfl:cB aa 31=J 41) e M,gw,<-f,fB]
def an7(h:Heap)(d:Dc)(p r n:U)(ok:jR d p r n)(e:F d.pa<=9223372036854775807)(f:F d.rv<=9223372036854775807)(i:F d.nd<=9223372036854775807):∃j h',W8.call 72 [.agg (ba d p r n)] h=J (j,h')/\j=.ret (.v (.bool (ij d))):=by
 have B:=ok.cells;have o:=Ns ok.p e 1048577;have u:=Ns ok.r f d.no;have v:=Ns ok.n i d.no;have A:=as9 d.tm;have L:=qJ (aK h (ba d p r n));have z1:=Ar;clear ok e f i;unfold ij;generalize ba d p r n=z0 at *
 generalize hh d.pa 1048577=u1 at *
 generalize hh d.rv d.no=u2 at *
 generalize hh d.nd d.no=u3 at *
 generalize xm d.tm=u4 at *
 obtain⟨no,tm,E,vl,D,un,pa,rv,nd,tx⟩:=d;simp only at L o u v A ⊢;unfold I at *
 refine bL O Tryz.func72 O ?_
 repeat' (first|simp(maxSteps:=9999999) (disch:=first|exact dZ|fail) only[gW,reduceIte,aJ,aB,anp,a_, *]|refine dX ?_ ?_<;>(intro _;try omega))
 all_goals exact⟨_,_,O,by simp[*]⟩
def akr(h:Heap)(x:U)(l:List Int)(e:Int)(hx:IL x l)(hl:F l<=9223372036854775807):∃r h',W8.call 171 [x,I e] h=J (r,h')/\h'=h/\r=.ret (.v (.bool (hh l e))):=by
 obtain⟨k,s,rfl,hs⟩:=hx;have ks:=ae.mk hs;clear hs;have u23:=cT;have z3:=eR;have eC:=cE l;unfold I;refine bL O Tryz.func171 O ?_;refine bg @qM ?_;refine b9 (λm z0 H=>∃(i:Nat) (f:Int),i<=F l/\m=F l-i/\ae (nh e f (l.drop i)=nh e (-1) l)/\ -1<=f/\ae (i=0->f= -1)/\ae (0<i->ag l (i-1)=f)/\z0.get 0=.list k s (ints l)/\z0.get 1=.v (.int .i64 e)/\z0.get 5=.v (.int .i64 (i:Nat))/\z0.defers=[]/\H=h) ?_ (F l) _ _ ?_;rotate_left 1
 .refine⟨0,-1,bV _,O,⟨O⟩,Cd _,⟨λ_=>rfl⟩,⟨λq=>absurd q (Nat.lt_irrefl _)⟩,?_,?_,?_,?_,O⟩<;>exact gR
 rintro m z0 H ⟨i,f,hi,rfl,kP,DB,k0,k1,g0,g1,g5,hd,rfl⟩;by_cases u:i<F l;rotate_left 1
 .have:i=F l:=by omega
  subst this;have j:hh l e=decide (F l<=16):=by unfold hh;rw[<-kP.out,mW (aV _)];rfl
  have B:=ae.mk j;clear j;refine bg @qM ?_;exact⟨_,_,O,O,by rw[B.out];by_cases q:F l<=16<;>simp[q]<;>omega⟩
 have eo:s=1:=ks.out (by intro q;rw[q]at u;simp at u);subst eo;have ld:=eJ (H:=H) (s:=1) u;have fH:(i:Int)<(F l:Int):=by omega
 have D:l.drop i=ag l i::l.drop (i+1):=by rw[fS u];exact ss u
 have yC:=kP.out;rw[D,nh]at yC;have o:=ae.mk yC;clear yC D;by_cases v:ag l i<0
 .have hC:decide (ag l i<0)=V:=by simp[v]
  have j:hh l e=ai:=by unfold hh;rw[<-o.out];simp;omega
  have B:=ae.mk j;clear j v;refine bE @qM @aT ?_;refine du CL bD ?_;refine bE @qM @aT ?_;exact⟨_,_,O,O,by rw[B.out]⟩
 have hC:decide (ag l i<0)=ai:=by simp[v]
 by_cases E:e<=ag l i
 .have jk:decide (e<=ag l i)=V:=by simp[E]
  have j:hh l e=ai:=by unfold hh;rw[<-o.out];simp;omega
  have B:=ae.mk j;clear j v E;refine bE @qM @aT ?_;refine du CL bD ?_;refine bE @qM @aT ?_;exact⟨_,_,O,O,by rw[B.out]⟩
 have jk:decide (e<=ag l i)=ai:=by simp;omega
 by_cases LW:i=0
 .subst LW;have Mc:=k0.out O;have kP2:ae (nh e (ag l 0) (l.drop (0+1))=nh e (-1) l):=⟨by rw[<-o.out,bQ (M:f<ag l 0),bQ (M:ag l 0<e)];rfl⟩;have tM: -1<=ag l 0:=by omega
  have kk1:ae (0<0+1->ag l (0+1-1)=ag l 0):=⟨λ_=>rfl⟩;clear v E Mc o;refine bE @qM @aT ?_;refine du CL bD ?_;refine bE @qM @aT ?_;exact⟨F l-1,by omega,0+1,ag l 0,by omega,O,kP2,tM,⟨λq=>absurd q M⟩,kk1,by simp⟩
 .have A:=k1.out M;have ld1:=eJ (H:=H) (l:=l) (i:=i-1) (s:=1) M;rw[A]at ld1;have aiq:decide ((0:Int)<(i:Int))=V:=bQ M;have ML:(i:Int)-1=((i-1:Nat):Int):=by omega
  have auV:((i-1:Nat):Int)<(F l:Int):=by omega
  by_cases c3:ag l i<=f
  .have pT:decide (ag l i<=f)=V:=(by simp[c3]);have j:hh l e=ai:=(by unfold hh;rw[<-o.out];simp;omega);have B:=ae.mk j;clear j v E c3 A;refine bE @qM @aT ?_;refine du CL bD ?_;refine bE @qM @aT ?_;exact⟨_,_,O,O,by rw[B.out]⟩
  .have pT:decide (ag l i<=f)=ai:=(by simp;omega);have kP2:ae (nh e (ag l i) (l.drop (i+1))=nh e (-1) l):=⟨by rw[<-o.out,bQ (M:f<ag l i),bQ (M:ag l i<e)];rfl⟩;have tM: -1<=ag l i:=(by omega);have kk1:ae (0<i+1->ag l (i+1-1)=ag l i):=⟨λ_=>rfl⟩;clear v E c3 A o;refine bE @qM @aT ?_;refine du CL bD ?_;refine bE @qM @aT ?_;exact⟨F l-(i+1),by omega,i+1,ag l i,by omega,O,kP2,tM,⟨λq=>absurd q M⟩,kk1,by simp⟩
def Nt{x}{l}(hx:IL x l)(f:F l<=9223372036854775807)(e):∀h,W8.call 171 [x,I e] h=J (.ret (.v (.bool (hh l e))),h):=λh=>by obtain⟨_,_,c,rfl,rfl⟩:=akr h x l e hx f;exact c
def an8(h:Heap)(d:Dc)(p r n:U)(ok:jR d p r n)(e:F d.pa<=9223372036854775807)(f:F d.rv<=9223372036854775807)(i:F d.nd<=9223372036854775807):∃j h',W8.call 95 [.agg (ba d p r n)] h=J (j,h')/\j=.ret (.v (.bool (ij d))):=by
 have B:=ok.cells;have o:=Nt ok.p e 1048577;have u:=Nt ok.r f d.no;have v:=Nt ok.n i d.no;have A:=ata d.tm;have L:=qJ (aK h (ba d p r n));have z1:=Ar;clear ok e f i;unfold ij;generalize ba d p r n=z0 at *
 generalize hh d.pa 1048577=u1 at *
 generalize hh d.rv d.no=u2 at *
 generalize hh d.nd d.no=u3 at *
 generalize xm d.tm=u4 at *
 obtain⟨no,tm,E,vl,D,un,pa,rv,nd,tx⟩:=d;simp only at L o u v A ⊢;unfold I at *
 refine bL O Tryz.func95 O ?_
 repeat' (first|simp(maxSteps:=9999999) (disch:=first|exact dZ|fail) only[gW,reduceIte,aJ,aB,anq,a_, *]|refine dX ?_ ?_<;>(intro _;try omega))
 all_goals exact⟨_,_,O,by simp[*]<;>omega⟩
def xW(d:Dc):Bool:=decide (F d.pa<=20)&&decide (F d.rv<=20)&&decide (F d.nd<=20)
def aga(h:Heap)(d:Dc)(p r n:U)(ok:jR d p r n):∃e h',W8.call 32 [.agg (ba d p r n)] h=J (e,h')/\e=.ret (.v (.bool (xW d))):=by
 have A:=ok.cells;have L:=qJ (aK h (ba d p r n));have z1:=Ar;have v:=cT;obtain⟨k1,s1,f,-⟩:=ok.p;obtain⟨k2,s2,i,-⟩:=ok.r;obtain⟨k3,s3,j,-⟩:=ok.n;have B:=cE d.pa;have D:=cE d.rv;have E:=cE d.nd;subst f;subst i;subst j;clear ok;unfold xW;generalize ba d _ _ _=z0 at *
 refine bL O Tryz.func32 O ?_
 repeat' (first|simp(maxSteps:=9999999) (disch:=first|exact dZ|fail) only[gW,reduceIte,aJ,aB,ang,a_, *]|refine dX ?_ ?_<;>(intro _;try omega))
 all_goals exact⟨_,_,O,by first|(simp[*];done)|(simp[*];omega)|(have o:F d.pa<=20:=M;have u:F d.rv<=20:=M;simp[o,u];omega)⟩
def Pf(ep:Int)(X Y C S W L N:U):List U:=[I ep,X,Y,C,S,W,L,N]
abbrev nl:U:=.list .nil 0 []
def BZ:cB aa 27=J 4:=am
def asR:cB aa 72=J 1:=am
def U4:∃i,aa.info? 46=J i/\i.size=4/\i.bytes<=64/\(i.zero.map λz=>z.cells.size)=J 4:=by
 have h:(match aa.info? 46 with|some i=>Nat.beq i.size 4&&Nat.ble i.bytes 64&&decide ((i.zero.map λz=>z.cells.size)=J 4)|none=>ai)=V:=am;cases e:aa.info? 46 with
 |none=>rw[e]at h;cases h
 |some i=>rw[e]at h;simp only[bm,decide_eq_true_eq]at h;exact⟨i,O,Nat.eq_of_beq_eq_true h.1.1,jq h.1.2,h.2⟩
structure TI(h H:Heap)(X Y:U)(T:List U)(t:Tok):Prop where
 ext:Ext h H
 ok:c_ H=V
 can:db h.tn H t
 pb:H.boxes[h.boxes.length]?=J [X,Y]
 tb:H.boxes[h.boxes.length+1]?=J T
section
variable {h H:Heap} {X Y:U} {T:List U} {t:Tok}
def TI.app(b:TI h H X Y T t):TI h (H.app t) X Y T (.free H.tn):=by have e:=Grown.one b.can b.ok b.ext.tn;exact⟨e.ext b.ext (aV _),e.ok,e.can,by rw[dP];exact b.pb,by rw[dP];exact b.tb⟩
def TI.push(b:TI h H X Y T t)(cs:List U):TI h (H.push cs) X Y T t:=⟨b.ext.trans (.push _ _),b.ok,by rw[xP];exact b.can,aM b.pb,aM b.tb⟩
def TI.put(b:TI h H X Y T t)(e:List U):TI h (H.put (F h.boxes+1) e) X Y e t:=by have f:=(aS.1 b.tb).1;exact⟨b.ext.fy M _,b.ok,by rw[Ac];exact b.can,by rw[cr M];exact b.pb,dn f⟩
def TI.nil(b:TI h H X Y T t):TI h H X Y T .nil:=⟨b.ext,b.ok,.inl O,b.pb,b.tb⟩
end
section
variable {H:Heap} {b:Nat} {ep:Int} {X Y C S W L N x:U}
def stS(e:H.boxes[b]?=J (Pf ep X Y C S W L N))(hx:x.bG=J [x]):bY aa H 72 (.ptr (.box b) 4) x=J (H.put b (Pf ep X Y C x W L N)):=
 fE (off:=4) (cs:=Pf ep X Y C S W L N) (xs:=[x]) hx asR e O (jq O)
end
structure auz(rows:List (List Int))(ac ah:List Int)(sh:List (Int × Int))(who:List Int)(l:List Pr)(nn:List Int)(X Y C S W L N:U):Prop where
 x:RL X rows
 y:IL Y ac
 c:IL C ah
 s:SL S sh
 w:IL W who
 p:PL L l
 n:IL N nn
 wl:who.length<=16
 nl:nn.length=2 * who.length
 sl:sh.length<=1000
 inn:∀p∈sh,0<=p.1/\p.1<ac.length
 cl:ah.length<=1000000
 ll:l.length<=1000000
structure TB(h H:Heap)(T:List U)(t:Tok):Prop where
 ext:Ext h H
 ok:c_ H=V
 can:db h.tn H t
 tb:H.boxes[h.boxes.length]?=J T
section
variable {h H:Heap} {T:List U} {t:Tok}
def TB.app(b:TB h H T t):TB h (H.app t) T (.free H.tn):=by have e:=Grown.one b.can b.ok b.ext.tn;exact⟨e.ext b.ext (aV _),e.ok,e.can,by rw[dP];exact b.tb⟩
def TB.push(b:TB h H T t)(cs:List U):TB h (H.push cs) T t:=⟨b.ext.trans (.push _ _),b.ok,by rw[xP];exact b.can,aM b.tb⟩
def TB.start(e:c_ h=V)(T:List U):TB h (h.push T) T .nil:=⟨.push _ _,e,.inl O,aK _ _⟩
end
def Jd:(fM aa 52).bind U.bG=J [I 0,I 0]:=am
def EW:cB aa 52=J 2:=am
def abT:fx aa 52=J V:=am
def yS{H}{b}{x y}(e:H.boxes[b]?=J [I x,I y]):aD aa Gt H 52 (.ptr (.box b) 0)=J (.agg [I x,I y]):=by rw[fC abT EW e (aV 2)];rfl
def BV{H}{b}{x y u v}(e:H.boxes[b]?=J [I x,I y]):bY aa H 52 (.ptr (.box b) 0) (.agg [I u,I v])=J (H.put b [I u,I v]):=
 fE (off:=0) (cs:=[I x,I y]) (xs:=[I u,I v]) O EW e O (aV 2)
def uG(z:List Int)(k:Nat):Int:=(z.take k).foldl dx 0
def abH{z}{k}(h:k<F z):uG z (k+1)=dx (uG z k) (ag z k):=by unfold uG;rw[fY (aN h),List.foldl_append,fS h];rfl
structure uw(who N:List Int)(l:List Pr):Prop where
 len:l.length=who.length
 nl:N.length=2 * who.length
 ok:∀x∈N,okF x
 at_:∀i<who.length,∃no:Int,0<=no/\no<4096/\l[i]?=J ⟨ag who i,no,(ec Gn (ag N (2 * i)):Nat),(ec Gn (ag N (2 * i+1)):Nat)⟩
def uw.vo{who N}{l}(c:uw who N l){i}(h:i<F who):okF (ag N (2*i))/\okF (ag N (2*i+1)):=⟨c.ok _ (Kp (by rw[c.nl];omega)),c.ok _ (Kp (by rw[c.nl];omega))⟩
def uw.jt{who N}{l}(c:uw who N l):l.map Pr.aU=who:=by
 refine nV λe=>?_;rcases dp e (F who) with h|h
 .obtain⟨f,-,-,q⟩:=c.at_ e h;rw[dW,q,fk,fS h,aN h]
 .rw[uy (by rw[br,c.len];exact h),uy h]
def Sv(n):bX ((ec Gn n:Nat):Int)=V:=by have h:=HR ZQ n;unfold bX;rw[fh,h,ZG,decide_eq_true_eq];have:=(elem_iff.1 h).1;omega
def al8:∀{l:List Pr} {e:Int},dy e (l.map Pr.aU)=V->(∀p∈l,0<=p.no/\p.no<4096/\bX p.d=V/\bX p.e=V)->mh e l=V:=by
 intro l
 induction l with
 |nil=>intro _ _ _;rfl|cons p l i=>intro e h1 h2;rw[eD,dy]at h1;simp only[bm,decide_eq_true_eq]at h1;obtain⟨u,v,j,o⟩:=h2 p gx;rw[NT.mh,i h1.2 λq f=>h2 q (gj _ f),j,o];simp only[ZG,bm,decide_eq_true_eq];omega
def uw.mem{who N}{l}(c:uw who N l){p}(hp:p∈l):∃i,∃(_:i<F who) (f:Int),0<=f/\f<4096/\l[i]?=J p/\p=⟨ag who i,f,(ec Gn (ag N (2*i)):Nat),(ec Gn (ag N (2*i+1)):Nat)⟩:=by obtain⟨i,j⟩:=List.getElem?_of_mem hp;have e:=(aS.1 j).1;rw[c.len]at e;obtain⟨f,o,u,q⟩:=c.at_ i e;rw[j]at q;injection q with q;exact⟨i,e,f,o,u,j,q⟩
def uw.bT{who N}{l}(c:uw who N l)(A:dy (-1) who=V):mh (-1) l=V:=by refine al8 (by rw[c.jt];exact A) λp hp=>?_;obtain⟨o,i,j,e,f,-,rfl⟩:=c.mem hp;exact⟨e,f,Sv _,Sv _⟩
def ixW(who:List Int)(k:Int):Nat:=who.idxOf k
section
variable {rows:List (List Int)} {ac who N s y:List Int} {l:List Pr} {text:List UInt8} {ep:Int}
end
def R3:List (List Int):=[[1,1],[1,2],[1,3]]
def O3:List Int:=[0,1,2]
def S2:List Int:=[10,4]
def zx:List UInt8:=[116,101,120,116]
def pA:Pr:=⟨0,0,(ec Gn 5:Nat),(ec Gn 6:Nat)⟩
def pB:Pr:=⟨2,2,(ec Gn 7:Nat),(ec Gn 8:Nat)⟩
def abt:fm R3 O3 [0,2]=([536870896,0,536870894],V,0):=by decide+kernel
abbrev C3:List Int:=pJ S2
abbrev b3(k:Int):Int:=((iQ (ag C3 0) zx [pA,pB] k:Nat):Int)
abbrev RU:Int:=((gc (ag C3 0) zx [pA,pB]:Nat):Int)
def x3:Int:=dx (dx 5 (cS 6 (b3 0))) (cS RU 21)
def y3:Int:=dx (dx 7 (cS 8 (b3 2))) (cS RU 1073741778)
def FM(a b):ff aa 23 2 [(0,.v (.int .i64 a)),(1,.v (.int .i64 b))]=J (.list .tight 1 (ints [a,b])):=am
def X3:U:=.list .tight 1 [[.list .tight 1 (ints [1,1])],[.list .tight 1 (ints [1,2])],[.list .tight 1 (ints [1,3])]]
def T3:U:=.list .held 1 (bI zx)
def XD:RL X3 R3:=by
 refine⟨.tight,1,[.list .tight 1 (ints [1,1]),.list .tight 1 (ints [1,2]),.list .tight 1 (ints [1,3])],O,λ_=>rfl,O,λi a r e f=>?_⟩
 match i with
 |0=>injection e with e;injection f with f;subst e;subst f;exact⟨_,_,O,λ_=>rfl⟩
 |1=>injection e with e;injection f with f;subst e;subst f;exact⟨_,_,O,λ_=>rfl⟩
 |2=>injection e with e;injection f with f;subst e;subst f;exact⟨_,_,O,λ_=>rfl⟩
 |i+3=>simp at e
def ade(p q):ff aa 32 2 [(0,.agg (aL p)),(1,.agg (aL q))]=J (.list .tight 4 (bH [p,q])):=am
def aud:(fM aa 25).bind U.bG=J [nl,nl]:=am
def Zh:(fM aa 27).bind U.bG=J (aF 0 nl nl nl):=am
def acC{X Y C}{rows}{ac ah}(hx:RL X rows)(E:IL Y ac)(hc:IL C ah):iy aa 27 [(1,.agg [X,Y]),(2,C)]=J (.agg (aF 0 X Y C)):=by obtain⟨_,_,_,rfl,-⟩:=hx.form;obtain⟨_,_,rfl,-⟩:=E;obtain⟨_,_,rfl,-⟩:=hc;kernel_rfl
def acH(a b):iy aa 52 [(0,I a),(1,I b)]=J (.agg [I a,I b]):=am
section
variable {rows:List (List Int)} {ac u avm:List Int} {v sm:Int} {text:List UInt8}
end
def Bj(l:List Pr)(z:List Int):Bool:=decide (F z=F l)&&z.all cN
def iJ(rows:List (List Int))(ac:List Int)(ep:Int)(ah:List Int)(text:List UInt8)(l:List Pr)(z:List Int):(Int × Int) × Bool × Int:=
 if d_ rows ac ep ah text l≠0 then ((0,0),ai,d_ rows ac ep ah text l)
 else if Bj l z=ai then ((0,0),ai,1)
 else if qY (ag ah 0) text ((gc (ag ah 0) text l:Nat):Int) (z.foldl dx 0) then ((((gc (ag ah 0) text l:Nat):Int),z.foldl dx 0),V,0)
 else ((0,0),ai,0)
section
variable {rows:List (List Int)} {ac who N s y z:List Int} {l:List Pr} {text:List UInt8} {ep:Int}
structure aut(rows:List (List Int))(ac who N s y:List Int)(l:List Pr)(text:List UInt8)(ep:Int):Prop where
 auA:uw who N l
 acc:fm rows ac who=(y,V,0)
 ne:who≠[]
 wl:who.length<=64
 tl:text.length<=65536
 ep:0<=ep/\ep<=64
 sl:s.length=cd rows
end
section
variable {H:Heap} {b:Nat} {ep:Int} {X Y C S L Z x:U}
end
structure we(h H:Heap)(X Y:U)(T:List U)(tz to:Tok):Prop where
 ti:TI h H X Y T tz
 co:db h.tn H to
 ne:∀a,tz=.free a->to≠ .free a
def we.start{h H}{X Y}{T}{e}(b:TI h H X Y T e):we h H X Y T e .nil:=⟨b,.inl O,λ_ _ q=>by cases q⟩
def we.push{h H}{X Y}{T}{f e}(b:we h H X Y T f e)(cs):we h (H.push cs) X Y T f e:=⟨b.ti.push cs,by rw[xP];exact b.co,b.ne⟩
def we.app{h H}{X Y}{T}{o j}(b:we h H X Y T o j):we h (H.app j) X Y T o (.free H.tn):=by
 have i:=Grown.one b.co b.ti.ok b.ti.ext.tn;refine⟨⟨i.ext b.ti.ext (aV _),i.ok,CN b.ti.can λa e f=>b.ne a f e,by rw[dP];exact b.ti.pb,by rw[dP];exact b.ti.tb⟩,i.can,λa e f=>?_⟩;injection f with f;subst f;rcases b.ti.can with q|q|⟨m,q,-,u⟩
 .rw[q]at e;cases e
 .rw[q]at e;cases e
 .rw[q]at e;injection e with e;have:=qu u;omega
def O4:List Int:=[1,2,3]
def X4:U:=.list .tight 1 [[.list .tight 1 (ints [1,1])],[.list .tight 1 (ints [1,2])],[.list .tight 1 (ints [1,3])]]
def RL.mN{x}{l}(hx:RL x l)(e:au 0 0 0 x=V)(h):RL (dD h x) l/\au 0 0 0 (dD h x)=V:=by obtain⟨k,s,f,rfl,i,h1,h2⟩:=hx;refine⟨⟨bU k,s,f,O,i,h1,h2⟩,?_⟩;show au 0 0 0 (.list (bU k) s (f.map λa=>[a]))=V;rw[au]at e ⊢;rw[ef,mq];simp only[bm]at e;exact e.2
def IL.mN{x}{l}(hx:IL x l)(h):IL (dD h x) l/\au 0 0 0 (dD h x)=V:=by obtain⟨k,s,rfl,e⟩:=hx;refine⟨⟨bU k,s,O,e⟩,?_⟩;show au 0 0 0 (.list (bU k) s (ints l))=V;rw[au,ef,jj];rfl
def BL.mN{x}{l}(hx:BL x l)(h):BL (dD h x) l/\au 0 0 0 (dD h x)=V:=by obtain⟨k,s,rfl,e⟩:=hx;refine⟨⟨bU k,s,O,e⟩,?_⟩;show au 0 0 0 (.list (bU k) s (bI l))=V;rw[au,ef,i'];rfl
def PL.mN{x}{l}(hx:PL x l)(h):PL (dD h x) l/\au 0 0 0 (dD h x)=V:=by obtain⟨k,s,rfl,e⟩:=hx;refine⟨⟨bU k,s,O,e⟩,?_⟩;show au 0 0 0 (.list (bU k) s (bH l))=V;rw[au,ef,K3];rfl
def abF(a b):∀h,W7.call 80 [I a,I b] h=J (.ret (I (dx a b)),h):=bR (L:=L7) O O O (abE a b _) O rfl
section
variable (ep:Int) (X Y C T L:U) (rows:List (List Int)) (ac ah:List Int) (text:List UInt8) (l:List Pr)
 (hx:RL X rows) (E:IL Y ac) (hc:IL C ah) (ht:BL T text) (hp:PL L l) (eI:ah.length<=1000000) (gB:l.length<=1000000)
include hx E hc ht hp eI gB
def ac3:(d_ rows ac ep ah text l≠0/\∀h,W7.call 37 [.agg (aF ep X Y C),T,L] h=J (.ret (.tuple [.list .nil 0 [],I 0,I 0,I (d_ rows ac ep ah text l)]),h))∨
 (d_ rows ac ep ah text l=0/\∃Z,IL Z (sV (ag ah 0) text l)/\∀h,W7.call 37 [.agg (aF ep X Y C),T,L] h=J (.ret (.tuple [Z,I ((jy (ag ah 0) text l:Nat):Int),I ((gc (ag ah 0) text l:Nat):Int),I 0]),h)):=by
 obtain⟨f,i,e,u,h1,h2,B,D⟩:=Na ep hx E hc;obtain⟨h5,h6⟩:=ht.hold;obtain⟨h7,h8⟩:=hp.hold;have j:aZ [.agg (aF ep X Y C),T,L]=[.agg (aF ep f i e),al T,al L]:=by rw[aZ,aZ,aZ,aZ,u]
 have o:aA 0 0 0 [.agg (aF ep f i e),al T,al L]=V:=by rw[aA,aA,aA,aA,D,h6,h8];rfl
 rcases Rf ep f i e (al T) (al L) rows ac ah text l h1 h2 B h5 h7 eI gB with⟨q,c⟩|⟨q,Z,hZ,c⟩
 .exact .inl ⟨q,bR (L:=L7) O j o (c _) O O⟩
 .obtain⟨v,A⟩:=hZ.mN ⟨[],[],0,[]⟩;refine .inr ⟨q,dD ⟨[],[],0,[]⟩ Z,v,bR (L:=L7) O j o (c _) O ?_⟩;rw[au,aA,A];rfl
end
def atM(f e s)(T)(text)(ht:BL T text)(i:F text<=1000000):
 ∀h,W7.call 26 [I f,T,.agg [I e,I s]] h=J (.ret (.v (.bool (qY f text e s))),h):=by
 obtain⟨h1,h2⟩:=ht.hold;exact bR (L:=L7) (B:=[I f,al T,.agg [I e,I s]]) O (by simp only[aZ];rfl) (by simp only[aA];rw[h2];rfl) (Za f e s (al T) text h1 i _) O rfl
def ID:Tryz.f122.results.toList=[.tmp 8,.tmp 9]:=am
def XM:Tryz.f184.results.toList=[.tmp 2]:=am
def aqc:Tryz.f123.results.toList=[.tmp 4]:=am
def OK:Tryz.f124.results.toList=[.tmp 6]:=am
def BK:Tryz.f60.results.toList=[.cell 8 52,.tmp 9,.tmp 10]:=am
section
variable {pr:aQ->Option (List U->Heap->Option (U × Heap))}
def aiX(My:pr 164=af)(g:aQ)(p:Int->Bool)(h:Heap)(x:U)(l:List Int)(hx:IS h x l)(hl:l.length<=1000000)(hp:∀n∈l,(whole aa Gt pr).call g [I n] h=J (.ret (.v (.bool (p n))),h)):
 ∃r h',(whole Tryz.prog Gt pr).call 164 [x,.func (.func g) [] []] h=some (r,h')/\h'=h/\∃i:Int,r=.ret (I i)/\decide (0<=i)=l.any p:=by
 have lnx:=hx.len;have B:=ae.mk (aj hp hx);clear hp hx;refine bL My Tryz.func164 rfl ?_;refine bg @qO ?_;refine b9 (λm D H=>∃i:Nat,i<=l.length/\m=l.length - i/\(l.take i).any p=ai/\D.get 0=x/\D.get 1=.func (.func g) [] []/\D.get 7=.v (.int .i64 (l.length:Nat))/\D.get 8=.v (.int .i64 (i:Nat))/\D.defers=[]/\H=h) ?_ l.length _ _ ?_;rotate_left 1
 .refine⟨0,bV _,rfl,by simp,?_,?_,?_,?_,?_,rfl⟩<;>exact gR
 clear lnx;rintro m D H ⟨i,hi,rfl,E,g0,g1,g7,g8,hd,rfl⟩;have ka:=ae.mk E;clear E;by_cases o:i<l.length
 .obtain⟨a,ix,A⟩:=B.out.2.at o;have ld:=A H B.out.2;clear A;have v:l[i]?=J (ag l i):=by rw[aN o,fS o]
  have hc:=B.out.1 (ag l i) (cU v);have fH:(i:Int)<(l.length:Int):=by omega
  have f:(l.take (i+1)).any p=p (ag l i):=by rw[fY v,List.any_append,ka.out];simp
  have kt:=ae.mk f;have kh:=ae.mk v;clear v f;unfold I at hc;cases e:p (ag l i) with
  |true=>rw[e] at hc;have j:l.any p=V:=List.any_eq_true.2 ⟨_,cU kh.out,e⟩;have u:=ae.mk j;clear j e;refine cK @qO @dM.{0} @ga.{0} ?_;exact⟨_,_,rfl,rfl,(i:Int),rfl,by rw[u.out];simp⟩
  |false=>rw[e] at hc;have kt2:(l.take (i+1)).any p=ai:=kt.out.trans e;clear e;refine cK @qO @dM.{0} @ga.{0} ?_;exact⟨l.length - (i+1),by omega,i+1,by omega,rfl,kt2,by simp⟩
 .have:i=l.length:=by omega
  subst this;have:=ka.out;rw[fB] at this;have u:=ae.mk this;clear this;refine bg @qO ?_;exact⟨_,_,rfl,rfl,-1,rfl,by rw[u.out];rfl⟩
def ae2(f:pr 164=af)(e:pr 91=af)(g:aQ)(p:Int->Bool)(h:Heap)(x:U)(l:List Int)(hx:IS h x l)(o:F l<=1000000)(hp:∀n∈l,(whole aa Gt pr).call g [I n] h=J (.ret (.v (.bool (p n))),h)):
 (whole aa Gt pr).call 91 [x,.func (.func g) [] []] h=J (.ret (.v (.bool (l.any p))),h):=by
 obtain⟨r,u,c,rfl,v,rfl,i⟩:=aiX f g p h x l hx o hp;have j:decide (0<=v)=l.any p:=i;unfold I at c;refine cq e Tryz.func91 O ?_;clear i hp hx;exact iB @Oo
end
def alr(n)(h):W7.call 184 [I n] h=J (.ret (.v (.bool (kj n))),h):=by
 unfold I kj;by_cases e:n<0
 .refine cq O aa5 O ?_;have:decide (n<0)=V:=by simp[e]
  exact dV @XM @Bool.true_or
 .refine cq O aa5 O ?_;have:decide (n<0)=ai:=by simp[e]
  exact dV @XM @Bool.false_or
def VB{H}{b}{ep}{X Y C}(e:H.boxes[b]?=J (aF ep X Y C)):aD aa Gt H 27 (.ptr (.box b) 0)=J (.agg (aF ep X Y C)):=by rw[fC am BZ e (jq O)];rfl
def oq(rows:List (List Int))(ac:List Int)(ep:Int)(ah:List Int)(text:List UInt8)(l:List Pr)(z:List Int):Int × Int:=
 if d_ rows ac ep ah text l≠0 then (0,d_ rows ac ep ah text l) else if Bj l z=ai then (0,1) else (((gc (ag ah 0) text l:Nat):Int),0)
def aeo(h:Heap)(ep:Int)(X Y C T L Z:U)(rows:List (List Int))(ac ah:List Int)(text:List UInt8)(l:List Pr)(z:List Int)
 (hx:RL X rows) (E:IL Y ac) (hc:IL C ah) (ht:BL T text) (hp:PL L l) (eI:F ah<=1000000) (gB:F l<=1000000) (D:IS h Z z) (yJ:F z<=1000000):
 ∃r h',W7.call 122 [.agg (aF ep X Y C),T,L,Z] h=J (r,h')/\h'=h.push (aF ep X Y C)/\r=.ret (.tuple [I (oq rows ac ep ah text l z).1,I (oq rows ac ep ah text l z).2]):=by
 have bx:=mP (ep:=ep) hx E hc;have c1:=ac3 ep X Y C T L rows ac ah text l hx E hc ht hp eI gB;have A:IS (h.push (aF ep X Y C)) Z z:=D.mono λc cs q=>aM q;have B:=ae2 (pr:=HT) O O 184 kj (h.push (aF ep X Y C)) Z z A yJ (λn _=>alr n _);have lnZ:=D.len;have lnL:=hp.dK;have l1:=VB (aK h (aF ep X Y C));have f:(!z.any kj)=z.all cN:=Kj z;refine bL O Tryz.func122 O ?_;rcases c1 with⟨q,c1⟩|⟨q,z0,hB,c1⟩
 .have i:ae (oq rows ac ep ah text l z=(0,d_ rows ac ep ah text l)):=⟨by unfold oq;rw[av q]⟩;generalize d_ rows ac ep ah text l=be at *
  clear hx E hc ht hp D A f B;unfold I at *
  refine bE @ID @a_ ?_;exact⟨_,_,O,O,by rw[i.out]⟩
 have i:ae (oq rows ac ep ah text l z=if Bj l z=ai then (0,1) else (((gc (ag ah 0) text l:Nat):Int),0)):=⟨by unfold oq;rw[aP (by rw[q];simp)]⟩;have u:ae (Bj l z=(decide (F z=F l)&&z.all cN)):=⟨O⟩;clear hx E hc ht hp D A q hB;generalize ((gc (ag ah 0) text l:Nat):Int)=ch at *
 generalize ((jy (ag ah 0) text l:Nat):Int)=pt at *
 unfold I at *
 by_cases e:F z=F l;rotate_left 1
 .have hI:¬((F z:Nat):Int)=((F l:Nat):Int):=by omega
  have dI:decide (((F z:Nat):Int)≠((F l:Nat):Int))=V:=bQ hI;have j:ae (oq rows ac ep ah text l z=(0,1)):=⟨by rw[i.out,av (by rw[u.out,b_ e];rfl)]⟩;clear i u f B e;refine bE @ID @a_ ?_;exact⟨_,_,O,O,by rw[j.out]⟩
 have hI:((F z:Nat):Int)=((F l:Nat):Int):=by omega
 have dI:decide (((F z:Nat):Int)=((F l:Nat):Int))=V:=bQ hI;cases o:z.all cN with
 |true=>
  have v:z.any kj=ai:=by rw[o]at f;simpa using f
  rw[v]at B;have j:ae (oq rows ac ep ah text l z=(ch,0)):=⟨by rw[i.out,aP (by rw[u.out,bQ e,o];simp)]⟩;clear i u f v o e;refine bE @ID @a_ ?_;exact⟨_,_,O,O,by rw[j.out]⟩
 |false=>
  have v:z.any kj=V:=by rw[o]at f;simpa using f
  rw[v]at B;have j:ae (oq rows ac ep ah text l z=(0,1)):=⟨by rw[i.out,av (by rw[u.out,o];simp)]⟩;clear i u f v o e;refine bE @ID @a_ ?_;exact⟨_,_,O,O,by rw[j.out]⟩
def abG(a b)(h):W7.call 123 [I a,I b] h=J (.ret (I (dx a b)),h):=by
 have c:=abF a b;unfold I at *
 refine cq O Tryz.func123 O ?_;exact iB @aqc
def agq(h:Heap)(x:U)(l:List Int)(hx:IS h x l)(hl:F l<=1000000):
 ∃r h',W7.call 124 [x,I 0,.func (.func 123) [] []] h=J (r,h')/\h'=h/\r=.ret (I (l.foldl dx 0)):=by
 have A:=hx.len;have v:=ae.mk hx;clear hx;unfold I;refine bL O Tryz.func124 O ?_;refine bg @OK ?_;refine b9 (λm j H=>∃e:Nat,e<=F l/\m=F l-e/\j.get 1=.v (.int .i64 (uG l e))/\j.get 2=.func (.func 123) [] []/\j.get 9=x/\j.get 10=.v (.int .i64 (F l:Nat))/\j.get 11=.v (.int .i64 (e:Nat))/\j.defers=[]/\H=h) ?_ (F l) _ _ ?_;rotate_left 1
 .refine⟨0,bV _,O,?_,?_,?_,?_,?_,?_,O⟩<;>exact gR
 clear A;rintro m j H ⟨e,hi,rfl,B,g2,g9,g10,g11,hd,rfl⟩;by_cases f:e<F l
 .obtain⟨a,ix,i⟩:=v.out.at f;have ld:=i H v.out;clear i;have hc:=abG (uG l e) (ag l e) H;rw[<-abH f]at hc;have D:(e:Int)<(F l:Int):=by omega
  generalize uG l e=ak at *
  generalize u:uG l (e+1)=E at *
  generalize ag l e=z0 at *
  unfold I at hc;refine cK @OK @dM.{0} @ga.{0} ?_;exact⟨F l-(e+1),by omega,e+1,by omega,O,by rw[u],by simp⟩
 .have:e=F l:=by omega
  subst this;have o:uG l (F l)=l.foldl dx 0:=by unfold uG;rw[fB]
  rw[o]at B;refine bg @OK ?_;exact⟨_,_,O,O,O⟩
def aeU(h:Heap)(ep:Int)(X Y C T L Z:U)(rows:List (List Int))(ac ah:List Int)(text:List UInt8)(l:List Pr)(z:List Int)
 (hx:RL X rows) (E:IL Y ac) (hc:IL C ah) (ht:BL T text) (hp:PL L l) (eI:F ah<=1000000) (gB:F l<=1000000) (wV:F text<=1000000) (hz:IS h Z z) (yJ:F z<=1000000):
 ∃r h',W7.call 60 [.agg (aF ep X Y C),T,L,Z] h=J (r,h')/\Ext h h'/\r=.ret (.tuple [.agg [I (iJ rows ac ep ah text l z).1.1,I (iJ rows ac ep ah text l z).1.2],.v (.bool (iJ rows ac ep ah text l z).2.1),I (iJ rows ac ep ah text l z).2.2]):=by
 have bx:=mP (ep:=ep) hx E hc;have zc:=Jd;obtain⟨H0,e⟩:∃H0,(h.push (aF ep X Y C)).push [I 0,I 0]=H0:=⟨_,O⟩;have B:F (h.push (aF ep X Y C)).boxes=F h.boxes+1:=bF _ _;have k0:H0.boxes[h.boxes.length]?=J (aF ep X Y C):=by rw[<-e];exact aM (aK _ _)
 have g0:H0.boxes[F h.boxes+1]?=J [I 0,I 0]:=by have:=aK (h.push (aF ep X Y C)) [I 0,I 0];rw[B,e]at this;exact this
 have x0:Ext h H0:=by rw[<-e];exact(Ext.push _ _).trans (.push _ _)
 obtain⟨_,H1,c1,tD,rfl⟩:=aeo H0 ep X Y C T L Z rows ac ah text l z hx E hc ht hp eI gB (hz.mono λc cs q=>x0.box _ _ q) yJ;have o:Ext H0 H1:=by rw[tD];exact .push _ _
 have k1:=o.box _ _ k0;have g1:=o.box _ _ g0;have l0:=VB k0;have lG:=yS g1;have sG:=BV (u:=0) (v:=0) g1;rw[kC g1]at sG;have kx:=ae.mk (x0.trans o);have kv:ae (iJ rows ac ep ah text l z=if d_ rows ac ep ah text l≠0 then ((0,0),ai,d_ rows ac ep ah text l) else if Bj l z=ai then ((0,0),ai,1)
  else if qY (ag ah 0) text ((gc (ag ah 0) text l:Nat):Int) (z.foldl dx 0) then ((((gc (ag ah 0) text l:Nat):Int),z.foldl dx 0),V,0) else ((0,0),ai,0)):=⟨O⟩
 refine bL O Tryz.func60 O ?_;by_cases j:d_ rows ac ep ah text l=0;rotate_left 1
 .have A:oq rows ac ep ah text l z=(0,d_ rows ac ep ah text l):=by unfold oq;rw[av j]
  rw[A]at c1;have D:ae (iJ rows ac ep ah text l z=((0,0),ai,d_ rows ac ep ah text l)):=⟨by rw[kv.out,av j]⟩;generalize d_ rows ac ep ah text l=be at *
  clear hx E hc ht hp hz kv A tD x0 o k0 g0 k1 g1;unfold I at *
  refine bA @BK @a_ @B @e ?_;exact⟨_,_,O,kx.out,by rw[D.out]⟩
 obtain⟨p1,p2,-⟩:=FK j;have AN:0<F ah:=by rw[p2];exact(uI p1).1
 cases hk:Bj l z with
 |false=>
  have A:oq rows ac ep ah text l z=(0,1):=by unfold oq;rw[aP (by rw[j];simp),av hk]
  rw[A]at c1;have D:ae (iJ rows ac ep ah text l z=((0,0),ai,1)):=⟨by rw[kv.out,aP (by rw[j];simp),av hk]⟩;clear hx E hc ht hp hz kv A tD x0 o k0 g0 k1 g1 j hk p1 p2;unfold I at *
  refine bA @BK @a_ @B @e ?_;exact⟨_,_,O,kx.out,by rw[D.out]⟩
 |true=>
  have A:oq rows ac ep ah text l z=(((gc (ag ah 0) text l:Nat):Int),0):=by unfold oq;rw[aP (by rw[j];simp),aP (by rw[hk];simp)]
  rw[A]at c1;have D:ae (iJ rows ac ep ah text l z=if qY (ag ah 0) text ((gc (ag ah 0) text l:Nat):Int) (z.foldl dx 0) then ((((gc (ag ah 0) text l:Nat):Int),z.foldl dx 0),V,0) else ((0,0),ai,0)):=⟨by rw[kv.out,aP (by rw[j];simp),aP (by rw[hk];simp)]⟩;obtain⟨_,H1f,c2,e1f,rfl⟩:=agq H1 Z z (hz.mono λc cs q=>(x0.trans o).box _ _ q) yJ;rw[e1f]at c2;have c3:=atM (ag ah 0) ((gc (ag ah 0) text l:Nat):Int) (z.foldl dx 0) T text ht wV;have ixC:dH aa 23 C (.v (.int .i64 0))=J (.elem 1 (ints ah) 0 0):=hc.ix (i:=0) AN;have ldC:∀K:Heap,aD aa Gt K 3 (.elem 1 (ints ah) 0 0)=J (.v (.int .i64 (ag ah 0))):=λK=>eJ AN;generalize z.foldl dx 0=sm at *
  generalize ((gc (ag ah 0) text l:Nat):Int)=f at *
  generalize AU:qY (ag ah 0) text f sm=vv at *
  generalize ag ah 0=key at *
  obtain⟨H2,uM⟩:∃H2,H1.push [I f,I sm]=H2:=⟨_,O⟩;have x2:Ext H1 H2:=by rw[<-uM];exact .push _ _
  have l1:aD aa Gt H2 23 (.ptr (.box (F h.boxes)) 3)=J C:=dE mE (x2.box _ _ k1) O;have s1:bY aa (H1.push [I 0,I 0]) 52 (.ptr (.box (F H1.boxes)) 0) (.agg [I f,I sm])=J H2:=by rw[<-uM];exact kL O EW O O
  have t2:H2.boxes[H1.boxes.length]?=J [I f,I sm]:=by rw[<-uM];exact aK _ _
  have l2:=yS t2;have g2:=x2.box _ _ g1;have lG2:=yS g2;have sG2:=BV (u:=0) (v:=0) g2;rw[kC g2]at sG2;have sR:=BV (u:=f) (v:=sm) g2;have gl:=(aS.1 g2).1;have lR:aD aa Gt (H2.put (F h.boxes+1) [I f,I sm]) 52 (.ptr (.box (F h.boxes+1)) 0)=J (.agg [I f,I sm]):=yS (dn gl);have bd:=acH f sm;have kx2:=ae.mk (aj ((x0.trans o).trans x2) (((x0.trans o).trans x2).fy M (b:=F h.boxes+1) [I f,I sm]));clear hx E hc ht hp hz kv A tD x0 o x2 k0 g0 k1 g1 g2 t2 j hk p1 p2 AN kx gl sG lG;cases vv with
  |true=>
   have kr2:ae (iJ rows ac ep ah text l z=((f,sm),V,0)):=⟨D.out⟩;clear D AU sG2 lG2;unfold I at *
   refine bA @BK @a_ @B (aj @e @iK) ?_;refine du Ry am ?_;refine bE @BK @iK ?_;exact⟨_,_,O,kx2.out.2,by rw[kr2.out]⟩
  |false=>
   have kr2:ae (iJ rows ac ep ah text l z=((0,0),ai,0)):=⟨D.out⟩;clear D AU sR lR;unfold I at *
   refine bA @BK @a_ @B (aj @e @iK) ?_;refine du Ry am ?_;refine bE @BK @iK ?_;exact⟨_,_,O,kx2.out.1,by rw[kr2.out]⟩
end Go.Proofs.YtcbhpkjbiehcpaaGreatDoor
end
section
namespace Go.AE
open Go.RowKit (Below)
mutual
def hJ(z:Nat)(h:Heap):U->U
 | .list k j i=>.list (bU k) j i
 | .arr b f len _=>match h.boxes[b]? with
  |some e=>if f+len*z<=F e/\0<z then .list .held z (nr z e f len) else .bad
  |none=>.bad
 | .tuple e=>.tuple (ng z h e)
 | .agg e=>.agg (ng z h e)
 |x=>x
def ng(z:Nat)(h:Heap):List U->List U
 | []=>[]
 |x::r=>hJ z h x::ng z h r
end
section
variable {P:bj} {G:Nat->Option (List U)} {ok:aQ->Nat->Code->Bool} {w0 w w':bO} {K K1 K2:aW} {h h2:Heap} {z:Nat}
mutual
def aO.hJ(s1:bJ K1 G ok w h2 w')(e:∀g j c,K1.ic g j=J c->K2.ic g j=J c)(E:∀g j c,K1.base<=g->w'.cell? ⟨g,j,af⟩=J c->K2.ic g j=J c):
 ∀{x:U} {c:aG},aO K1 x c->au 0 0 0 (hJ z h2 x)=V->aO K2 (hJ z h2 x) c
 |_,_,.bad c,_=>.bad c
 |_,_,.v x hx,_=>.v x hx
 |_,_,.nil B,_=>.nil B
 |_,_,.fP B a,_=>.fP B a
 |_,_,.list k B D g f m o cells hn hr A hc ht ha,h=>by
  have hf:e_ 0 0 0 D=V:=by simp only[Go.AE.hJ,au,bm]at h;exact h.2
  have wX:aH K2 D.flatten cells:=aH.io e A (by rw[oa];exact hf);cases k with|nil=>exact ht.2.elim|tight=>exact .list .tight B D g f m o cells hn hr wX (λj c v=>e _ _ _ (hc j c v)) ⟨ht.1,ht.2⟩ ha|free z0=>exact .list .held B D g f m o cells hn hr wX (λj c v=>e _ _ _ (hc j c v)) ⟨ht.1,aX⟩ ha|held=>exact .list .held B D g f m o cells hn hr wX (λj c v=>e _ _ _ (hc j c v)) ⟨ht.1,aX⟩ ha
 |_,_,.arr b g f len o i qx hb hl ph ho hr,h=>by
  simp only[Go.AE.hJ]at h ⊢;cases iT:h2.boxes[b]? with
  |none=>exact .bad _|some u=>
   rw[iT]at h;simp only at h ⊢;split at h
   .rename_i hz;rw[av hz];have iq:=hz.1;have hf:e_ 0 0 0 (nr z u f len)=V:=(by simp only[au,bm]at h;exact h.2);obtain⟨q1,q2,q3,cells,z2,q4,q5⟩:=s1.box b g u hb iT;have Un:=q5.le;by_cases h0:o=0
    .have:len=0:=(by omega);subst this;exact .list .held z [] g i 0 qx [] O (λ_ h=>by cases h) .nil (λ_ _ h=>by grind) ⟨bV _,aX⟩ O
    .have AJ:i=f:=(by simp_all);subst AJ;have A:aH K1 ((u.drop i).take (len*z)) (((cells.toList.take (F u)).drop i).take (len*z)):=(q5.1.drop i).take (len*z);have pW:F ((u.drop i).take (len*z))=len*z:=(by rw[cR,ev];omega);refine .list .held z _ g i len qx (((cells.toList.take (F u)).drop i).take (len*z)) (by rw[Ok]) (Ol iq) ?_ (λj c v=>?_) ⟨M,aX⟩ ?_
     .rw[vB];rw[<-oa,vB]at hf;exact aH.io e A hf
     .refine E _ _ _ q1 ?_;have uT:j<len*z:=(by have:=(aS.1 v).1;rw[cR]at this;omega);rw[mr,av uT,oL,mr,av M]at v;rw[cell_of q4];simp_all
     .rw[vB]
      grind
   .rename_i iq;rw[aP iq];exact .bad _
 |_,_,.agg u vs A,h=>.agg _ vs (aH.hJ s1 e E A (by simpa only[Go.AE.hJ,au] using h))
 |_,_,.tuple u vs A,h=>.tuple _ vs (aH.hJ s1 e E A (by simpa only[Go.AE.hJ,au] using h))
 |_,_,.box b g f hb,h=>by simp[Go.AE.hJ,au]at h
 |_,_,.dB g f,_=>.dB g f
 |_,_,.elem B D z0 f g z1 p cells hr A hc hi hp ha,h=>.elem B D z0 f g z1 p cells hr (aH.io e A (by rw[oa];simpa only[Go.AE.hJ,au] using h)) (λj c v=>e _ _ _ (hc j c v)) hi hp ha
 |_,_,.func fn first o fs u h1 h2,h=>by simp only[Go.AE.hJ,au,bm]at h;exact .func fn first o fs u (aH.io e h1 h.1) (aH.io e h2 h.2)
 |_,_,.yield l g hl,h=>by simp[Go.AE.hJ,au]at h
 |_,_,.iface t x c hx,h=>by simp only[Go.AE.hJ,au]at h;exact .iface t x c (aO.io e hx h)
def aH.hJ(i:bJ K1 G ok w h2 w')(f:∀g j c,K1.ic g j=J c->K2.ic g j=J c)(e:∀g j c,K1.base<=g->w'.cell? ⟨g,j,af⟩=J c->K2.ic g j=J c):
 ∀{xs:List U} {cs:List aG},aH K1 xs cs->aA 0 0 0 (ng z h2 xs)=V->aH K2 (ng z h2 xs) cs
 |_,_,.nil,_=>.nil
 |_,_,.cons x c xs cs hx o,h=>by simp only[ng,aA,bm]at h;exact .cons _ c _ cs (aO.hJ i f e hx h.1) (aH.hJ i f e o h.2)
end
def Nw(z:Nat)(R:Rec)(g:aQ)(args:List U):Option U:=
 if aA 0 0 0 (aZ args)=V then
  match R.call g (aZ args) ⟨[],[],0,[]⟩ with
  |some (.ret y,h2)=>if au 0 0 0 (hJ z h2 y)=V then J (hJ z h2 y) else af
  |_=>af
 else af
def FO(z:Nat)(R:Rec)(g:aQ)(args:List U)(h:Heap):Option (U × Heap):=(Nw z R g args).map (·,h)
def adQ{aI:aQ->Option (List U->Heap->Option (U × Heap))}(hp:Prog P)(hG:∀g cs,G g=J cs->aA 0 0 0 cs=V)(e:∀z0 g p,aI g=J p->jV P G z0 g p){g:aQ}(v:∃fn,P.funcs[g]?=J fn/\fn.body.isSome=V)(z0:bO):
 jV P G z0 g (FO z (whole P G aI) g):=by
 refine⟨v,λargs h x h' hx K w i hv f cs=>?_⟩;unfold FO Nw at hx;split at hx
 .rename_i hf;split at hx
  .rename_i y h2 hc;split at hx
   .rename_i u;simp only[fk,dt,cL]at hx;obtain⟨rfl,rfl⟩:=hx;obtain⟨-,j⟩:=(E9 hp (e w)).call g _ _ _ _ hc;have s0:=bJ.alone f hG;obtain⟨K1,w',fr,le,o,E,A,z2,wW,D⟩:=j (K.alone w.heap.size) w i (aH.io (K1:=K) (K2:=K.alone w.heap.size) (λ_ _ _ h=>h) hv.hold hf) s0 cs;have hb:Below w.heap.size w w':=(by have:=o.fD;rwa [le.base]at this);refine⟨.returned z2,w',fr,⟨z2,_,O,aW.D3 f,aO.hJ (K2:=K.jN w.heap.size w') o (λg z1 c hc=>?_) (λg z1 c B hc=>?_) wW u,bJ.jN f hb⟩,E,A,D⟩
    .rcases le.new g z1 c hc with q|q
     .have:g<w.heap.size:=f.tX q;simp only[aW.jN,av this];exact q
     .have q:w.heap.size<=g:=q;simp only[aW.jN,aP (M:¬g<w.heap.size)];exact o.ic g z1 c hc
    .have q:w.heap.size<=g:=(by rw[le.base]at B;exact B);simp only[aW.jN,aP (M:¬g<w.heap.size)];exact hc
   grind
  grind
 grind
def lJ(R:Rec)(L:List aQ)(Z:aQ->Nat)(q:aQ->Option (List U->Heap->Option (U × Heap)))(g:aQ):Option (List U->Heap->Option (U × Heap)):=
 if L.contains g=V then J (wm R g) else match Z g with|0=>q g|z+1=>J (FO (z+1) R g)
def Hw{aI:aQ->Option (List U->Heap->Option (U × Heap))}(hp:Prog P)(j:∀g cs,G g=J cs->aA 0 0 0 cs=V)(f:∀i g p,aI g=J p->jV P G i g p){L:List aQ}{Z:aQ->Nat}{q:aQ->Option (List U->Heap->Option (U × Heap))}(o:∀g∈L,∃fn,P.funcs[g]?=J fn/\fn.body.isSome=V)(u:∀g,Z g≠0->∃fn,P.funcs[g]?=J fn/\fn.body.isSome=V)(A:∀i g p,q g=J p->jV P G i g p):
 ∀i g p,lJ (whole P G aI) L Z q g=some p->jV P G i g p:=by
 intro i g p e;unfold lJ at e;split at e
 .rename_i v;injection e with e;subst e;exact KG hp j f (o g (by simp_all)) i
 .split at e
  .simp_all
  .rename_i z B;injection e with e;subst e;exact adQ hp j f (u g M) i
section
variable {R:Rec} {L:List aQ} {Z:aQ->Nat} {q:aQ->Option (List U->Heap->Option (U × Heap))} {g:aQ} {args B:List U} {x y:U} {h1:Heap}
def Ed(i:L.contains g=V)(e:aZ args=B)(f:aA 0 0 0 B=V)(hc:R.call g B ⟨[],[],0,[]⟩=J (.ret y,h1))(E:dD h1 y=x)(hx:au 0 0 0 x=V):
 ∀h,(whole P G (lJ R L Z q)).call g args h=J (.ret x,h):=by
 intro h;subst e;subst E;rw[qZ];unfold j9 lJ;rw[av i];simp only[wm,tW,av f,hc,av hx,fk]
def V8{z:Nat}(j:L.contains g=ai)(i:Z g=z+1)(e:aZ args=B)(f:aA 0 0 0 B=V)(hc:R.call g B ⟨[],[],0,[]⟩=J (.ret y,h1))(E:hJ (z+1) h1 y=x)(hx:au 0 0 0 x=V):
 ∀h,(whole P G (lJ R L Z q)).call g args h=J (.ret x,h):=by
 intro h;subst e;subst E;rw[qZ];unfold j9 lJ;rw[aP (by simp_all),i];simp only[FO,Nw,av f,hc,av hx,fk]
end
end
end Go.AE
end
section
namespace Go.AE
section
variable {P:bj} {G:Nat->Option (List U)} {R:Rec}
def adS{ops:Array Oper}{e:Env}{h:Heap}{k:Nat}{o:Oper}{s d:aC}{src:Operand}{v x:U}(B:ops[k]?=J o)(u:o.op=.convert s d src)
 (h1:ck P G R ops (ops.toList.take k) e h (λq f _=>q=.normal/\f.eval src=v))
 (h2:∀m,m<=ops.size->ck P G R ops (ops.toList.take m) e h (λq _ i=>q=.normal/\jX P i s d v=J (x,i))):uH P G R ops e h k:=by
 have hk:k<ops.size:=(Array.getElem?_eq_some_iff.1 B).1;obtain⟨q1,f,hr,A,rfl,D⟩:=h1;rw[<-nP M]at A;refine⟨o,x,f,hr,B,by rw[u];rfl,A,λm i=>?_⟩;obtain⟨q2,E,j,f1,rfl,f2⟩:=h2 m i;rw[<-nP i]at f1;refine⟨E,j,f1,?_⟩;unfold dF;rw[u];show(di P G f.eval j (.convert s d src)).map _=_;show((jX P j s d (f.eval src))).map _=_;rw[D,f2];rfl
end
mutual
def lF:∀x:U,al (al x)=al x
 | .bad=>rfl
 | .v _=>rfl
 | .list k i f=>by rw[al,al,Mp f];cases k<;>rfl
 | .arr _ _ _ _=>rfl
 | .agg e=>by rw[al,al,j' e]
 | .tuple e=>by rw[al,al,j' e]
 | .ptr _ _=>rfl
 | .elem i f u j=>by first|rfl|rw[al,al,Mp f]
 | .func o a b=>by first|rfl|rw[al,al,j' a,j' b]
 | .yield _=>rfl
 | .iface t x=>by first|rfl|rw[al,al,lF x]
def j':∀l:List U,aZ (aZ l)=aZ l
 | []=>rfl
 |x::l=>by rw[aZ,aZ,lF x,j' l]
def Mp:∀l:List (List U),dk (dk l)=dk l
 | []=>rfl
 |x::l=>by rw[dk,dk,j' x,Mp l]
end
mutual
def Hi{h h2:Heap}:∀x:U,dD h2 (dD h x)=dD h x
 | .bad=>rfl
 | .v _=>rfl
 | .list k o j=>by rw[dD,dD];cases k<;>rfl
 | .arr b i len f=>by
  rw[dD];split
  .split
   .rfl
   .rfl
  .rfl
 | .agg e=>by rw[dD,dD,MV e]
 | .tuple e=>by rw[dD,dD,MV e]
 | .ptr _ _=>rfl
 | .elem _ _ _ _=>rfl
 | .func _ _ _=>rfl
 | .yield _=>rfl
 | .iface _ _=>rfl
def MV{h h2:Heap}:∀l:List U,ir h2 (ir h l)=ir h l
 | []=>rfl
 |x::l=>by rw[ir,ir,Hi x,MV l]
end
structure bK(R:Rec)(g:aQ)(a:List U)(y:U):Prop where
 call:∀h,R.call g a h=J (.ret y,h)
 held:aZ a=a
 fit:aA 0 0 0 a=V
 mN:∀h,dD h y=y
 fits:au 0 0 0 y=V
section
variable {P:bj} {G:Nat->Option (List U)} {R:Rec} {L:List aQ} {Z:aQ->Nat} {q:aQ->Option (List U->Heap->Option (U × Heap))} {g:aQ} {a b:List U} {y:U}
def bK.of{h1:Heap}{x:U}(hc:∀h,R.call g a h=J (.ret x,h))(e:aZ a=a)(f:aA 0 0 0 a=V)(E:∀h,dD h x=x)(hx:au 0 0 0 x=V):bK R g a x:=⟨hc,e,f,E,hx⟩
def bK.up(c:bK R g a y)(e:L.contains g=V):bK (whole P G (lh R L)) g a y:=
 ⟨bR e c.held c.fit (c.call _) (c.mN _) c.fits,c.held,c.fit,c.mN,c.fits⟩
def bK.mix(c:bK R g a y)(e:L.contains g=V):bK (whole P G (lJ R L Z q)) g a y:=
 ⟨Ed e c.held c.fit (c.call _) (c.mN _) c.fits,c.held,c.fit,c.mN,c.fits⟩
def bK.use(c:bK R g a y)(f:L.contains g=V)(e:aZ b=a):∀h,(whole P G (lh R L)).call g b h=J (.ret y,h):=
 bR f e c.fit (c.call _) (c.mN _) c.fits
def bK.new{x:U}{h1:Heap}(hc:R.call g a ⟨[],[],0,[]⟩=J (.ret x,h1))(i:L.contains g=V)(e:aZ a=a)(f:aA 0 0 0 a=V)(E:dD h1 x=y)(hx:au 0 0 0 y=V):bK (whole P G (lh R L)) g a y:=
 ⟨bR i e f hc E hx,e,f,λh=>by rw[<-E];exact Hi x,hx⟩
def bK.qc{x:U}{h1:Heap}(hc:R.call g a ⟨[],[],0,[]⟩=J (.ret x,h1))(i:L.contains g=V)(e:aZ a=a)(f:aA 0 0 0 a=V)(E:dD h1 x=y)(hx:au 0 0 0 y=V):bK (whole P G (lJ R L Z q)) g a y:=
 ⟨Ed i e f hc E hx,e,f,λh=>by rw[<-E];exact Hi x,hx⟩
end
end Go.AE
end
section
namespace Go.Proofs.YtcbhpkjbiehcpaaGreatDoor
open Go.AE Go.NT
section
variable {g:aQ} {a:List U} {x y:U} {h1:Heap}
def Sa(hc:W4.call g a ⟨[],[],0,[]⟩=J (.ret x,h1))(i:L5.contains g=V)(e:aZ a=a)(f:aA 0 0 0 a=V)(E:dD h1 x=y)(hx:au 0 0 0 y=V):bK W5 g a y:=⟨gr (L:=L5) i e f hc E hx,e,f,λh=>by rw[<-E];exact Hi x,hx⟩
def s_(c:bK W6 g a y)(e:L7.contains g=V)(f:L8.contains g=V):bK W8 g a y:=(c.up (L:=L7) e).up (L:=L8) f
def Sb(c:bK W5 g a y)(e:L6.contains g=V)(f:L7.contains g=V)(i:L8.contains g=V):bK W8 g a y:=s_ (c.up (L:=L6) e) f i
end
section
variable {x y z:U} {l who:List Int} {rows:List (List Int)} {ac ah:List Int}
def Vt(n):bK W8 66 [I n] (.v (.bool (bX n))):=s_ ⟨atK n,O,O,λ_=>rfl,O⟩ O rfl
def Vm(a n):bK W8 75 [I a,I n] (.tuple [I (fb a n),I (ox a)]):=s_ ⟨aha a n,O,O,λ_=>rfl,O⟩ O rfl
def Vs(n):bK W8 111 [I n] (.v (.bool (bX n))):=bK.up (L:=L8) ⟨atB n,O,O,λ_=>rfl,O⟩ rfl
def ajI(hx:IL x l)(e:F l<=9223372036854775807):bK W8 43 [al x] (.v (.bool (dy (-1) l))):=by obtain⟨h1,h2⟩:=hx.hold;exact s_ ⟨amg _ l h1 e,by rw[aZ,lF,aZ],by rw[aA,h2];rfl,λ_=>rfl,O⟩ O rfl
def Vn(hx:IL x l)(e:F l<=1099511627776)(n:Int):bK W8 105 [al x,I n] (.v (.bool (l.contains n))):=by obtain⟨h1,h2⟩:=hx.hold;exact s_ (bK.up (L:=L6) ⟨Ls _ l n h1 e,by rw[aZ,lF];rfl,by rw[aA,h2];rfl,λ_=>rfl,O⟩ O) O rfl
def aju(hx:RL x rows)(E:IL y ac):bK W8 35 [.agg [al x,al y]] (I (cG rows ac)):=by obtain⟨h1,h2,e,f⟩:=nR hx E;exact s_ ⟨ael _ _ rows ac h1 h2,j' [.agg [x,y]],by simp[aA,au,e,f],λ_=>rfl,O⟩ O rfl
def ajL(hx:RL x rows)(E:IL y ac)(i:F rows<=1000000):bK W8 40 [.agg [al x,al y]] (I (cG rows ac)):=by obtain⟨h1,h2,e,f⟩:=nR hx E;exact bK.up (L:=L8) ⟨aen _ _ rows ac h1 h2 i,j' [.agg [x,y]],by simp[aA,au,e,f],λ_=>rfl,O⟩ rfl
def ajs(hx:RL x rows)(E:IL y ac)(B:IL z who)(i:F who<=1099511627776):∃Z,bK W8 39 [.agg [al x,al y],al z] (.tuple [Z,.v (.bool (fm rows ac who).2.1),I (fm rows ac who).2.2]):=by
 obtain⟨h1,h2,j,o⟩:=nR hx E;obtain⟨u,v⟩:=B.hold;have e:aZ [.agg [al x,al y],al z]=[.agg [al x,al y],al z]:=j' [.agg [x,y],z];have f:aA 0 0 0 [.agg [al x,al y],al z]=V:=by simp[aA,au,j,o,v]
 rcases aby _ _ _ rows ac who h1 h2 u i with⟨D,q,c⟩|⟨l,q,-,Z,A,c⟩
 .rw[q];exact⟨_,s_ ⟨c,e,f,λ_=>rfl,O⟩ O O⟩
 .rw[q];obtain⟨k,s,rfl,-⟩:=A;exact⟨.list (bU k) s (ints l),bK.up (L:=L8) (bK.new (L:=L7) (c _) O e f O (by rw[au,aA,au,ef,jj];rfl)) O⟩
def ajK(hx:RL x rows)(E:IL y ac)(B:IL z who)(A:F rows<=1000000)(i:F who<=1099511627776):∃Z,bK W8 44 [.agg [al x,al y],al z] (.tuple [Z,.v (.bool (fm rows ac who).2.1),I (fm rows ac who).2.2]):=by
 obtain⟨h1,h2,j,o⟩:=nR hx E;obtain⟨u,v⟩:=B.hold;have e:aZ [.agg [al x,al y],al z]=[.agg [al x,al y],al z]:=j' [.agg [x,y],z];have f:aA 0 0 0 [.agg [al x,al y],al z]=V:=by simp[aA,au,j,o,v]
 rcases abv _ _ _ rows ac who h1 h2 u A i with⟨D,q,c⟩|⟨l,q,-,c⟩
 .rw[q];exact⟨_,bK.up (L:=L8) ⟨c,e,f,λ_=>rfl,O⟩ O⟩
 .rw[q];exact⟨_,bK.up (L:=L8) ⟨c,e,f,λ_=>rfl,by rw[au,aA,au,jj];rfl⟩ O⟩
def ajQ(hx:IL x who)(j:pE who)(f:F who<=1000000)(o:Int):∃i:Int,bK W8 178 [al x,I o] (.tuple [I i,.v (.bool (who.contains o))]):=by obtain⟨h1,h2⟩:=hx.hold;obtain⟨_,_,c,-,i,rfl⟩:=Yg ⟨[],[],0,[]⟩ (al x) who o h1 j f;have e:bK W3 178 [al x,I o] (.tuple [I i,.v (.bool (who.contains o))]):=bK.new (L:=L3) c O (by rw[aZ,lF];rfl) (by rw[aA,h2];rfl) O O;exact⟨i,Sb (Sa ((e.up (L:=L4) O).call _) O e.held e.fit (e.mN _) e.fits) O O O⟩
def ajx{v}{r}(j:b8 v r)(e:fg v<=16)(i:F (cA v)<=1099511600000):∃t,bK W8 74 [.agg (aZ r)] (.tuple [.list t 1 (bI (cA v)),I 0]):=by
 obtain⟨h1,h2⟩:=b8.hold v r j;obtain⟨t,hc⟩:=KV h1 e i;have f:aA 0 0 0 [.agg (aZ r)]=V:=by rw[aA,au,h2];rfl
 exact⟨bU t,Sb (Sa (hc _) O (j' [.agg r]) f O (by simp[au,aA,ef,i',I])) O O O⟩
end
def LA:List aQ:=L8++[143,144,72,170,171,95,38,32]
noncomputable def N5:aQ->Option (List U->Heap->Option (U × Heap)):=lh W8 LA
noncomputable abbrev SA:=whole aa Gt N5
def adK:lW N5 LA:=rm
def uU:∀a b:List U,aZ (a++b)=aZ a++aZ b
 | [],_=>rfl
 |x::a,b=>by rw[eu,aZ,uU a b];rfl
def F':∀a b:List U,aA 0 0 0 (a++b)=(aA 0 0 0 a&&aA 0 0 0 b)
 | [],_=>rfl
 |x::a,b=>by rw[eu,aA,aA,F' a b,Bool.and_assoc]
def UC(l:List UInt8):aZ (l.map fA)=l.map fA/\aA 0 0 0 (l.map fA)=V:=by
 induction l with
 |nil=>exact⟨O,O⟩|cons b l e=>
  refine⟨?_,?_⟩
  .show al (fA b)::aZ (l.map fA)=_;rw[e.1];rfl
  .show(au 0 0 0 (fA b)&&aA 0 0 0 (l.map fA))=V;rw[e.2];rfl
section
variable {d:Dc} {p r n:U}
def wt:aZ (ba d p r n)=ba d (al p) (al r) (al n):=by unfold ba;rw[uU,(UC d.tx).1];rfl
def jR.hold(ok:jR d p r n):jR d (al p) (al r) (al n)/\aA 0 0 0 (ba d (al p) (al r) (al n))=V:=by obtain⟨h1,h2⟩:=ok.p.hold;obtain⟨e,f⟩:=ok.r.hold;obtain⟨i,j⟩:=ok.n.hold;refine⟨⟨h1,e,i,ok.t⟩,?_⟩;unfold ba;rw[F',(UC d.tx).2];simp[aA,au,I,h2,f,j]
def ajN(ok:jR d p r n)(hc:d.sg):bK SA 72 [.agg (ba d (al p) (al r) (al n))] (.v (.bool (ij d))):=by obtain⟨k,e⟩:=ok.hold;obtain⟨_,_,c,rfl⟩:=an7 ⟨[],[],0,[]⟩ d _ _ _ k hc.1 hc.2.1 hc.2.2;exact bK.new (L:=LA) c O (by rw[<-wt];exact j' [.agg (ba d p r n)]) (by rw[aA,au,e];rfl) O rfl
def ajO(ok:jR d p r n)(hc:d.sg):bK SA 95 [.agg (ba d (al p) (al r) (al n))] (.v (.bool (ij d))):=by obtain⟨k,e⟩:=ok.hold;obtain⟨_,_,c,rfl⟩:=an8 ⟨[],[],0,[]⟩ d _ _ _ k hc.1 hc.2.1 hc.2.2;exact bK.new (L:=LA) c O (by rw[<-wt];exact j' [.agg (ba d p r n)]) (by rw[aA,au,e];rfl) O rfl
def ajB(ok:jR d p r n):bK SA 32 [.agg (ba d (al p) (al r) (al n))] (.v (.bool (xW d))):=by obtain⟨k,e⟩:=ok.hold;obtain⟨_,_,c,rfl⟩:=aga ⟨[],[],0,[]⟩ d _ _ _ k;exact bK.new (L:=LA) c O (by rw[<-wt];exact j' [.agg (ba d p r n)]) (by rw[aA,au,e];rfl) O rfl
end
def ajJ{x}{l}(hx:IL x l)(e:F l<=9223372036854775807):bK SA 38 [al x] (.v (.bool (dy (-1) l))):=by obtain⟨h1,h2⟩:=hx.hold;obtain⟨_,_,c,-,rfl⟩:=ame ⟨[],[],0,[]⟩ (al x) l h1 e;exact bK.new (L:=LA) c O (by rw[aZ,lF];rfl) (by rw[aA,h2];rfl) O rfl
def Oc:Tryz.f73.results.toList=[.cell 2 118]:=by kernel_rfl
def acv:iy aa 118 [(0,.v (.int .i64 3))]=J (.agg (ar 3 0 [] .nil 0 [])):=by kernel_rfl
def acx(n):iy aa 118 [(0,.v (.int .i64 1)),(1,.v (.int .i64 n))]=J (.agg (ar 1 n [] .nil 0 [])):=by kernel_rfl
def Jb:(fM aa 118).bind U.bG=J (ar 0 0 [] .nil 0 []):=by kernel_rfl
def VI{H}{b}{r}(e:F r=4)(f:H.boxes[b]?=J r):aD aa Gt H 118 (.ptr (.box b) 0)=J (.agg r):=by rw[fC bD (by kernel_rfl:cB aa 118=J 4) f (by rw[e];exact aV 4)];simp[fR,e]
def Pd{H}{b}{r r2}(i:F r=4)(e:F r2=4)(hc:(U.agg r2).bG=J r2)(f:H.boxes[b]?=J r):bY aa H 118 (.ptr (.box b) 0) (.agg r2)=J (H.put b r2):=by rw[fE (off:=0) (cs:=r) (xs:=r2) hc (by kernel_rfl:cB aa 118=J 4) f e M,xh M]
def HD(h:Heap)(fJ:c_ h=V)(x:U)(l:List Int)(hx:IL x l)(hb:∀n∈l,0<=n/\n<=4611686018427387903)(hl:F l<=1000):
 ∃r h',SA.call 73 [x] h=J (r,h')/\Ext h h'/\∃t sz rows,r=.ret (.agg (ar 3 0 [] t sz rows))/\b8 (.list (l.map .int)) (ar 3 0 [] t sz rows)/\e_ 0 0 0 rows=V/\db h.tn h' t/\F rows=F l/\(rows≠[]->sz=4)/\(rows=[]->sz=4∨t=.nil):=by
 obtain⟨k,s,rfl,hs⟩:=hx;have ks:=ae.mk (aj hs hb);clear hs hb;have z:=Jb;have u23:=cT;have u116:=kY;have z3:=eR;have b3:=acv;have eC:=cE l;have q0:(h.push (ar 0 0 [] .nil 0 [])).boxes[h.boxes.length]?=J (ar 0 0 [] .nil 0 []):=aK _ _;have s3:bY aa ((h.push (ar 0 0 [] .nil 0 [])).push (ar 0 0 [] .nil 0 [])) 118 (.ptr (.box (F (h.push (ar 0 0 [] .nil 0 [])).boxes)) 0) (.agg (ar 3 0 [] .nil 0 []))=J ((h.push (ar 0 0 [] .nil 0 [])).push (ar 3 0 [] .nil 0 [])):=by rw[Pd O O O (aK _ _)];congr 1;exact lO _ _ _
 have G0:om h ((h.push (ar 0 0 [] .nil 0 [])).push (ar 3 0 [] .nil 0 [])) (F h.boxes+1) ((l.map Vl.int).take 0) .nil 0 []:=⟨by have:=aK (h.push (ar 0 0 [] .nil 0 [])) (ar 3 0 [] .nil 0 []);rwa [bF]at this,.inl O,fJ,(Ext.push h _).trans (.push _ _),by omega,⟨O,λf z1 r q=>by simp at q⟩,λq=>absurd O q,λ_=>.inr O,O⟩;have R0:((h.push (ar 0 0 [] .nil 0 [])).push (ar 3 0 [] .nil 0 [])).boxes[h.boxes.length]?=J (ar 0 0 [] .nil 0 []):=aM q0;refine bL O Tryz.func73 O ?_;refine bg @Oc ?_;refine bC.gen λv i B ek dm=>?_;have f2:v.get 2=.ptr (.box (F h.boxes)) 0:=by rw[i];exact gS
 have f3:v.get 3=.ptr (.box (F h.boxes+1)) 0:=by rw[i];simp only[gW,reduceIte,aJ,aB,bF]
 have f7:v.get 7=.list k s (ints l):=by rw[i];exact gS
 have f8:v.get 8=.v (.int .i64 (F l:Nat)):=by rw[i];simp only[gW,reduceIte,aJ,aB,eC]
 have f9:v.get 9=.v (.int .i64 (0:Nat)):=by rw[i];exact gR
 have fd:v.defers=[]:=by rw[B];exact gS
 clear i B ek dm;refine b9 (λm z0 H=>∃(f:Nat) (t:Tok) (sz:Nat) (rows:List (List U)),f<=F l/\m=F l-f/\ae (om h H (F h.boxes+1) ((l.map Vl.int).take f) t sz rows)/\ae (H.boxes[h.boxes.length]?=J (ar 0 0 [] .nil 0 []))/\z0.get 2=.ptr (.box (F h.boxes)) 0/\z0.get 3=.ptr (.box (F h.boxes+1)) 0/\z0.get 7=.list k s (ints l)/\z0.get 8=.v (.int .i64 (F l:Nat))/\z0.get 9=.v (.int .i64 (f:Nat))/\z0.defers=[]) ?_ (F l) _ _ ?_;rotate_left 1
 .exact⟨0,.nil,0,[],bV _,O,⟨G0⟩,⟨R0⟩,f2,f3,f7,f8,f9,fd⟩
 clear f2 f3 f7 f8 f9 fd G0 R0 q0 s3;rintro m z0 H ⟨f,t,sz,rows,hi,rfl,u,kR,g2,g3,g7,g8,g9,hd⟩;by_cases j:f<F l
 .have eo:s=1:=ks.out.1 (by intro q;rw[q]at j;simp at j);subst eo;have ld:=eJ (H:=H) (s:=1) j;have o:l[f]?=J (ag l f):=by rw[aN j,fS j]
  have A:=ks.out.2 _ (cU o);have kst:=ae.mk (fY (l:=l.map Vl.int) (i:=f) (x:=.int (ag l f)) (by rw[dW,o];rfl));have fH:(f:Int)<(F l:Int):=by omega
  have lH:F rows<1000000:=by have:=u.out.rel.1;rw[cR,br]at this;omega
  have D:b8 (.int (ag l f)) (ar 1 (ag l f) [] .nil 0 []):=.int _ A;have E:=ae.mk (u.out.put D O);have kR2:ae (((H.app t).put (F h.boxes+1) (ar 3 0 [] (.free H.tn) 4 (rows++[ar 1 (ag l f) [] .nil 0 []]))).boxes[h.boxes.length]?=J (ar 0 0 [] .nil 0 [])):=⟨by rw[cr M,dP];exact kR.out⟩;have l3:=jv u.out.box;have ap:=xG (r:=ar 1 (ag l f) [] .nil 0 []) lH u.out.four u.out.nil u.out.can;have bl:=xK (r:=ar 1 (ag l f) [] .nil 0 []) O O;have bi:=acx (ag l f);have st:=xi (H:=H.app t) (t2:=.free H.tn) (sz2:=4) (rows2:=rows++[ar 1 (ag l f) [] .nil 0 []]) (by rw[dP];exact u.out.box);rw[<-kst.out]at E;clear o A D;generalize ag l f=z1 at *
  refine cK @Oc @dU @aT ?_;exact⟨F l-(f+1),by omega,f+1,_,_,_,by omega,O,E,by first|exact kR2|trivial,by simp⟩
 .have gf:f=F l:=by omega
  subst gf;have e:=u.out;rw[fR (by rw[br];exact aV _)]at e;have o:b8 (.list (l.map .int)) (ar 3 0 [] t sz rows):=.list (l.map .int) t sz rows e.rel.1 e.four (by have:=e.rel.1;rw[br]at this;omega) e.rel.2;have ld:=VI o.len e.box;have st:=Pd (r:=ar 0 0 [] .nil 0 []) (r2:=ar 3 0 [] t sz rows) O O iO kR.out;have ld2:=VI (H:=H.put (F h.boxes) (ar 3 0 [] t sz rows)) (b:=h.boxes.length) o.len (dn (aS.1 kR.out).1);have kv:=ae.mk (aj o (aj (e.ext.fy (aV _) (ar 3 0 [] t sz rows)) (aj e.fit (aj (show db h.tn (H.put (F h.boxes) (ar 3 0 [] t sz rows)) t by rw[Ac];exact e.can) (aj (show F rows=F l by have:=e.rel.1;rw[br]at this;omega) (aj e.four e.nil))))));clear o e;refine bg @Oc ?_;exact⟨_,_,O,kv.out.2.1,_,_,_,O,kv.out.1,kv.out.2.2⟩
def rR:Tryz.f28.results.toList=[.tmp 2,.tmp 3]:=by kernel_rfl
def Va:∀l:List Int,fO (l.map Vl.int)=0
 | []=>rfl
 |n::l=>by rw[eD,fO,Va l];rfl
def Hm:∀l:List Int,F (fU (l.map Vl.int))<=F l*11
 | []=>by simp[fU]
 |n::l=>by have h1:=hw 9 (g_ n);have h2:=Hm l;rw[eD,fU,cg,cA,dY,dY,jh];omega
def Sm(d):fg (iR d)<=16:=by simp only[iR,A3,fg,fO,Va];omega
def Sp{d}(h1:F d.pa<=16)(h2:F d.rv<=16)(h3:F d.nd<=16)(h4:F d.tx=32):F (cA (iR d))<=1000:=by
 have a0:=hw 9 (0+1+1+1+1+1+1+1+1+1+1);have e:=hw 9 (g_ d.no);have f:=hw 9 (g_ d.tm);have i:=hw 9 (g_ d.kd);have j:=hw 9 (g_ d.vl);have o:=hw 9 (g_ d.fr);have u:=hw 9 (g_ d.un);have v:=hw 9 (F d.pa);have A:=hw 9 (F d.rv);have B:=hw 9 (F d.nd);have D:=hw 9 (F d.tx);have E:=Hm d.pa;have b2:=Hm d.rv;have b3:=Hm d.nd;simp only[iR,A3,cA,fU,dY,cg,fQ,br]at *
 omega
def U6{i}:∀{l:List Int} {e:Int},nh i e l=V->∀n∈l,e<n/\n<i
 | [],_,_,n,f=>by cases f
 |a::l,e,h,n,f=>by
  rw[nh]at h;simp only[bm,decide_eq_true_eq]at h;rcases gL.1 f with rfl|f
  .exact h.1
  .have:=U6 h.2 n f;exact⟨M,this.2⟩
def So{d}(h:ij d=V):(0<=d.no/\d.no<4096)/\(0<=d.tm/\d.tm<1099511627776)/\(0<=d.kd/\d.kd<16)/\(0<=d.vl/\d.vl<=1099511627776)/\(0<=d.fr/\d.fr<d.un)/\d.un<=1099511627776/\(hh d.pa 1048577=V/\hh d.rv d.no=V/\hh d.nd d.no=V):=by unfold ij xm at h;simp only[bm,decide_eq_true_eq]at h;exact⟨M,by omega,by omega,by omega,by omega,by omega,h.1.1.2,h.1.2,h.2⟩
def A_{l}{e}(h:hh l e=V):F l<=16/\∀n∈l,0<=n/\n<e:=by unfold hh at h;simp only[bm,decide_eq_true_eq]at h;exact⟨h.2,λn f=>by have:=U6 h.1 n f;omega⟩
def adb(a b c d e f):ff aa 23 6 [(0,.v (.int .i64 a)),(1,.v (.int .i64 b)),(2,.v (.int .i64 c)),(3,.v (.int .i64 d)),(4,.v (.int .i64 e)),(5,.v (.int .i64 f))]=J (.list .tight 1 (ints [a,b,c,d,e,f])):=by kernel_rfl
def acy(s):iy aa 118 [(0,.v (.int .i64 2)),(2,.v (.string (bs s)))]=J (.agg (ar 2 0 s .nil 0 [])):=by kernel_rfl
def ac7{e r2 f i}(h1:F e=4)(h2:F r2=4)(A:F f=4)(B:F i=4)(j:(U.agg e).bG=J e)(c2:(U.agg r2).bG=J r2)(o:(U.agg f).bG=J f)(u:(U.agg i).bG=J i):
 ff aa 116 4 [(0,.agg e),(1,.agg r2),(2,.agg f),(3,.agg i)]=J (.list .tight 4 [e,r2,f,i]):=by
 have v:aa.underlying 116=J (.slice 118):=kY;unfold ff;simp only[v,mU,sd];rw[av ⟨aY,O,by decide⟩];simp[wG,j,c2,o,u,h1,h2,A,B]
def ab3{H}{k}{n0 sz}{es new}(E:F es<1000000)(u:new≠[])(B:F new<=1000)(v:es≠[]->sz=4)(i:es=[]->sz=4∨k=.nil)(o:db n0 H k):
 gb aa H #[116,116] (.list k sz es) (.list .tight 4 new)=J (.list (.free H.tn) 4 (es++new),H.app k):=by
 obtain⟨z0,h1,e,A,j⟩:=MY;have D:=ji (M:F es+F new<=1001000) A;have:=zX (P:=aa) (h:=H) (n0:=n0) (k:=k) (sz:=sz) (es:=es) (new:=new) (x:=.list .tight 4 new) (t1:=116) kY (.inl ⟨118,kY⟩) h1 M (by rw[e];exact j) (by rw[e];unfold jx rowsOf;simp) u M M (by
  rw[e];by_cases f:es=[]
  .rcases i f with q|q
   .exact .inl q
   .exact .inr ⟨f,q⟩
  .exact .inl (v f)) o
 rwa [e]at this
def arx(b):gi aa 29 (.ptr (.box b) 9) af af af=J (.arr b 9 32 32):=by kernel_rfl
def atn(l)(e):((List.range (F l)).map λi=>((e++l.map fA).drop (F e+i*1)).take 1)=bI l:=by
 apply nV;intro i;rw[dW];by_cases f:i<F l
 .rw[List.getElem?_range f,fk,jC,<-pF,Ci,ss (by simpa using f)];unfold bI;rw[dW,aN f];simp[fA,ie]
 .rw[uy (by simp;omega),uy (by unfold bI;simp;omega)];rfl
def adF:∀l:List UInt8,bytesOf (bI l)=J l:=by
 intro l
 induction l with
 |nil=>rfl|cons a l e=>show(match Go.AE.byteOf (ie a),bytesOf (bI l) with|some b,J l=>J (b::l)|_,_=>af)=_;rw[e];simp[Go.AE.byteOf,ie]
def Aj{H}{b}{d}{p r n}(ht:F d.tx=32)(f:H.boxes[b]?=J (ba d p r n)):jX aa H 60 9 (.arr b 9 32 32)=J (.v (.string (bs d.tx)),H):=by
 have h1:aa.underlying 9=J .string:=Tryz.underlying9;have h2:aa.underlying 60=J (.slice 5):=Tryz.underlying60;have e:aa.underlying 5=J (.int .u8):=Tryz.underlying5;have i:rowsOf H 1 (.arr b 9 32 32)=J (bI d.tx):=by
  simp only[rowsOf,f];have j:F (ba d p r n)=41:=by unfold ba;rw[cg,br,ht];rfl
  rw[av M];have:=atn d.tx [I d.no,I d.tm,I d.kd,I d.vl,I d.fr,I d.un,p,r,n];rw[ht]at this;exact congrArg J this
 unfold jX;simp only[h1,h2,e,i,adF,fk];rfl
def b8.akx{o u}{t B}{sz}{rows rows2}(h1:b8 (.list o) (ar 3 0 [] t sz rows))(h2:fN u rows2)(A:F (rows++rows2)<=1000000):b8 (.list (o++u)) (ar 3 0 [] B 4 (rows++rows2)):=by
 cases h1 with
 |list _ _ _ _ v q2 q3 D=>
  refine .list _ _ _ _ (by rw[cg,cg,v,h2.1]) (λ_=>rfl) A λE z0 r f e=>?_;rcases dp E (F rows) with j|i
  .rw[qn j]at e;rw[qn M]at f;exact D E z0 r f e
  .rw[v_ i]at e;rw[v_ M,<-v]at f;exact h2.2 _ z0 r f e
def fN.cons{v}{r}{l}{rows}(h:b8 v r)(e:fN l rows):fN (v::l) (r::rows):=by
 refine⟨by rw[dY,dY,e.1],λf w x A hx=>?_⟩;cases f with|zero=>simp at A hx;subst A;subst hx;exact h|succ f=>exact e.2 f w x (by simpa using A) (by simpa using hx)
def fN.nil:fN [] []:=⟨O,λe f r h=>by simp at h⟩
def as0(h:Heap)(fJ:c_ h=V)(d:Dc)(p r n:U)(ok:jR d p r n)(hc:d.sg)(kp:al p=p)(kr:al r=r)(f:al n=n):
 ∃rr h',SA.call 28 [.agg (ba d p r n)] h=J (rr,h')/\((ij d=ai/\rr=.ret (.tuple [.list .nil 0 [],I 170]))∨(ij d=V/\∃t,rr=.ret (.tuple [.list t 1 (bI (cA (iR d))),I 0]))):=by
 have bx:=ok.cells;have hD:=ok.len;have c72:=(ajN ok hc).call;rw[kp,kr,f]at c72;have lD:=rE hD (aK h (ba d p r n));cases hd:ij d with
 |false=>
  rw[hd]at c72;clear ok hc;generalize ba d p r n=z1 at *
  refine bL O abf O ?_;refine bE @rR @a_ ?_;exact⟨_,_,O,.inl ⟨by first|rfl|trivial,O⟩⟩
 |true=>
  rw[hd]at c72;obtain⟨f1,f2,f3,f4,f5,f6,g1,g2,g3⟩:=So hd;obtain⟨n1,m1⟩:=A_ g1;obtain⟨n2,m2⟩:=A_ g2;obtain⟨n3,m3⟩:=A_ g3;have L:=qJ (aK h (ba d p r n));have z2:=Ar;have b6:=adb d.no d.tm d.kd d.vl d.fr d.un;obtain⟨_,A,c1,x1,t,sz,rows,rfl,v1,fr1,ca1,rl1,fo1,ni1⟩:=HD (h.push (ba d p r n)) fJ (.list .tight 1 (ints [d.no,d.tm,d.kd,d.vl,d.fr,d.un])) [d.no,d.tm,d.kd,d.vl,d.fr,d.un] ⟨_,_,O,λ_=>rfl⟩ (by intro q hq;simp at hq;omega) b7;have ok2:=x1.ok fJ;have z:=Jb;have s0:bY aa (A.push (ar 0 0 [] .nil 0 [])) 118 (.ptr (.box (F A.boxes)) 0) (.agg (ar 3 0 [] t sz rows))=J (A.push (ar 3 0 [] t sz rows)):=by rw[Pd O O O (aK _ _)];congr 1;exact lO _ _ _
  obtain⟨H3,o⟩:∃H3,A.push (ar 3 0 [] t sz rows)=H3:=⟨_,O⟩;have ok3:c_ H3=V:=by rw[<-o];exact ok2
  have e23:Ext A H3:=by rw[<-o];exact .push _ _
  have b3:H3.boxes[A.boxes.length]?=J (ar 3 0 [] t sz rows):=by rw[<-o];exact aK _ _
  obtain⟨_,H4,c2,x2,t2,B,e,rfl,v2,fr2,ca2,rl2,fo2,ni2⟩:=HD H3 ok3 p d.pa ok.p (λq hq=>by have:=m1 q hq;omega) M;have ok4:=x2.ok ok3;obtain⟨_,H5,c3,x3,t3,u,i,rfl,v3,fr3,ca3,XD,fo3,ni3⟩:=HD H4 ok4 r d.rv ok.r (λq hq=>by have:=m2 q hq;omega) M;have ok5:=x3.ok ok4;obtain⟨_,E,c4,x4,t4,D,j,rfl,v4,fr4,ca4,rl4,fo4,ni4⟩:=HD H5 ok5 n d.nd ok.n (λq hq=>by have:=m3 q hq;omega) M;have ok6:=x4.ok ok5;have v5:b8 (.text d.tx) (ar 2 0 d.tx .nil 0 []):=.text _ (by rw[ok.t];omega);have bt:=acy d.tx;have bl:=ac7 v2.len v3.len v4.len v5.len v2.cells v3.cells v4.cells v5.cells;have can6:=((ca1.ext e23).ext ((x2.trans x3).trans x4));have ap:=ab3 (H:=E) (new:=[ar 3 0 [] t2 B e,ar 3 0 [] t3 u i,ar 3 0 [] t4 D j,ar 2 0 d.tx .nil 0 []]) (by rw[rl1];simp) b7 b7 fo1 ni1 can6;have bH6:E.boxes[A.boxes.length]?=J (ar 3 0 [] t sz rows):=((x2.trans x3).trans x4).box _ _ b3;have st:=xi (H:=E.app t) (t2:=.free E.tn) (sz2:=4) (rows2:=rows++[ar 3 0 [] t2 B e,ar 3 0 [] t3 u i,ar 3 0 [] t4 D j,ar 2 0 d.tx .nil 0 []]) (by rw[dP];exact bH6);have vv:b8 (iR d) (ar 3 0 [] (.free E.tn) 4 (rows++[ar 3 0 [] t2 B e,ar 3 0 [] t3 u i,ar 3 0 [] t4 D j,ar 2 0 d.tx .nil 0 []])):=
   b8.akx v1 (fN.cons v2 (fN.cons v3 (fN.cons v4 (fN.cons v5 fN.nil)))) (by rw[cg,rl1];simp)
  have Nc:=mQ (H:=(E.app t).put (F A.boxes) (ar 3 0 [] (.free E.tn) 4 (rows++[ar 3 0 [] t2 B e,ar 3 0 [] t3 u i,ar 3 0 [] t4 D j,ar 2 0 d.tx .nil 0 []]))) (b:=A.boxes.length) vv.len (dn (by rw[dP];exact(aS.1 bH6).1));obtain⟨te,ce⟩:=ajx vv (Sm d) (by have:=Sp n1 n2 n3 ok.t;omega);have c74:∀h,SA.call 74 [.agg (ar 3 0 [] (.free E.tn) 4 (rows++[ar 3 0 [] t2 B e,ar 3 0 [] t3 u i,ar 3 0 [] t4 D j,ar 2 0 d.tx .nil 0 []]))] h=J (.ret (.tuple [.list te 1 (bI (cA (iR d))),I 0]),h):=bK.use (L:=LA) ce O O;have d0:H3.boxes[h.boxes.length]?=J (ba d p r n):=e23.box _ _ (x1.box _ _ (aK h (ba d p r n)));have d4:=x2.box _ _ d0;have d5:=x3.box _ _ d4;have d6:=x4.box _ _ d5;have M3:=qJ d0;have M4:=qJ d4;have M5:=qJ d5;have w3:=jv b3;have w4:=jv (x2.box _ _ b3);have w5:=jv (x3.box _ _ (x2.box _ _ b3));have w6:=jv bH6;have y3:=Aj ok.t d0;have y4:=Aj ok.t d4;have y5:=Aj ok.t d5;have y6:=Aj ok.t d6;have d7:(E.app t).boxes[h.boxes.length]?=J (ba d p r n):=by rw[dP];exact d6
  have y7:=Aj ok.t d7;have fI:F h.boxes≠F A.boxes:=by have:=(aS.1 (x1.box _ _ (aK h (ba d p r n)))).1;have q1:=aK h (ba d p r n);intro z0;rw[z0]at this;omega
  have y8:=Aj (H:=(E.app t).put (F A.boxes) (ar 3 0 [] (.free E.tn) 4 (rows++[ar 3 0 [] t2 B e,ar 3 0 [] t3 u i,ar 3 0 [] t4 D j,ar 2 0 d.tx .nil 0 []]))) ok.t (by rw[cr fI];exact d7);have sl:=arx (F h.boxes);have MJ:cH (.list t sz rows) (.list t sz rows)=V:=by have:=OT _ _ v1;unfold ar at this;simp only[fL,bm]at this;exact this.2.2.2.1
  have hp:cH p p=V:=by obtain⟨k,s,z0,-⟩:=ok.p;rw[z0];exact vE _ _ _
  have hr:cH r r=V:=by obtain⟨k,s,z0,-⟩:=ok.r;rw[z0];exact vE _ _ _
  have hn:cH n n=V:=by obtain⟨k,s,z0,-⟩:=ok.n;rw[z0];exact vE _ _ _
  clear hd f1 f2 f3 f4 f5 f6 g1 g2 g3 n1 m1 n2 m2 n3 m3 v1 v2 v3 v4 v5 vv ok hc fr1 fr2 fr3 fr4 fo1 fo2 fo3 fo4 ni1 ni2 ni3 ni4 rl1 rl2 XD rl4 ca1 ca2 ca3 ca4 can6 ce x1 x2 x3 x4 e23 ok2 ok3 ok4 ok5 ok6 bH6 b3 d0 d4 d5 d6 d7;generalize hDD:ba d p r n=z1 at *
  generalize ar 3 0 [] (.free E.tn) 4 (rows++[ar 3 0 [] t2 B e,ar 3 0 [] t3 u i,ar 3 0 [] t4 D j,ar 2 0 d.tx .nil 0 []])=FV at *
  generalize ar 3 0 [] t2 B e=V2 at *
  generalize ar 3 0 [] t3 u i=V3 at *
  generalize ar 3 0 [] t4 D j=V4 at *
  unfold I at *
  refine bL O abf O ?_;refine bA @rR @a_ @dU @o ?_;refine IE [13] [(1,4),(4,6),(1,7),(4,9),(7,9),(1,10)] bD ?_ ?_ ?_
  .intro k hk;simp only[hY]at hk;subst hk;refine adS (v:=.arr (F h.boxes) 9 32 32) (x:=.v (.string (bs d.tx))) O O ?_ ?_
   .simp only[dw,cX];exact jb @rR @a_ @dU (aj @o @and_self)
   .intro m hm;change m<=19 at hm;rcases m with _|_|_|_|_|_|_|_|_|_|_|_|_|_|_|_|_|_|_|_|m
    rotate_right 1
    .omega
    all_goals (simp only[dw,cX];exact jb @rR @a_ @dU (aj @o @and_self))
  .intro q hq;simp only[gL,qp,or_false]at hq;rcases hq with rfl|rfl|rfl|rfl|rfl|rfl
   .refine kJ (x:=.ptr (.box (F A.boxes)) 3) (v:=.list t sz rows) bD O O O bD (MJ) ?_ ?_<;>(simp only[dw,cX];exact jb @rR @a_ @dU (aj @o @and_self))
   .refine jP (x:=.ptr (.box (F h.boxes)) 7) (v:=r) bD O O O bD (hr) ?_ ?_<;>(simp only[dw,cX];exact jb @rR @a_ @dU (aj @o @and_self))
   .refine kJ (x:=.ptr (.box (F A.boxes)) 3) (v:=.list t sz rows) bD O O O bD (MJ) ?_ ?_<;>(simp only[dw,cX];exact jb @rR @a_ @dU (aj @o @and_self))
   .refine jP (x:=.ptr (.box (F h.boxes)) 8) (v:=n) bD O O O bD (hn) ?_ ?_<;>(simp only[dw,cX];exact jb @rR @a_ @dU (aj @o @and_self))
   .refine jP (x:=.ptr (.box (F h.boxes)) 8) (v:=n) bD O O O bD (hn) ?_ ?_<;>(simp only[dw,cX];exact jb @rR @a_ @dU (aj @o @and_self))
   .refine kJ (x:=.ptr (.box (F A.boxes)) 3) (v:=.list t sz rows) bD O O O bD (MJ) ?_ ?_<;>(simp only[dw,cX];exact jb @rR @a_ @dU (aj @o @and_self))
  refine bA @rR @a_ @dU @o ?_;exact⟨_,_,O,.inr ⟨by first|rfl|trivial,_,O⟩⟩
def pz:Tryz.f42.results.toList=[.tmp 2,.tmp 3]:=by kernel_rfl
def acw:iy aa 118 [(0,.v (.int .i64 3))]=J (.agg (ar 3 0 [] .nil 0 [])):=by kernel_rfl
def aji(h:Heap)(k:Tok)(s:Nat):∃r h',W6.call 98 [.list k s []] h=J (r,h')/\r=.ret (.agg (ar 3 0 [] .nil 0 [])):=by
 have z:=Jb;have b3:=acw;have i:=cT;have s3:bY aa ((h.push (ar 0 0 [] .nil 0 [])).push (ar 0 0 [] .nil 0 [])) 118 (.ptr (.box (F (h.push (ar 0 0 [] .nil 0 [])).boxes)) 0) (.agg (ar 3 0 [] .nil 0 []))=J ((h.push (ar 0 0 [] .nil 0 [])).push (ar 3 0 [] .nil 0 [])):=O1 O O;have D:aD aa Gt ((h.push (ar 0 0 [] .nil 0 [])).push (ar 3 0 [] .nil 0 [])) 118 (.ptr (.box (F (h.push (ar 0 0 [] .nil 0 [])).boxes)) 0)=J (.agg (ar 3 0 [] .nil 0 [])):=mQ O (aK _ _);have f:((h.push (ar 0 0 [] .nil 0 [])).push (ar 3 0 [] .nil 0 [])).boxes[h.boxes.length]?=J (ar 0 0 [] .nil 0 []):=aM (aK _ _);have E:=Yx (r:=ar 3 0 [] .nil 0 []) f O O O;have B:=VE (H:=(h.push (ar 0 0 [] .nil 0 [])).push (ar 3 0 [] .nil 0 [])) (r:=ar 3 0 [] .nil 0 []) O (aS.1 f).1;refine bL O Tryz.func98 O ?_;refine bg @BC ?_;refine b9 (λm e H=>e.get 2=.ptr (.box (F h.boxes)) 0/\e.get 3=.ptr (.box (F (h.push (ar 0 0 [] .nil 0 [])).boxes)) 0/\e.get 0=.list k s []/\e.get 4=.v (.int .i64 0)/\e.defers=[]/\H=(h.push (ar 0 0 [] .nil 0 [])).push (ar 3 0 [] .nil 0 [])) ?_ 0 _ _ ?_;rotate_left 1
 .refine⟨?_,?_,?_,?_,?_,O⟩<;>exact gS
 rintro m e H ⟨o,u,j,v,A,rfl⟩;refine bE @BC @fQ.{0} ?_;exact⟨_,_,O,O⟩
def A2:vW SA:=vW.up O aje
def as5:vY SA:=vY.up O as4
def afF:vV SA:=vV.up O afE
def akw:vX SA:=vX.up O akv
def ajh:xu SA:=xu.up O (xu.up (R:=W7) (L:=L8) O ajg)
def M6{x}{l}(hx:IL x l)(A:F l<=1000)(o:∀n∈l,0<=n/\n<=4611686018427387903):∃t sz rows,(∀h,SA.call 98 [x] h=J (.ret (.agg (ar 3 0 [] t sz rows)),h))/\b8 (A3 l) (ar 3 0 [] t sz rows)/\aZ (ar 3 0 [] t sz rows)=ar 3 0 [] t sz rows:=by
 obtain⟨k,s,rfl,B⟩:=hx;by_cases i:l=[]
 .subst i;obtain⟨_,_,c,rfl⟩:=aji ⟨[],[],0,[]⟩ (bU k) s;have v:bK W7 98 [.list (bU k) s []] (.agg (ar 3 0 [] .nil 0 [])):=bK.new (L:=L7) c O (by cases k<;>rfl) (by rw[aA,au,ef];rfl) O O;exact⟨.nil,0,[],bK.use (L:=LA) (v.up (L:=L8) O) O O,.list _ _ _ _ O (λq=>absurd O q) (bV _) (λD E r q=>by simp at q),O⟩
 .have u:=B i;subst u;refine⟨.held,4,l.map cO,ajh k l A i o,?_,?_⟩
  .refine .list _ _ _ _ b7 (λ_=>rfl) (by rw[br];omega) λD E r e f=>?_;rw[dW]at e f;cases j:l[D]? with
   |none=>rw[j]at e;cases e
   |some n=>rw[j]at e f;injection e with e;injection f with f;subst e;subst f;exact .int _ (o n (cU j))
  .unfold ar;simp only[aZ,al,(GT l).1];rfl
def ajq(b i)(h:i<32):dH aa 29 (.ptr (.box b) 9) (.v (.int .i64 (i:Nat)))=J (.ptr (.box b) (9+i)):=by
 have h1:aa.underlying 29=J (.array 32 5):=Tryz.underlying29;have h2:cB aa 5=J 1:=by kernel_rfl
 unfold dH;simp only[h1,h2];rw[av M,fh,jC]
def aj0{H}{b i}{d}{p r n}{c}(f:H.boxes[b]?=J (ba d p r n))(hc:d.tx[i]?=J c):aD aa Gt H 5 (.ptr (.box b) (9+i))=J (fA c):=by rw[fe bD f];unfold ba;rw[List.drop_append,List.drop_eq_nil_of_le b7];have j:=(aS.1 hc);obtain⟨e,rfl⟩:=j;simp only[dM,dY,fQ];rw[(M:9+i-(0+1+1+1+1+1+1+1+1+1)=i),ss (by simpa using e)];simp
def adk(c):ff aa 60 1 [(0,fA c)]=J (.list .tight 1 (bI [c])):=by kernel_rfl
def ac6{f r2 i j o u v A B e}(h1:F f=4)(h2:F r2=4)(h3:F i=4)(h4:F j=4)(h5:F o=4)(h6:F u=4)(h7:F v=4)(h8:F A=4)(h9:F B=4)(h0:F e=4)
 (D:(U.agg f).bG=J f) (c2:(U.agg r2).bG=J r2) (E:(U.agg i).bG=J i) (c4:(U.agg j).bG=J j) (c5:(U.agg o).bG=J o) (c6:(U.agg u).bG=J u) (c7:(U.agg v).bG=J v) (c8:(U.agg A).bG=J A) (c9:(U.agg B).bG=J B) (c0:(U.agg e).bG=J e):
 ff aa 116 10 [(0,.agg f),(1,.agg r2),(2,.agg i),(3,.agg j),(4,.agg o),(5,.agg u),(6,.agg v),(7,.agg A),(8,.agg B),(9,.agg e)]=J (.list .tight 4 [f,r2,i,j,o,u,v,A,B,e]):=by
 have z0:aa.underlying 116=J (.slice 118):=kY;unfold ff;simp only[z0,mU,sd];rw[av ⟨aY,O,by decide⟩];simp[wG,D,c2,E,c4,c5,c6,c7,c8,c9,c0,h1,h2,h3,h4,h5,h6,h7,h8,h9,h0]
def as2(h:Heap)(d:Dc)(p r n:U)(ok:jR d p r n)(hc:d.sg)(kp:al p=p)(kr:al r=r)(f:al n=n):
 ∃rr h',SA.call 42 [.agg (ba d p r n)] h=J (rr,h')/\((ij d=ai/\rr=.ret (.tuple [.list .nil 0 [],I 170]))∨(ij d=V/\∃t,rr=.ret (.tuple [.list t 1 (bI (cA (iR d))),I 0]))):=by
 have bx:=ok.cells;have hD:=ok.len;have E:=(ajO ok hc).call;rw[kp,kr,f]at E;have lD:=rE hD (aK h (ba d p r n));cases hd:ij d with
 |false=>
  rw[hd]at E;clear ok hc;generalize ba d p r n=z4 at *
  refine bL O abh O ?_;refine bE @pz @a_ ?_;exact⟨_,_,O,.inl ⟨by first|rfl|trivial,O⟩⟩
 |true=>
  rw[hd]at E;obtain⟨f1,f2,f3,f4,f5,f6,g1,g2,g3⟩:=So hd;obtain⟨n1,m1⟩:=A_ g1;obtain⟨n2,m2⟩:=A_ g2;obtain⟨n3,m3⟩:=A_ g3;have L:=qJ (aK h (ba d p r n));have z5:=Ar;have htx:=ok.t;have lt:∀i c,d.tx[i]?=J c->aD aa Gt (h.push (ba d p r n)) 5 (.ptr (.box (F h.boxes)) (9+i))=J (fA c):=λi c e=>aj0 (aK h (ba d p r n)) e;have klt:=ae.mk lt;have i1:=A2 d.no;have i2:=A2 d.tm;have i3:=A2 d.kd;have i4:=A2 d.vl;have i5:=A2 d.fr;have i6:=A2 d.un;obtain⟨t1,u,j,e1,v1,k1⟩:=M6 ok.p M (λq e=>by have:=m1 q e;omega);obtain⟨t2,A,o,e2,v2,k2⟩:=M6 ok.r M (λq e=>by have:=m2 q e;omega);obtain⟨t3,B,R3,e3,v3,k3⟩:=M6 ok.n M (λq e=>by have:=m3 q e;omega);have ct:∀h,SA.call 99 [.v (.string (bs d.tx))] h=J (.ret (.agg (ar 2 0 d.tx .nil 0 [])),h):=as5 d.tx;have v0:b8 (.text d.tx) (ar 2 0 d.tx .nil 0 []):=.text _ M;have w1:b8 (.int d.no) (cO d.no):=.int _ M;have w2:b8 (.int d.tm) (cO d.tm):=.int _ M;have w3:b8 (.int d.kd) (cO d.kd):=.int _ M;have w4:b8 (.int d.vl) (cO d.vl):=.int _ M;have w5:b8 (.int d.fr) (cO d.fr):=.int _ M;have w6:b8 (.int d.un) (cO d.un):=.int _ M;have bl:=ac6 w1.len w2.len w3.len w4.len w5.len w6.len v1.len v2.len v3.len v0.len w1.cells w2.cells w3.cells w4.cells w5.cells w6.cells v1.cells v2.cells v3.cells v0.cells;have vs:=fN.cons w1 (fN.cons w2 (fN.cons w3 (fN.cons w4 (fN.cons w5 (fN.cons w6 (fN.cons v1 (fN.cons v2 (fN.cons v3 (fN.cons v0 fN.nil)))))))));have D:dk [cO d.no,cO d.tm,cO d.kd,cO d.vl,cO d.fr,cO d.un,ar 3 0 [] t1 u j,ar 3 0 [] t2 A o,ar 3 0 [] t3 B R3,ar 2 0 d.tx .nil 0 []]=[cO d.no,cO d.tm,cO d.kd,cO d.vl,cO d.fr,cO d.un,ar 3 0 [] t1 u j,ar 3 0 [] t2 A o,ar 3 0 [] t3 B R3,ar 2 0 d.tx .nil 0 []]:=by simp only[dk,k1,k2,k3];rfl
  have cl:=akw _ _ vs D .tight b7;have vv:b8 (iR d) (ar 3 0 [] .tight 4 [cO d.no,cO d.tm,cO d.kd,cO d.vl,cO d.fr,cO d.un,ar 3 0 [] t1 u j,ar 3 0 [] t2 A o,ar 3 0 [] t3 B R3,ar 2 0 d.tx .nil 0 []]):=.list _ _ _ _ vs.1 (λ_=>rfl) b7 vs.2;obtain⟨te,ce⟩:=afF _ _ vv (Sm d) (by have:=Sp n1 n2 n3 ok.t;omega);have z:=Jb;have s9:=O1 (H:=h.push (ba d p r n)) vv.cells vv.len;have l9:=mQ vv.len (aK (h.push (ba d p r n)) (ar 3 0 [] .tight 4 [cO d.no,cO d.tm,cO d.kd,cO d.vl,cO d.fr,cO d.un,ar 3 0 [] t1 u j,ar 3 0 [] t2 A o,ar 3 0 [] t3 B R3,ar 2 0 d.tx .nil 0 []]));have L9:=qJ (H:=(h.push (ba d p r n)).push (ar 0 0 [] .nil 0 [])) (aM (aK h (ba d p r n)));have L8:=qJ (H:=(h.push (ba d p r n)).push (ar 3 0 [] .tight 4 [cO d.no,cO d.tm,cO d.kd,cO d.vl,cO d.fr,cO d.un,ar 3 0 [] t1 u j,ar 3 0 [] t2 A o,ar 3 0 [] t3 B R3,ar 2 0 d.tx .nil 0 []])) (aM (aK h (ba d p r n)));have hp:cH p p=V:=by obtain⟨k,s,z0,-⟩:=ok.p;rw[z0];exact vE _ _ _
  have hr:cH r r=V:=by obtain⟨k,s,z0,-⟩:=ok.r;rw[z0];exact vE _ _ _
  have hn:cH n n=V:=by obtain⟨k,s,z0,-⟩:=ok.n;rw[z0];exact vE _ _ _
  clear hd f1 f2 f3 f4 f5 f6 g1 g2 g3 n1 m1 n2 m2 n3 m3 v1 v2 v3 v0 w1 w2 w3 w4 w5 w6 vv vs D ok hc lt;generalize ba d p r n=z4 at *
  generalize ar 3 0 [] t1 u j=V1 at *
  generalize ar 3 0 [] t2 A o=V2 at *
  generalize ar 3 0 [] t3 B R3=V3 at *
  generalize hV:ar 3 0 [] .tight 4 [cO d.no,cO d.tm,cO d.kd,cO d.vl,cO d.fr,cO d.un,V1,V2,V3,ar 2 0 d.tx .nil 0 []]=FV at *
  have cl2:∀h,SA.call 96 [.list .tight 4 [cO d.no,cO d.tm,cO d.kd,cO d.vl,cO d.fr,cO d.un,V1,V2,V3,ar 2 0 d.tx .nil 0 []]] h=J (.ret (.agg FV),h):=by rw[<-hV];exact cl
  clear cl hV;unfold I at *
  refine bL O abh O ?_;refine bE @pz @a_ ?_;refine b9 (λm z0 H=>∃i:Nat,i<=32/\m=32-i/\z0.get 1=.ptr (.box (F h.boxes)) 0/\z0.get 4=.v (.string (bs (d.tx.take i)))/\z0.get 5=.v (.int .i64 (i:Nat))/\z0.defers=[]/\H=h.push z4) ?_ 32 _ _ ?_;rotate_left 1
  .refine⟨0,by omega,O,?_,?_,?_,?_,O⟩<;>exact gR
  rintro m z0 H ⟨i,hi,rfl,g1,g4,g5,hd,rfl⟩;by_cases dj:i<32
  .obtain⟨c,LM⟩:∃c,d.tx[i]?=J c:=⟨_,aN M⟩;have lc:=klt.out i c LM;have ix:=ajq (F h.boxes) i dj;have bu:ff aa 60 1 [(0,fA c)]=J (.list .tight 1 [ie c]):=adk c;have cv:∀h,jX aa h 60 9 (.list .tight 1 [ie c])=J (.v (.string (bs [c])),h):=KQ (k:=.tight) (s:=1) (b:=[c]) (λ_=>rfl);have ad:∀t x y,cy aa .add t x y (.v (.string (bs (d.tx.take i)))) (.v (.string (bs [c])))=J (.v (.string (bs (d.tx.take i++[c])))):=λt x y=>Rd (by rw[cR];simp;omega);have kts:=ae.mk (fY LM);have fH:((i:Nat):Int)<32:=(by omega);clear LM;refine bg @pz ?_;exact⟨32-(i+1),by omega,i+1,by omega,O,by simp[kts.out]⟩
  .have gf:i=32:=(by omega);subst gf;rw[fR M]at g4;clear klt;refine bg @pz ?_;refine iC [(1,31),(4,31),(7,31),(10,31),(13,31),(16,31),(19,31),(22,31),(25,31)] adK bD (λq e=>?_) ?_
   .simp only[gL,qp,or_false]at e;rcases e with rfl|rfl|rfl|rfl|rfl|rfl|rfl|rfl|rfl
    .refine kJ (x:=.ptr (.box (F h.boxes)) 0) (v:=.v (.int .i64 d.no)) bD O O O bD (by simp[cH,gH]) ?_ ?_<;>(simp only[dw,cX];exact dV @pz @and_self)
    .refine kJ (x:=.ptr (.box (F h.boxes)) 1) (v:=.v (.int .i64 d.tm)) bD O O O bD (by simp[cH,gH]) ?_ ?_<;>(simp only[dw,cX];exact dV @pz @and_self)
    .refine kJ (x:=.ptr (.box (F h.boxes)) 2) (v:=.v (.int .i64 d.kd)) bD O O O bD (by simp[cH,gH]) ?_ ?_<;>(simp only[dw,cX];exact dV @pz @and_self)
    .refine kJ (x:=.ptr (.box (F h.boxes)) 3) (v:=.v (.int .i64 d.vl)) bD O O O bD (by simp[cH,gH]) ?_ ?_<;>(simp only[dw,cX];exact dV @pz @and_self)
    .refine kJ (x:=.ptr (.box (F h.boxes)) 4) (v:=.v (.int .i64 d.fr)) bD O O O bD (by simp[cH,gH]) ?_ ?_<;>(simp only[dw,cX];exact dV @pz @and_self)
    .refine kJ (x:=.ptr (.box (F h.boxes)) 5) (v:=.v (.int .i64 d.un)) bD O O O bD (by simp[cH,gH]) ?_ ?_<;>(simp only[dw,cX];exact dV @pz @and_self)
    .refine kJ (x:=.ptr (.box (F h.boxes)) 6) (v:=p) bD O O O bD (hp) ?_ ?_<;>(simp only[dw,cX];exact dV @pz @and_self)
    .refine kJ (x:=.ptr (.box (F h.boxes)) 7) (v:=r) bD O O O bD (hr) ?_ ?_<;>(simp only[dw,cX];exact dV @pz @and_self)
    .refine kJ (x:=.ptr (.box (F h.boxes)) 8) (v:=n) bD O O O bD (hn) ?_ ?_<;>(simp only[dw,cX];exact dV @pz @and_self)
   refine bg @pz ?_;exact⟨_,_,O,.inr ⟨by first|rfl|trivial,_,O⟩⟩
section
variable {X Y C T L S Z:U} {rows:List (List Int)} {ac ah u z:List Int} {text:List UInt8} {l:List Pr} {s:List (Int × Int)} {ep:Int}
def yO(ep:Int)(hx:RL X rows)(E:IL Y ac)(hc:IL C ah):RL (al X) rows/\IL (al Y) ac/\IL (al C) ah/\aA 0 0 0 (aF ep (al X) (al Y) (al C))=V:=by obtain⟨h1,h2,e,f⟩:=nR hx E;obtain⟨i,j⟩:=hc.hold;exact⟨h1,h2,i,by simp[aF,aA,au,e,f,j,I]⟩
def ajt(hx:RL X rows)(E:IL Y ac)(hc:IL C ah)(eI:F ah<=1000000):bK W8 37 [.agg (aF ep (al X) (al Y) (al C)),.list .nil 0 [],.list .nil 0 []] (.tuple [.list .nil 0 [],I 0,I 0,I (d_ rows ac ep ah [] [])]):=by
 obtain⟨h1,h2,f,i⟩:=yO ep hx E hc;have e:d_ rows ac ep ah [] []≠0:=by
  unfold d_;split
  .assumption
  .split
   .decide
   .split
    .simp at *
    .split
     .simp at *
     .split
      .simp[NT.mh]at *
      .simp
 rcases Rf ep (al X) (al Y) (al C) (.list .nil 0 []) (.list .nil 0 []) rows ac ah [] [] h1 h2 f ⟨.nil,0,rfl,λq=>absurd O q⟩ ⟨.nil,0,O,λq=>absurd O q⟩ eI (bV _) with⟨-,c⟩|⟨q,-⟩
 .exact s_ ⟨c,j' [.agg (aF ep X Y C),.list .nil 0 [],.list .nil 0 []],by rw[aA,au,i];rfl,λ_=>rfl,O⟩ O O
 .exact absurd q e
def acN:d_ rows ac ep ah [] []=if cG rows ac≠0 then cG rows ac else if iM rows ep ah=ai then 380 else 420:=by
 unfold d_ iM;by_cases h:cG rows ac=0
 .simp only[h,ne_eq,not_true_eq_false,if_false];generalize (decide (0<=ep)&&decide (ep<=64)&&decide (F ah=cd rows)&&ah.all bX)=b;cases b<;>simp[NT.mh]
 .simp only[h,ne_eq,not_false_eq_true,if_true]
def ajC(hx:RL X rows)(E:IL Y ac)(hc:IL C ah)(eI:F ah<=1000000):bK W8 41 [.agg (aF ep (al X) (al Y) (al C))] (.v (.bool (iM rows ep ah))):=by obtain⟨h1,h2,e,f⟩:=yO ep hx E hc;exact⟨ajT ep _ _ _ rows ac ah h1 h2 e eI,j' [.agg (aF ep X Y C)],by rw[aA,au,f];rfl,λ_=>rfl,O⟩
def ajy(hx:RL X rows)(E:IL Y ac)(hc:IL C ah):∃b,(b=V->F rows<=80/\F ac<=80/\F ah<=80)/\bK W8 31 [.agg (aF ep (al X) (al Y) (al C)),.list .nil 0 [],.list .nil 0 []] (.v (.bool b)):=by obtain⟨h1,h2,f,i⟩:=yO ep hx E hc;obtain⟨b,e,c⟩:=af8 ep _ _ _ (.list .nil 0 []) (.list .nil 0 []) rows ac ah [] [] h1 h2 f ⟨.nil,0,O,λq=>absurd O q⟩ ⟨.nil,0,O,λq=>absurd O q⟩;exact⟨b,λq=>⟨(e q).1,(e q).2.1,(e q).2.2.1⟩,c,j' [.agg (aF ep X Y C),.list .nil 0 [],.list .nil 0 []],by rw[aA,au,i];rfl,λ_=>rfl,O⟩
def ajv(hx:RL X rows)(E:IL Y ac)(hc:IL C ah)(ht:BL T text)(hp:PL L l)(hz:IL Z z)(eI:F ah<=1000000)(gB:F l<=1000000)(f:F text<=1000000)(i:F z<=1000000):
 bK W8 60 [.agg (aF ep (al X) (al Y) (al C)),al T,al L,al Z] (.tuple [.agg [I (iJ rows ac ep ah text l z).1.1,I (iJ rows ac ep ah text l z).1.2],.v (.bool (iJ rows ac ep ah text l z).2.1),I (iJ rows ac ep ah text l z).2.2]):=by
 obtain⟨h1,h2,j,o⟩:=yO ep hx E hc;obtain⟨u,v⟩:=ht.hold;obtain⟨A,B⟩:=hp.hold;obtain⟨D,e⟩:=hz.hold;obtain⟨_,_,c,-,rfl⟩:=aeU ⟨[],[],0,[]⟩ ep _ _ _ _ _ _ rows ac ah text l z h1 h2 j u A eI gB f (.inl D) i;exact bK.new (L:=L8) c O (j' [.agg (aF ep X Y C),T,L,Z]) (by rw[aA,au,o,aA,v,aA,B,aA,e];rfl) O rfl
def ajw(hx:RL X rows)(E:IL Y ac)(hz:IL Z u)(hl:F u<=1000)(e:F rows<=1000000)(v:Int)(he:pM rows ac v u=0):
 ∃i j,SL i (ou rows (v::u))/\IL j (pJ (v::u))/\bK W8 71 [.agg [al X,al Y],I v,al Z] (.tuple [i,j,I 0]):=by
 obtain⟨h1,h2,o,A⟩:=nR hx E;obtain⟨B,D⟩:=hz.hold;rcases afj _ _ _ rows ac u v h1 h2 B hl e with⟨q,-⟩|⟨-,i,j,⟨k,s,rfl,hs⟩,⟨k2,s2,rfl,f⟩,c⟩
 .exact absurd he q
 .exact⟨.list (bU k) s (bN _),.list (bU k2) s2 (ints _),⟨_,_,O,hs⟩,⟨_,_,O,f⟩,bK.up (L:=L8) (bK.new (L:=L7) (c _) O (j' [.agg [X,Y],I v,Z]) (by simp[aA,au,o,A,D,I]) O (by rw[au,aA,au,ef,Ga,aA,au,ef,jj];rfl)) O⟩
def ajD(hx:RL X rows)(E:IL Y ac)(hc:IL C ah)(ht:BL T text)(hp:PL L l)(hs:SL S s)(eI:F ah<=1000000)(gB:F l<=1000000)(j:F s<=1000000)(e d f:Int):
 bK W8 30 [.agg (aF ep (al X) (al Y) (al C)),al T,al L,I e,al S,I d,I f] (.tuple [I (oC rows ac ep ah text l e s d f).1,I (oC rows ac ep ah text l e s d f).2]):=by
 obtain⟨h1,h2,o,u⟩:=yO ep hx E hc;obtain⟨v,A⟩:=ht.hold;obtain⟨B,D⟩:=hp.hold;obtain⟨h9,i⟩:=hs.hold;exact s_ ⟨akP ep _ _ _ _ _ rows ac ah text l h1 h2 o v B eI gB _ s e d f h9 j,j' [.agg (aF ep X Y C),T,L,I e,S,I d,I f],by simp only[aA];rw[au,u,A,D,i];rfl,λ_=>rfl,O⟩ O rfl
def ajR(ht:BL T text)(o:F text<=1000000)(f e s:Int):bK W8 26 [I f,al T,.agg [I e,I s]] (.v (.bool (qY f text e s))):=by obtain⟨i,j⟩:=ht.hold;exact s_ ⟨Za f e s _ text i o,j' [I f,T,.agg [I e,I s]],by simp only[aA];rw[j];rfl,λ_=>rfl,O⟩ O rfl
end
def Xk:Tryz.f36.results.toList=[]:=by kernel_rfl
def Xm:Tryz.f85.results.toList=[]:=by kernel_rfl
def Xj:Tryz.f33.results.toList=[.cell 2 39]:=by kernel_rfl
def acz(e):iy aa 134 [(0,.v (.int .i64 e))]=J (.agg [.v (.int .i64 e)]):=by kernel_rfl
def aiO:isIface aa 134=J ai:=by kernel_rfl
def acg(x):sQ aa (.iface 134 (.agg x)) 134 V=J (.tuple [.agg x,.v (.bool V)]):=by kernel_rfl
def aiP:isIface aa 20=J V:=by kernel_rfl
def at7:(fM aa 134).bind U.bG=J [.v (.int .i64 0)]:=by kernel_rfl
def auh:(fM aa 39).bind U.bG=J [.v (.int .i64 0)]:=by kernel_rfl
def QU:fx aa 39=J ai:=by kernel_rfl
def asS:cB aa 39=J 1:=by kernel_rfl
def asK:cB aa 134=J 1:=by kernel_rfl
def af1(b):dQ aa 134 (.ptr (.box b) 0) 0=J (.ptr (.box b) 0):=by kernel_rfl
def kK(e:Int):U:=.iface 134 (.agg [.v (.int .i64 e)])
def j3(e:Int):dO:=if e=0 then .ret (.tuple []) else .panic (kK e)
section
variable {h:Heap} {b:Nat} {n n':Int} {x:U}
def YL(e:h.boxes[b]?=J [x]):bY aa h 39 (.ptr (.box b) 0) (.v (.int .i64 n'))=J (h.put b [.v (.int .i64 n')]):=fE (off:=0) (cs:=[x]) (xs:=[.v (.int .i64 n')]) O asS e O (aV 1)
def asn(e:h.boxes[b]?=J [x]):bY aa h 134 (.ptr (.box b) 0) (.agg [.v (.int .i64 n')])=J (h.put b [.v (.int .i64 n')]):=fE (off:=0) (cs:=[x]) (xs:=[.v (.int .i64 n')]) O asK e O (aV 1)
def Nv(e:h.boxes[b]?=J [x]):aD aa Gt h 39 (.ptr (.box b) 0)=J x:=by rw[fe QU e];rfl
end
section
variable {pr:aQ->Option (List U->Heap->Option (U × Heap))}
def Be(hp:pr 36=af)(e:Int)(h:Heap):(whole aa Gt pr).call 36 [.v (.bool V),.v (.int .i64 e)] h=J (.ret (.tuple []),h):=by refine cq hp abg O ?_;exact iB @Xk
def Bd(hp:pr 36=af)(e:Int)(h:Heap):(whole aa Gt pr).call 36 [.v (.bool ai),.v (.int .i64 e)] h=J (.panic (kK e),h):=by
 have f:=aiO;refine cq hp abg O ?_
 repeat' (first|simp(maxSteps:=9999999) (disch:=first|exact dZ|fail) only[gW,reduceIte,aJ,aB,Xk,acz,kK, *]|refine dX ?_ ?_<;>(intro _;try omega))
def adZ(b:Nat)(h:Heap):(whole aa Gt pr).ii 85 [.ptr (.box b) 0] af h=J (.ret (.tuple []),af,h):=by have e:=abo;refine KR abk O ?_;exact o0 @Xm @Rc @and_self
def ad0(b:Nat)(h:Heap)(e:Int){x:U}(f:h.boxes[b]?=J [x]):(whole aa Gt pr).ii 85 [.ptr (.box b) 0] (J (kK e,ai)) h=J (.ret (.tuple []),J (kK e,V),(h.push [.v (.int .i64 e)]).put b [.v (.int .i64 e)]):=by
 have o:=abo;have j:=aiP;have i:=at7;have v:=(aS.1 f).1;have A:bY aa (h.push [.v (.int .i64 0)]) 134 (.ptr (.box (F h.boxes)) 0) (.agg [.v (.int .i64 e)])=J (h.push [.v (.int .i64 e)]):=by rw[asn (aK _ _)];congr 1;exact lO _ _ _
 have u:=Nv (aK h [.v (.int .i64 e)]);have B:=YL (n':=e) (aM (cs:=[.v (.int .i64 e)]) f);unfold kK;refine KR abk O ?_;exact jb @Xm @acR @acg (aj @af1 @and_self)
def FJ(hp:pr 33=af)(g:Nat)(f:List U)(h h2:Heap)(e:Int)(c2:(whole aa Gt pr).call g f (h.push [.v (.int .i64 0)])=J (j3 e,h2))(o:h2.boxes[h.boxes.length]?=J [.v (.int .i64 0)]):
 ∃h',(whole aa Gt pr).call 33 [.func (.func g) [] f] h=J (.ret (.v (.int .i64 e)),h')/\(∀b cs,b≠F h.boxes->h2.boxes[b]?=J cs->h'.boxes[b]?=J cs):=by
 have z39:=auh;have a39:=QU;have D:=(aS.1 o).1;have v:=adZ (pr:=pr) (F h.boxes) (h2.put (F h.boxes) [.v (.int .i64 0)]);have A:=ad0 (pr:=pr) (F h.boxes) h2 e o;have E:=YL (n':=0) o;refine gy hp Tryz.func33 O ?_;unfold j3 at c2;by_cases j:e=0
 .rw[av j]at c2;subst j;clear A;have B:=Nv (h:=h2.put (F h.boxes) [.v (.int .i64 0)]) (x:=.v (.int .i64 0)) (dn D);refine bg @Xj ?_;exact⟨_,O,λb cs i u=>by rw[cr i];exact u⟩
 .rw[aP j]at c2;clear v E;have B:=Nv (h:=(h2.push [.v (.int .i64 e)]).put (F h.boxes) [.v (.int .i64 e)]) (x:=.v (.int .i64 e)) (dn (by rw[bF];omega));refine bg @Xj ?_;exact⟨_,O,λb cs i u=>by rw[cr i];exact aM u⟩
end
def LB:List aQ:=LA++[28,42]
noncomputable def Bu:aQ->Option (List U->Heap->Option (U × Heap)):=lh SA LB
noncomputable abbrev SB:=whole aa Gt Bu
def jG:lW Bu LB:=rm
section
variable {d:Dc} {p r n:U}
def GS(ok:jR d p r n):aZ [.agg (ba d (al p) (al r) (al n))]=[.agg (ba d (al p) (al r) (al n))]:=by rw[<-wt];exact j' [.agg (ba d p r n)]
def M'(ok:jR d p r n)(hc:d.sg):∃T,(ij d=V->BL T (cA (iR d)))/\al T=T/\bK SB 28 [.agg (ba d (al p) (al r) (al n))] (.tuple [T,I (if ij d=V then 0 else 170)]):=by
 obtain⟨k,e⟩:=ok.hold;obtain⟨j,i,c,⟨q,rfl⟩|⟨q,t,rfl⟩⟩:=as0 ⟨[],[],0,[]⟩ O d _ _ _ k hc (lF p) (lF r) (lF n)
 .refine⟨.list .nil 0 [],λf=>by rw[q]at f;(first|cases f|contradiction),O,?_⟩;rw[aP (by simp[q])];exact bK.new (L:=LB) c O (GS ok) (by rw[aA,au,e];rfl) O O
 .refine⟨.list (bU t) 1 (bI (cA (iR d))),λ_=>⟨_,_,O,λ_=>rfl⟩,by rw[al,pX];cases t<;>rfl,?_⟩;rw[av (by simp[q])];exact bK.new (L:=LB) c O (GS ok) (by rw[aA,au,e];rfl) O (by simp[au,aA,ef,i',I])
def ajP(ok:jR d p r n)(hc:d.sg):∃T,(ij d=V->BL T (cA (iR d)))/\al T=T/\bK SB 42 [.agg (ba d (al p) (al r) (al n))] (.tuple [T,I (if ij d=V then 0 else 170)]):=by
 obtain⟨k,e⟩:=ok.hold;obtain⟨j,i,c,⟨q,rfl⟩|⟨q,t,rfl⟩⟩:=as2 ⟨[],[],0,[]⟩ d _ _ _ k hc (lF p) (lF r) (lF n)
 .refine⟨.list .nil 0 [],λf=>by rw[q]at f;(first|cases f|contradiction),O,?_⟩;rw[aP (by simp[q])];exact bK.new (L:=LB) c O (GS ok) (by rw[aA,au,e];rfl) O O
 .refine⟨.list (bU t) 1 (bI (cA (iR d))),λ_=>⟨_,_,O,λ_=>rfl⟩,by rw[al,pX];cases t<;>rfl,?_⟩;rw[av (by simp[q])];exact bK.new (L:=LB) c O (GS ok) (by rw[aA,au,e];rfl) O (by simp[au,aA,ef,i',I])
end
def d0:Dc:=⟨0,0,0,0,0,0,[],[],[],List.replicate 32 0⟩
structure CA where
 X:U
 Y:U
 C:U
 p:U
 r:U
 n:U
 W:U
 Pa:U
 Z:U
def aq(c:Ce)(a:CA):List U:=aF c.ep a.X a.Y a.C++ba c.doc a.p a.r a.n++[a.W,a.Pa,a.Z]
structure cD(c:Ce)(a:CA):Prop where
 x:RL a.X c.rows
 y:IL a.Y c.ac
 cm:IL a.C c.ah
 d:jR c.doc a.p a.r a.n
 w:IL a.W c.who
 pa:PL a.Pa c.bT
 z:SL a.Z c.parts
def c0:Ce:=⟨[],[],0,[],d0,[],[],[]⟩
def a0:CA:=⟨nl,nl,nl,nl,nl,nl,nl,nl,nl⟩
def EQ{A B B' C}{k}(e:F A=k)(h:F B'=F B):dC (A++B++C) k B'=A++B'++C:=by subst e;unfold dC;rw[iE,iE,List.take_left,<-pF,Ci,h,Ci,<-iE]
def PL.bG{x}{l}(h:PL x l):x.bG=J [x]:=by obtain⟨k,s,rfl,-⟩:=h;rfl
section
variable {c:Ce} {a:CA}
def cD.len(ok:cD c a):F (aq c a)=48:=by unfold aq;rw[cg,cg,ok.d.len];unfold aF;rfl
def cD.cells(ok:cD c a):(U.agg (aq c a)).bG=J (aq c a):=by
 have h1:=mP (ep:=c.ep) ok.x ok.y ok.cm;have h2:=ok.d.cells;have f:a.W.cW=V:=by obtain⟨k,s,e,-⟩:=ok.w;rw[e];rfl
 have i:a.Pa.cW=V:=by obtain⟨k,s,e,-⟩:=ok.pa;rw[e];rfl
 have j:a.Z.cW=V:=by obtain⟨k,s,e,-⟩:=ok.z;rw[e];rfl
 unfold U.bG at *
 simp only at h1 h2 ⊢;split at h1
 .split at h2
  .rename_i o u;rw[av];unfold aq;rw[sn,sn,o,u];simp[f,i,j]
  .cases h2
 .cases h1
end
def fK:cD c0 a0:=⟨⟨.nil,0,[],O,λq=>absurd O q,O,λe a r h=>by simp at h⟩,⟨.nil,0,O,λq=>absurd O q⟩,⟨.nil,0,O,λq=>absurd O q⟩,⟨⟨.nil,0,O,λq=>absurd O q⟩,⟨.nil,0,O,λq=>absurd O q⟩,⟨.nil,0,O,λq=>absurd O q⟩,O⟩,⟨.nil,0,O,λq=>absurd O q⟩,⟨.nil,0,O,λq=>absurd O q⟩,⟨.nil,0,O,λq=>absurd O q⟩⟩
def vN:(fM aa 35).bind U.bG=J (aq c0 a0):=by kernel_rfl
def Ze:iy aa 35 []=J (.agg (aq c0 a0)):=by kernel_rfl
def abS:fx aa 35=J V:=by kernel_rfl
def YY:cB aa 35=J 48:=by kernel_rfl
def abV:fx aa 32=J ai:=by kernel_rfl
def abW:fx aa 33=J ai:=by kernel_rfl
def ju{H}{b}{D}(f:F D=48)(e:H.boxes[b]?=J D):aD aa Gt H 35 (.ptr (.box b) 0)=J (.agg D):=by rw[fC abS YY e M,gw,<-f,fB]
def qg{H}{b}{D D2}(i:F D=48)(e:F D2=48)(hc:(U.agg D2).bG=J D2)(f:H.boxes[b]?=J D):bY aa H 35 (.ptr (.box b) 0) (.agg D2)=J (H.put b D2):=by rw[fE (off:=0) (cs:=D) (xs:=D2) hc YY f e M,xh M]
def pN:(∀b,dQ aa 35 (.ptr (.box b) 0) 0=J (.ptr (.box b) 0))/\(∀b,dQ aa 35 (.ptr (.box b) 0) 1=J (.ptr (.box b) 4))/\(∀b,dQ aa 35 (.ptr (.box b) 0) 2=J (.ptr (.box b) 45))/\(∀b,dQ aa 35 (.ptr (.box b) 0) 3=J (.ptr (.box b) 46))/\∀b,dQ aa 35 (.ptr (.box b) 0) 4=J (.ptr (.box b) 47):=
 ⟨λ_=>by kernel_rfl,λ_=>by kernel_rfl,λ_=>by kernel_rfl,λ_=>by kernel_rfl,λ_=>by kernel_rfl⟩
def Kl{K D T:List U}{i k l}(e:F K=k)(f:F D=l):(K++D++T).drop (k+l+i)=T.drop i:=by subst e;subst f;rw[<-pF,<-cg,Ci]
def hO{H}{b}{c}{a}(ok:cD c a)(e:H.boxes[b]?=J (aq c a)):aD aa Gt H 27 (.ptr (.box b) 0)=J (.agg (aF c.ep a.X a.Y a.C))/\aD aa Gt H 31 (.ptr (.box b) 4)=J (.agg (ba c.doc a.p a.r a.n))/\aD aa Gt H 23 (.ptr (.box b) 45)=J a.W/\aD aa Gt H 32 (.ptr (.box b) 46)=J a.Pa/\aD aa Gt H 33 (.ptr (.box b) 47)=J a.Z/\aD aa Gt H 35 (.ptr (.box b) 0)=J (.agg (aq c a)):=by
 have o:=ok.len;have f:F (aF c.ep a.X a.Y a.C)=4:=rfl;have j:=ok.d.len;refine⟨?_,?_,?_,?_,?_,ju o e⟩
 .rw[fC bD (by kernel_rfl:cB aa 27=J 4) e M,gw];unfold aq;rw[iE,qr f]
 .rw[fC bD (by kernel_rfl:cB aa 31=J 41) e M];unfold aq;rw[iE,aae f,qr j]
 .rw[fe mE e];unfold aq;rw[Kl (i:=0) f j];rfl
 .rw[fe abV e];unfold aq;rw[Kl (i:=1) f j];rfl
 .rw[fe abW e];unfold aq;rw[Kl (i:=2) f j];rfl
def y_:Tryz.f34.results.toList=[]:=by kernel_rfl
def am7:Tryz.f11.results.toList=[.cell 6 35,.tmp 7]:=by kernel_rfl
def y9:Tryz.f12.results.toList=[.cell 6 35,.tmp 7]:=by kernel_rfl
structure dz(a:CA):Prop where
 X:al a.X=a.X
 Y:al a.Y=a.Y
 C:al a.C=a.C
 p:al a.p=a.p
 r:al a.r=a.r
 n:al a.n=a.n
 W:al a.W=a.W
 Pa:al a.Pa=a.Pa
 Z:al a.Z=a.Z
structure Fv(c:Ce)(a:CA):Prop where
 c35:∀h,SB.call 35 [.agg [a.X,a.Y]] h=J (.ret (I (cG c.rows c.ac)),h)
 c40:∀h,SB.call 40 [.agg [a.X,a.Y]] h=J (.ret (I (cG c.rows c.ac)),h)
 c37:∀h,SB.call 37 [.agg (aF c.ep a.X a.Y a.C),.list .nil 0 [],.list .nil 0 []] h=J (.ret (.tuple [.list .nil 0 [],I 0,I 0,I (d_ c.rows c.ac c.ep c.ah [] [])]),h)
 Ru:∀h,SB.call 41 [.agg (aF c.ep a.X a.Y a.C)] h=J (.ret (.v (.bool (iM c.rows c.ep c.ah))),h)
 Rt:∃T,∀h,SB.call 28 [.agg (ba c.doc a.p a.r a.n)] h=J (.ret (.tuple [T,I (if ij c.doc=V then 0 else 170)]),h)
 c42:∃T,∀h,SB.call 42 [.agg (ba c.doc a.p a.r a.n)] h=J (.ret (.tuple [T,I (if ij c.doc=V then 0 else 170)]),h)
 c38:∀h,SB.call 38 [a.W] h=J (.ret (.v (.bool (dy (-1) c.who))),h)
 c43:∀h,SB.call 43 [a.W] h=J (.ret (.v (.bool (dy (-1) c.who))),h)
 c39:∃Z,∀h,SB.call 39 [.agg [a.X,a.Y],a.W] h=J (.ret (.tuple [Z,.v (.bool (fm c.rows c.ac c.who).2.1),I (fm c.rows c.ac c.who).2.2]),h)
 c44:∃Z,∀h,SB.call 44 [.agg [a.X,a.Y],a.W] h=J (.ret (.tuple [Z,.v (.bool (fm c.rows c.ac c.who).2.1),I (fm c.rows c.ac c.who).2.2]),h)
def nE{g}{a}{y}(c:bK W8 g a y)(h1:LA.contains g=V)(h2:LB.contains g=V):bK SB g a y:=(c.up (L:=LA) h1).up (L:=LB) h2
def Wh{c}{a}(ok:cD c a)(D:dz a)(fi:c.Fit):Fv c a:=by obtain⟨f1,f2,f3,f4,-,-⟩:=fi;have i:=nE (aju ok.x ok.y) O O;have j:=nE (ajL ok.x ok.y f1) O O;have o:=nE (ajt (ep:=c.ep) ok.x ok.y ok.cm f2) O O;have u:=nE (ajC (ep:=c.ep) ok.x ok.y ok.cm f2) O O;obtain⟨T1,-,-,v⟩:=M' ok.d f4;obtain⟨T2,-,-,A⟩:=ajP ok.d f4;have B:bK SB 38 [al a.W] (.v (.bool (dy (-1) c.who))):=(ajJ ok.w M).up (L:=LB) O;have E:=nE (ajI ok.w M) O O;obtain⟨Z1,f⟩:=ajs ok.x ok.y ok.w M;obtain⟨Z2,e⟩:=ajK ok.x ok.y ok.w f1 M;have f:=nE f O O;have e:=nE e O O;simp only[D.X,D.Y,D.C,D.p,D.r,D.n,D.W]at i j o u v A B E f e;exact⟨i.call,j.call,o.call,u.call,⟨_,v.call⟩,⟨_,A.call⟩,B.call,E.call,⟨_,f.call⟩,⟨_,e.call⟩⟩
def Wf(c:Ce):c.eM=if cG c.rows c.ac≠0 then cG c.rows c.ac else if iM c.rows c.ep c.ah=ai then 380 else if ij c.doc=ai then 170 else if dy (-1) c.who=ai then 1
 else if (fm c.rows c.ac c.who).2.1=ai∨(fm c.rows c.ac c.who).2.2≠0 then 440 else 0:=by
 unfold Ce.eM NT.eM iM;rw[Bool.and_right_comm (decide (0<=c.ep)&&decide (c.ep<=64))]
def Q9{c}{a}(ok:cD c a):iy aa 35 [(0,.agg (aF c.ep a.X a.Y a.C)),(1,.agg (ba c.doc a.p a.r a.n)),(2,a.W)]=J (.agg (aF c.ep a.X a.Y a.C++ba c.doc a.p a.r a.n++[a.W,nl,nl])):=by
 have h1:=mP (ep:=c.ep) ok.x ok.y ok.cm;have h2:=ok.d.cells;have D:=ok.w.bG;have j:=ok.d.len;have v:=fK.d.len;obtain⟨f,E,u,p0,p1,p2⟩:∃f,aa.underlying 35=J (.struct f)/\(f.all λz1=>(aa.info? z1.type).isSome)=V/\placesOf aa f 0=J (0,4)/\placesOf aa f 1=J (4,41)/\placesOf aa f 2=J (45,1):=⟨_,Tryz.underlying35,by kernel_rfl,by kernel_rfl,by kernel_rfl,by kernel_rfl⟩;have hz:aq c0 a0=[]++aF 0 nl nl nl++(ba d0 nl nl nl++[nl,nl,nl]):=by unfold aq;rw[dM,iE];rfl
 have i:F (aF c.ep a.X a.Y a.C)=4:=rfl;have o:F (aF 0 nl nl nl)=4:=rfl;have e:F (ba d0 nl nl nl)=41:=v;unfold iy;rw[E,vN];simp only;rw[av u,hz];simp only[qB,p0,p1,p2,h1,h2,D];have s1:dC ([]++aF 0 nl nl nl++(ba d0 nl nl nl++[nl,nl,nl])) 0 (aF c.ep a.X a.Y a.C)=aF c.ep a.X a.Y a.C++ba d0 nl nl nl++[nl,nl,nl]:=by rw[EQ (A:=[]) (k:=0) O (by rw[i,o]),dM,iE]
 have s2:dC (aF c.ep a.X a.Y a.C++ba d0 nl nl nl++[nl,nl,nl]) 4 (ba c.doc a.p a.r a.n)=aF c.ep a.X a.Y a.C++ba c.doc a.p a.r a.n++[nl,nl,nl]:=EQ i (by rw[j,e]);have s3:dC (aF c.ep a.X a.Y a.C++ba c.doc a.p a.r a.n++[nl,nl,nl]) 45 [a.W]=aF c.ep a.X a.Y a.C++ba c.doc a.p a.r a.n++[a.W,nl,nl]:=by
  have z0:aF c.ep a.X a.Y a.C++ba c.doc a.p a.r a.n++[nl,nl,nl]=(aF c.ep a.X a.Y a.C++ba c.doc a.p a.r a.n)++[nl]++[nl,nl]:=by simp
  have B:dC ((aF c.ep a.X a.Y a.C++ba c.doc a.p a.r a.n)++[nl]++[nl,nl]) 45 [a.W]=(aF c.ep a.X a.Y a.C++ba c.doc a.p a.r a.n)++[a.W]++[nl,nl]:=EQ (by rw[cg,i,j]) O;rw[z0,B];simp
 rw[s1,av ⟨i,by simp only[cg,o,e,fQ,dY];omega⟩,s2,av ⟨j,by simp only[cg,i,e,fQ,dY];omega⟩,s3,
  av ⟨O,by simp only[cg,i,j,fQ,dY];omega⟩]
 rfl
def ald(h:Heap)(c:Ce)(a:CA)(ok:cD c a)(nc:Fv c a)(o b1 b2 b3:Nat)(A:h.boxes[o]?=J (aF c.ep a.X a.Y a.C))(B:h.boxes[b1]?=J (ba c.doc a.p a.r a.n))(D:h.boxes[b2]?=J [a.W])(E:h.boxes[b3]?=J (aq c0 a0)):
 ∃r h',SB.call 34 [.ptr (.box o) 0,.ptr (.box b1) 0,.ptr (.box b2) 0,.ptr (.box b3) 0] h=J (r,h')/\r=j3 c.eM/\h'=if c.eM=0 then h.put b3 (aF c.ep a.X a.Y a.C++ba c.doc a.p a.r a.n++[a.W,nl,nl]) else h:=by
 have l0:aD aa Gt h 25 (.ptr (.box o) 1)=J (.agg [a.X,a.Y]):=by rw[fC bD (by kernel_rfl:cB aa 25=J 2) A (by decide:1+2<=4)];rfl
 have l1:aD aa Gt h 27 (.ptr (.box o) 0)=J (.agg (aF c.ep a.X a.Y a.C)):=by rw[fC bD (by kernel_rfl:cB aa 27=J 4) A (by decide:0+4<=4)];rfl
 have l2:=rE ok.d.len B;have l3:aD aa Gt h 23 (.ptr (.box b2) 0)=J a.W:=by rw[fe mE D];rfl
 have f1:=gN (b:=o);obtain⟨c35,-,f,-,⟨T,e⟩,-,u,-,⟨Z,i⟩,-⟩:=nc;have nK:=Be (pr:=Bu) O;have tL:=Bd (pr:=Bu) O;have j:=Q9 ok;have st:=qg (D2:=aF c.ep a.X a.Y a.C++ba c.doc a.p a.r a.n++[a.W,nl,nl]) fK.len (by have:=ok.d.len;simp only[cg,this];rfl) (by have ok2:cD {c with bT:=[],parts:=[]} {a with Pa:=nl,Z:=nl}:=⟨ok.x,ok.y,ok.cm,ok.d,ok.w,fK.pa,fK.z⟩;exact ok2.cells) E;rw[acN]at f;rw[Wf];clear A B D E ok;generalize ba c.doc a.p a.r a.n=z0 at *
 generalize aF c.ep a.X a.Y a.C=K at *
 generalize cG c.rows c.ac=u1 at *
 generalize iM c.rows c.ep c.ah=u2 at *
 generalize ij c.doc=u3 at *
 generalize dy (-1) c.who=u4 at *
 generalize (fm c.rows c.ac c.who).2.1=u5 at *
 generalize (fm c.rows c.ac c.who).2.2=u6 at *
 generalize a.X=X at *
 generalize a.Y=Y at *
 generalize a.W=Wa at *
 generalize K++z0++[Wa,nl,nl]=FC at *
 unfold I at *
 have z1:decide ((380:Int)=420)=ai:=by decide
 have z2:decide ((170:Int)=0)=ai:=by decide
 refine bL O Tryz.func34 O ?_;by_cases v:u1=0;rotate_left 1
 .have d1:decide (u1=0)=ai:=b_ v;clear f e u i j st nK;rw[av v]
  repeat' (first|simp(maxSteps:=9999999) (disch:=first|exact dZ|fail) only[gW,reduceIte,aJ,aB,y_,kK, *]|refine dX ?_ ?_<;>(intro _;try omega))
  exact⟨_,_,O,by unfold j3;rw[aP v];rfl,by first|rfl|rw[aP v]⟩
 subst v;cases u2 with
 |false=>
  simp only[ne_eq,not_true_eq_false,if_false,if_true]at f ⊢;clear e u i j st
  repeat' (first|simp(maxSteps:=9999999) (disch:=first|exact dZ|fail) only[gW,reduceIte,aJ,aB,y_,kK, *]|refine dX ?_ ?_<;>(intro _;try omega))
  exact⟨_,_,O,O,O⟩
 |true=>
 simp only[ne_eq,not_true_eq_false,if_false,uu]at f ⊢;cases u3 with
 |false=>
  simp only[jo,if_false,if_true]at e ⊢;clear u i j st
  repeat' (first|simp(maxSteps:=9999999) (disch:=first|exact dZ|fail) only[gW,reduceIte,aJ,aB,y_,kK, *]|refine dX ?_ ?_<;>(intro _;try omega))
  exact⟨_,_,O,O,O⟩
 |true=>
 simp only[uu,if_false,if_true]at e ⊢;cases u4 with
 |false=>
  simp only[jo,if_false,if_true]at ⊢;clear i j st
  repeat' (first|simp(maxSteps:=9999999) (disch:=first|exact dZ|fail) only[gW,reduceIte,aJ,aB,y_,kK, *]|refine dX ?_ ?_<;>(intro _;try omega))
  exact⟨_,_,O,O,O⟩
 |true=>
 simp only[uu,if_false]at ⊢;cases u5 with
 |false=>
  simp only[true_or,if_true]at ⊢;clear j st
  repeat' (first|simp(maxSteps:=9999999) (disch:=first|exact dZ|fail) only[gW,reduceIte,aJ,aB,y_,kK, *]|refine dX ?_ ?_<;>(intro _;try omega))
  all_goals exact⟨_,_,O,O,O⟩
 |true=>
 by_cases e6:u6=0
 .subst e6;simp only[uu,false_or,ne_eq,not_true_eq_false,if_false,if_true]at ⊢
  repeat' (first|simp(maxSteps:=9999999) (disch:=first|exact dZ|fail) only[gW,reduceIte,aJ,aB,y_, *]|refine dX ?_ ?_<;>(intro _;try omega))
  all_goals exact⟨_,_,O,O,O⟩
 .have d6:decide (u6=0)=ai:=b_ e6;simp only[e6,uu,false_or,ne_eq,not_false_eq_true,if_true]at ⊢;clear j st
  repeat' (first|simp(maxSteps:=9999999) (disch:=first|exact dZ|fail) only[gW,reduceIte,aJ,aB,y_,kK, *]|refine dX ?_ ?_<;>(intro _;try omega))
  all_goals exact⟨_,_,O,O,O⟩
def gu(c:Ce):Ce:=if c.eM=0 then {c with bT:=[],parts:=[]} else c0
def gt(c:Ce)(a:CA):CA:=if c.eM=0 then {a with Pa:=nl,Z:=nl} else a0
def rI{c}{a}(ok:cD c a):cD (gu c) (gt c a):=by
 unfold gu gt;split
 .exact⟨ok.x,ok.y,ok.cm,ok.d,ok.w,fK.pa,fK.z⟩
 .exact fK
def Wi(c)(a):aq (gu c) (gt c a)=if c.eM=0 then aF c.ep a.X a.Y a.C++ba c.doc a.p a.r a.n++[a.W,nl,nl] else aq c0 a0:=by
 unfold gu gt;by_cases h:c.eM=0
 .rw[av h,av h,av h];rfl
 .rw[aP h,aP h,aP h]
def alc(h:Heap)(c:Ce)(a:CA)(ok:cD c a)(B:Fv c a):
 ∃r h',SB.call 11 [.agg (aF c.ep a.X a.Y a.C),.agg (ba c.doc a.p a.r a.n),a.W] h=J (r,h')/\r=.ret (.tuple [.agg (aq (gu c) (gt c a)),I c.eM]):=by
 have b1:=mP (ep:=c.ep) ok.x ok.y ok.cm;have b2:=ok.d.cells;have b3:=ok.w.bG;have z:=vN;obtain⟨e,f⟩:∃e,(((h.push (aF c.ep a.X a.Y a.C)).push (ba c.doc a.p a.r a.n)).push [a.W]).push (aq c0 a0)=e:=⟨_,O⟩;have l4:F e.boxes=F h.boxes+4:=by rw[<-f];simp[bF]
 have D:e.boxes[h.boxes.length]?=J (aF c.ep a.X a.Y a.C):=by rw[<-f];exact aM (aM (aM (aK _ _)))
 have E:e.boxes[F h.boxes+1]?=J (ba c.doc a.p a.r a.n):=by rw[<-f];refine aM (aM ?_);have:=aK (h.push (aF c.ep a.X a.Y a.C)) (ba c.doc a.p a.r a.n);rwa [bF]at this
 have q2:e.boxes[F h.boxes+2]?=J [a.W]:=by rw[<-f];refine aM ?_;have:=aK ((h.push (aF c.ep a.X a.Y a.C)).push (ba c.doc a.p a.r a.n)) [a.W];rwa [bF,bF]at this
 have v:e.boxes[F h.boxes+3]?=J (aq c0 a0):=by rw[<-f];have:=aK (((h.push (aF c.ep a.X a.Y a.C)).push (ba c.doc a.p a.r a.n)).push [a.W]) (aq c0 a0);rwa [bF,bF,bF]at this
 obtain⟨_,h2,j,rfl,o⟩:=ald (e.push [.v (.int .i64 0)]) c a ok B (F h.boxes) (F h.boxes+1) (F h.boxes+2) (F h.boxes+3) (aM D) (aM E) (aM q2) (aM v);have r3:h2.boxes[F h.boxes+3]?=J (aq (gu c) (gt c a)):=by
  rw[Wi,o];split
  .exact dn (by rw[bF];omega)
  .exact aM v
 have rb:h2.boxes[e.boxes.length]?=J [.v (.int .i64 0)]:=by
  rw[o];split
  .rw[cr M];exact aK _ _
  .exact aK _ _
 obtain⟨h3,c33,A⟩:=FJ (pr:=Bu) O 34 _ e h2 c.eM j rb;have i:=A _ _ M r3;have u:=(rI ok).len;have ld:=ju u i;have st:=qg u u (rI ok).cells i;rw[kC i]at st;have n1:F (h.push (aF c.ep a.X a.Y a.C)).boxes=F h.boxes+1:=bF _ _;have n2:F ((h.push (aF c.ep a.X a.Y a.C)).push (ba c.doc a.p a.r a.n)).boxes=F h.boxes+2:=by rw[bF,bF]
 have n3:F (((h.push (aF c.ep a.X a.Y a.C)).push (ba c.doc a.p a.r a.n)).push [a.W]).boxes=F h.boxes+3:=by rw[bF,bF,bF]
 clear o j r3 rb A D E q2 v i ok B;generalize aq (gu c) (gt c a)=N at *
 generalize aF c.ep a.X a.Y a.C=K at *
 generalize ba c.doc a.p a.r a.n=z0 at *
 generalize aq c0 a0=Z0 at *
 generalize c.eM=z1 at *
 generalize a.W=Wa at *
 unfold I at *
 refine bL O Tryz.func11 O ?_;refine bE @am7 @f ?_;exact⟨_,_,O,O⟩
def ao1(h:Heap)(c:Ce)(a:CA)(ok:cD c a)(nc:Fv c a):
 ∃r h',SB.call 12 [.agg (aF c.ep a.X a.Y a.C),.agg (ba c.doc a.p a.r a.n),a.W] h=J (r,h')/\r=.ret (.tuple [.agg (aq (gu c) (gt c a)),I c.eM]):=by
 have b1:=mP (ep:=c.ep) ok.x ok.y ok.cm;have b2:=ok.d.cells;have z:=vN;have zb:=Ze;obtain⟨f,e⟩:∃f,((h.push (aF c.ep a.X a.Y a.C)).push (ba c.doc a.p a.r a.n)).push (aq c0 a0)=f:=⟨_,O⟩;have q0:f.boxes[h.boxes.length]?=J (aF c.ep a.X a.Y a.C):=by rw[<-e];exact aM (aM (aK _ _))
 have q1:f.boxes[F h.boxes+1]?=J (ba c.doc a.p a.r a.n):=by rw[<-e];refine aM ?_;have:=aK (h.push (aF c.ep a.X a.Y a.C)) (ba c.doc a.p a.r a.n);rwa [bF]at this
 have v:f.boxes[F h.boxes+2]?=J (aq c0 a0):=by rw[<-e];have:=aK ((h.push (aF c.ep a.X a.Y a.C)).push (ba c.doc a.p a.r a.n)) (aq c0 a0);rwa [bF,bF]at this
 have l0:aD aa Gt f 25 (.ptr (.box (F h.boxes)) 1)=J (.agg [a.X,a.Y]):=by rw[fC bD (by kernel_rfl:cB aa 25=J 2) q0 (by decide:1+2<=4)];rfl
 have l1:aD aa Gt f 27 (.ptr (.box (F h.boxes)) 0)=J (.agg (aF c.ep a.X a.Y a.C)):=by rw[fC bD (by kernel_rfl:cB aa 27=J 4) q0 (by decide:0+4<=4)];rfl
 have l2:=rE ok.d.len q1;have f1:=gN (b:=h.boxes.length);obtain⟨-,c40,-,Ru,-,⟨T,i⟩,-,A,-,⟨Z,j⟩⟩:=nc;have B:F (aF c.ep a.X a.Y a.C++ba c.doc a.p a.r a.n++[a.W,nl,nl])=48:=by have:=ok.d.len;simp only[cg,this];rfl
 have D:(U.agg (aF c.ep a.X a.Y a.C++ba c.doc a.p a.r a.n++[a.W,nl,nl])).bG=J (aF c.ep a.X a.Y a.C++ba c.doc a.p a.r a.n++[a.W,nl,nl]):=by have ok2:cD {c with bT:=[],parts:=[]} {a with Pa:=nl,Z:=nl}:=⟨ok.x,ok.y,ok.cm,ok.d,ok.w,fK.pa,fK.z⟩;exact ok2.cells
 have o:=Q9 ok;have st:=qg fK.len B D v;have s0:=qg fK.len fK.len fK.cells v;rw[kC v]at s0;have lZ:=ju fK.len v;have u:=ju (H:=f.put (F h.boxes+2) (aF c.ep a.X a.Y a.C++ba c.doc a.p a.r a.n++[a.W,nl,nl])) B (dn (aS.1 v).1);have n1:F (h.push (aF c.ep a.X a.Y a.C)).boxes=F h.boxes+1:=bF _ _;have n2:F ((h.push (aF c.ep a.X a.Y a.C)).push (ba c.doc a.p a.r a.n)).boxes=F h.boxes+2:=by rw[bF,bF]
 rw[Wi,Wf];clear q0 q1 v ok B D;generalize ba c.doc a.p a.r a.n=z0 at *
 generalize aF c.ep a.X a.Y a.C=K at *
 generalize aq c0 a0=Z0 at *
 generalize cG c.rows c.ac=u1 at *
 generalize iM c.rows c.ep c.ah=u2 at *
 generalize ij c.doc=u3 at *
 generalize dy (-1) c.who=u4 at *
 generalize (fm c.rows c.ac c.who).2.1=u5 at *
 generalize (fm c.rows c.ac c.who).2.2=u6 at *
 generalize a.X=X at *
 generalize a.Y=Y at *
 generalize a.W=Wa at *
 generalize K++z0++[Wa,nl,nl]=FC at *
 have z2:decide ((170:Int)=0)=ai:=by decide
 unfold I at *
 refine bL O Tryz.func12 O ?_;by_cases E:u1=0;rotate_left 1
 .have d1:decide (u1=0)=ai:=b_ E;clear Ru i A j o st u;simp only[E,ne_eq,not_false_eq_true,if_true,if_false]
  repeat' (first|simp(maxSteps:=9999999) (disch:=first|exact dZ|fail) only[gW,reduceIte,aJ,aB,y9,e, *]|refine dX ?_ ?_<;>(intro _;try omega))
  all_goals exact⟨_,_,O,O⟩
 subst E;cases u2 with
 |false=>
  simp only[ne_eq,not_true_eq_false,if_false,if_true];clear i A j o st u
  repeat' (first|simp(maxSteps:=9999999) (disch:=first|exact dZ|fail) only[gW,reduceIte,aJ,aB,y9,e, *]|refine dX ?_ ?_<;>(intro _;try omega))
  all_goals exact⟨_,_,O,O⟩
 |true=>
 cases u3 with
 |false=>
  simp only[jo,if_false,if_true,ne_eq,not_true_eq_false,uu]at i ⊢;clear A j o st u
  repeat' (first|simp(maxSteps:=9999999) (disch:=first|exact dZ|fail) only[gW,reduceIte,aJ,aB,y9,e, *]|refine dX ?_ ?_<;>(intro _;try omega))
  all_goals exact⟨_,_,O,O⟩
 |true=>
 simp only[uu,if_false,if_true,ne_eq,not_true_eq_false]at i ⊢;cases u4 with
 |false=>
  simp only[jo,if_false,if_true]at ⊢;clear j o st u
  repeat' (first|simp(maxSteps:=9999999) (disch:=first|exact dZ|fail) only[gW,reduceIte,aJ,aB,y9,e, *]|refine dX ?_ ?_<;>(intro _;try omega))
  all_goals exact⟨_,_,O,O⟩
 |true=>
 simp only[uu,if_false]at ⊢;cases u5 with
 |false=>
  simp only[true_or,if_true]at ⊢;clear o st u
  repeat' (first|simp(maxSteps:=9999999) (disch:=first|exact dZ|fail) only[gW,reduceIte,aJ,aB,y9,e, *]|refine dX ?_ ?_<;>(intro _;try omega))
  all_goals exact⟨_,_,O,O⟩
 |true=>
 by_cases e6:u6=0
 .subst e6;simp only[uu,false_or,ne_eq,not_true_eq_false,if_false,if_true]at ⊢
  repeat' (first|simp(maxSteps:=9999999) (disch:=first|exact dZ|fail) only[gW,reduceIte,aJ,aB,y9,e, *]|refine dX ?_ ?_<;>(intro _;try omega))
  all_goals exact⟨_,_,O,O⟩
 .have d6:decide (u6=0)=ai:=b_ e6;simp only[e6,uu,false_or,ne_eq,not_false_eq_true,if_true]at ⊢;clear o st u
  repeat' (first|simp(maxSteps:=9999999) (disch:=first|exact dZ|fail) only[gW,reduceIte,aJ,aB,y9,e, *]|refine dX ?_ ?_<;>(intro _;try omega))
  all_goals exact⟨_,_,O,O⟩
def am8:Tryz.f112.results.toList=[.tmp 4]:=by kernel_rfl
def anl:Tryz.f53.results.toList=[.tmp 4]:=by kernel_rfl
def ann:Tryz.f57.results.toList=[.tmp 4]:=by kernel_rfl
def anj:Tryz.f50.results.toList=[.tmp 4]:=by kernel_rfl
def ank:Tryz.f51.results.toList=[.tmp 4]:=by kernel_rfl
def KW:(∀b,dQ aa 46 (.ptr (.box b) 0) 0=J (.ptr (.box b) 0))/\(∀b,dQ aa 46 (.ptr (.box b) 0) 1=J (.ptr (.box b) 1))/\(∀b,dQ aa 46 (.ptr (.box b) 0) 2=J (.ptr (.box b) 2))/\∀b,dQ aa 46 (.ptr (.box b) 0) 3=J (.ptr (.box b) 3):=
 ⟨λ_=>by kernel_rfl,λ_=>by kernel_rfl,λ_=>by kernel_rfl,λ_=>by kernel_rfl⟩
def F5:(∀b,dQ aa 48 (.ptr (.box b) 0) 0=J (.ptr (.box b) 0))/\∀b,dQ aa 48 (.ptr (.box b) 0) 1=J (.ptr (.box b) 1):=
 ⟨λ_=>by kernel_rfl,λ_=>by kernel_rfl⟩
def Hq{H}{b}{p}(e:H.boxes[b]?=J (aL p)):aD aa Gt H 3 (.ptr (.box b) 0)=J (I p.aU)/\aD aa Gt H 3 (.ptr (.box b) 1)=J (I p.no)/\aD aa Gt H 3 (.ptr (.box b) 2)=J (I p.d)/\aD aa Gt H 3 (.ptr (.box b) 3)=J (I p.e)/\aD aa Gt H 46 (.ptr (.box b) 0)=J (.agg (aL p)):=by refine⟨?_,?_,?_,?_,nj e⟩<;>(rw[fe dS e];rfl)
def yT{H}{b}{q}(e:H.boxes[b]?=J (bh q)):aD aa Gt H 3 (.ptr (.box b) 0)=J (I q.1)/\aD aa Gt H 3 (.ptr (.box b) 1)=J (I q.2)/\aD aa Gt H 48 (.ptr (.box b) 0)=J (.agg (bh q)):=by refine⟨by rw[fe dS e];rfl,by rw[fe dS e];rfl,?_⟩;rw[fC bD (by kernel_rfl:cB aa 48=J 2) e (aV 2)];rfl
def tZ(p):(U.agg (aL p)).bG=J (aL p):=rfl
def t_(q):(U.agg (bh q)).bG=J (bh q):=rfl
section
variable {c:Ce} {a:CA} (ok:cD c a) (D:dz a) (A:c.who.length<=1000000)
include ok D A
def Y4(f:pE c.who)(h:Heap)(k:Int):∃h',SB.call 112 [.agg (aq c a),I k] h=J (.ret (.v (.bool (c.who.contains k))),h')/\Ext h h':=by
 have j:=ok.cells;obtain⟨-,-,o,-,-,-⟩:=hO ok (aK h (aq c a));obtain⟨-,-,f2,-,-⟩:=pN;obtain⟨u,e⟩:=ajQ ok.w f A k;rw[D.W]at e;have i:=(nE e O O).call;have x:=Ext.push h (aq c a);clear ok f A D e;generalize aq c a=N at *
 generalize c.who.contains k=v at *
 unfold I at *
 refine gy O Tryz.func112 O ?_;refine bE @am8 @a_ ?_;exact⟨_,O,x⟩
def aps(e:pE c.who)(h:Heap)(p:Pr):∃r h',SB.call 53 [.agg (aq c a),.agg (aL p)] h=J (r,h')/\r=.ret (.v (.bool (fV c.who p))):=by
 have B:=ok.cells;have v:=tZ p;obtain⟨h2,i,f⟩:=Y4 ok D A e ((h.push (aq c a)).push (aL p)) p.aU;obtain⟨-,-,-,-,-,E⟩:=hO ok (aM (cs:=aL p) (aK h (aq c a)));have L:=Hq (aK (h.push (aq c a)) (aL p));have u:=Hq (f.box _ _ (aK (h.push (aq c a)) (aL p)));have z1:=KW;have j:=(nE (Vt p.d) O O).call;have o:=(nE (Vt p.e) O O).call;clear ok D A e f;unfold fV;generalize aL p=z0 at *
 generalize aq c a=N at *
 generalize c.who.contains p.aU=z2 at *
 generalize bX p.d=u2 at *
 generalize bX p.e=u3 at *
 obtain⟨pk,pn,pd,pe⟩:=p;simp only at L u i j o ⊢;unfold I at *
 refine bL O Tryz.func53 O ?_
 repeat' (first|simp(maxSteps:=9999999) (disch:=first|exact dZ|fail) only[gW,reduceIte,aJ,aB,anl,a_, *]|refine dX ?_ ?_<;>(intro _;try omega))
 all_goals exact⟨_,_,O,by simp[*]⟩
def apt(e:pE c.who)(h:Heap)(p:Int × Int):∃r h',SB.call 57 [.agg (aq c a),.agg (bh p)] h=J (r,h')/\r=.ret (.v (.bool (fW c.who p))):=by
 have u:=ok.cells;have o:=t_ p;obtain⟨h2,i,f⟩:=Y4 ok D A e ((h.push (aq c a)).push (bh p)) p.1;obtain⟨-,-,-,-,-,v⟩:=hO ok (aM (cs:=bh p) (aK h (aq c a)));have L:=yT (aK (h.push (aq c a)) (bh p));have j:=yT (f.box _ _ (aK (h.push (aq c a)) (bh p)));have z1:=F5;clear ok D A e f;unfold fW cN Qi;generalize bh p=z0 at *
 generalize aq c a=N at *
 generalize c.who.contains p.1=z2 at *
 obtain⟨B,E⟩:=p;simp only at L j i ⊢;unfold I at *
 refine bL O Tryz.func57 O ?_
 repeat' (first|simp(maxSteps:=9999999) (disch:=first|exact dZ|fail) only[gW,reduceIte,aJ,aB,ann,a_, *]|refine dX ?_ ?_<;>(intro _;try omega))
 all_goals exact⟨_,_,O,by simp[*]⟩
def alV(h:Heap)(p:Pr):∃r h',SB.call 50 [.agg (aq c a),.agg (aL p)] h=J (r,h')/\r=.ret (.v (.bool (fV c.who p))):=by
 have o:=ok.cells;have j:=tZ p;obtain⟨-,-,u,-,-,-⟩:=hO ok (aM (cs:=aL p) (aK h (aq c a)));obtain⟨-,-,f2,-,-⟩:=pN;have L:=Hq (aK (h.push (aq c a)) (aL p));have z1:=KW;have f:=(nE (Vs p.d) O O).call;have i:=(nE (Vs p.e) O O).call;have e:=Vn ok.w M p.aU;rw[D.W]at e;have e:=(nE e O O).call;clear ok D A;unfold fV;generalize aL p=z0 at *
 generalize aq c a=N at *
 generalize c.who.contains p.aU=z2 at *
 generalize bX p.d=u2 at *
 generalize bX p.e=u3 at *
 obtain⟨E,pn,v,B⟩:=p;simp only at L e f i ⊢;unfold I at *
 refine bL O Tryz.func50 O ?_
 repeat' (first|simp(maxSteps:=9999999) (disch:=first|exact dZ|fail) only[gW,reduceIte,aJ,aB,anj,a_, *]|refine dX ?_ ?_<;>(intro _;try omega))
 all_goals exact⟨_,_,O,by simp[*]⟩
def amb(h:Heap)(p:Int × Int):∃r h',SB.call 51 [.agg (aq c a),.agg (bh p)] h=J (r,h')/\r=.ret (.v (.bool (fW c.who p))):=by
 have i:=ok.cells;have f:=t_ p;obtain⟨-,-,j,-,-,-⟩:=hO ok (aM (cs:=bh p) (aK h (aq c a)));obtain⟨-,-,f2,-,-⟩:=pN;have L:=yT (aK (h.push (aq c a)) (bh p));have B:=F5;have e:=Vn ok.w M p.1;rw[D.W]at e;have e:=(nE e O O).call;clear ok D A;unfold fW cN Qi;generalize bh p=v at *
 generalize aq c a=N at *
 generalize c.who.contains p.1=E at *
 obtain⟨o,u⟩:=p;simp only at L e ⊢;unfold I at *
 refine bL O Tryz.func51 O ?_
 repeat' (first|simp(maxSteps:=9999999) (disch:=first|exact dZ|fail) only[gW,reduceIte,aJ,aB,ank,a_, *]|refine dX ?_ ?_<;>(intro _;try omega))
 all_goals exact⟨_,_,O,by simp[*]⟩
end
end Go.Proofs.YtcbhpkjbiehcpaaGreatDoor
end
section
namespace Go.AE
variable {P:bj}
def ws{w:bO}{dT sT elem:aC}{i:TypeInfo}(hu:P.underlying dT=J (.slice elem))(hi:P.info? elem=J i){g o dl m sl:Nat}{a:Addr}{cells:Array aG}{e:aC}{vs:List aG}
 (hg:w.heap[g]?=J (.cells cells e (0,0))) (hm:Nat.min sl dl=m) (B:F vs=m*i.size) (f:∀j v,vs[j]?=J v->w.cell? (a.add j)=J v) (E:o+F vs<=cells.size) (h1:∀v∈vs,mf v=V):
 ∃w' cZ,(∀ty u D,(Builtin.copy_ #[dT,sT] ty #[.slice (J ⟨g,o,af⟩) dl u,.slice (J a) sl D]).run P w=.ok (goInt m) w')/\jp w w' g (.cells cZ e (0,0))/\cZ.toList=cells.toList.take o++vs++cells.toList.drop (o+F vs):=by
 obtain⟨w',cZ,q1,q2,q3⟩:=BO (P:=P) o e (0,0) vs 0 cells w hg M h1 λj _ _=>ya j;refine⟨w',cZ,λty u D=>?_,q2,by rw[q3];rfl⟩;have A:=run_loadCells_list (P:=P) w a vs f;rw[B]at A;simp[Builtin.copy_,run_underlying hu,Builtin.lenOf,Builtin.firstCells,sizeOf,typeInfo,hi,hm,A,q1]
def X8(w:bO)(o tR e:aC)(ht:P.underlying o=J (.slice e))(size:Nat)(hz:∀w,(Go.sizeOf e).run P w=.ok size w)
 (a b:Addr) (u ca v cb:Nat) (D:a.block≠b.block) (tA tB:aC) (i f:Nat) (qE:w.shape? a.block=J (tA,i)) (DO:w.shape? b.block=J (tB,f)) (hkA:i≠0) (hkB:f≠0) (B:∀j,w.frozen? ⟨b.block,j,af⟩=ai) (A:b.spot=af):
 (Extern.SlicesOverlaps.overlaps #[o,o] #[tR] #[.slice (J a) u ca,.slice (J b) v cb]).run P w=.ok (.bool ai) w:=by
 have tN:(a.block !=b.block)=V:=by simpa using D
 have E:(a.block==b.block)=ai:=by simpa using D
 have Az:w.frozen? b=ai:=by obtain⟨g,z0,sp⟩:=b;simp only at A;subst A;exact B z0
 have ob:w.frozen? {block:=b.block,off:=f}=ai:=B f;change Sem.run P (α:=aG) (do
  let J t := (#[o, o] : Array aC)[0]? | stuck "slices.overlaps: no parameter types"
  let .slice elem <- underlying t | stuck "slices.overlaps: slice type expected"
  let size <-sizeOf elem
  match (J a:Option Addr),(J b:Option Addr) with
  |some a,J b=>
   if u=0∨v=0∨size=0 then pure (Value.bool ai)
   else if a.block !=b.block&&(<-frozen a)&&(<-frozen b) then unsupported .addressObserved
   else do
    if a.block !=b.block then do
     noView a;noView b
     if <- mayBeOne a b then return Value.bool ((<- choose (.extern "sameAddr.stringBytes" 2)) == 1)
    pure (Value.bool (a.block==b.block&&a.off<b.off+v*size&&b.off<a.off+u*size))
  |_,_=>pure (Value.bool ai)) w=_
 by_cases h0:u=0∨v=0∨size=0
 .simp[run_underlying ht,hz,h0]
 .cases f with
  |zero=>exact absurd O hkB|succ f=>cases i with
  |zero=>exact absurd O hkA|succ i=>
   cases hfa:w.frozen? a<;>cases hfe:w.frozen? {block:=a.block,off:=i+1}<;>
   simp[run_underlying ht,hz,h0,tN,E,frozen,noView,viewAt,mayBeOne,stringish,shape,Sem.run,qE,DO,Az,ob,hfa,hfe]
def U_{α:Type}{L vs T e:List α}{a b s}(A:b+s<=F L)(B:a<=b)(v:F vs=s)(u:T=(L.take b).drop a)(f:e=L.take (a+s)++T++L.drop (a+s+F T)):
 (e.take a++vs++e.drop (a+s)).take (b+s)=L.take a++vs++T:=by
 have i:F T=b-a:=by rw[u,ev,cR];omega
 have j:e.take a=L.take a:=by rw[f,iE,List.take_append_of_le_length (by rw[cR];omega),Fs];congr 1;omega
 have o:e.drop (a+s)=T++L.drop (a+s+F T):=by rw[f,iE];exact aae (by rw[cR];omega)
 rw[j,o,<-iE];exact qr (by simp only[cg,cR,i,v];omega)
end Go.AE
end
section
namespace Go.Proofs.YtcbhpkjbiehcpaaGreatDoor
open Go.AE Go.Lib
def Hl:∃i,aa.info? 46=J i/\i.size=4/\i.bytes<=64/\∃z,i.zero=J z/\z.cells.size=4:=by
 have h:(match aa.info? 46 with|some i=>decide (i.size=4)&&decide (i.bytes<=64)&&(match i.zero with|some z=>decide (z.cells.size=4)|none=>ai)|none=>ai)=V:=by kernel_rfl
 cases f:aa.info? 46 with
 |none=>rw[f]at h;cases h
 |some i=>
  rw[f]at h;simp only at h;cases e:i.zero with|none=>rw[e]at h;simp at h|some z=>rw[e]at h;simp only[bm,decide_eq_true_eq]at h;exact⟨i,O,h.1.1,h.1.2,z,e,h.2⟩
def ai3(w:bO)(g n c i A ov vc:Nat)(cells:Array aG)(e:aC)(hg:w.heap[g]?=J (.cells cells e (0,0)))(hi:i<n)(DL:n+1<=c)(tN:n<1000000)(iT:c*4<=cells.size)(fI:A≠g)(vs:List aG)(B:F vs=4)(gq:∀j v,vs[j]?=J v->w.cell? ⟨A,ov+j,af⟩=J v)(o_:∀v∈vs,mf v=V)(o7:∀v∈cells.toList.take (n*4),mf v=V)(tA:aC)(kA:Nat)(f:w.shape? A=J (tA,kA)):
 Calls aa 116 #[.slice (J ⟨g,0,af⟩) n c,.int .i64 i,.slice (J ⟨A,ov,af⟩) 1 vc] w λr w'=>r=.returned (.slice (J ⟨g,0,af⟩) (n+1) c)/\
  ∃cZ,jp w w' g (.cells cZ e (0,0))/\cZ.size=cells.size/\cZ.toList.take ((n+1)*4)=cells.toList.take (i*4)++vs++(cells.toList.take (n*4)).drop (i*4):=by
 obtain⟨inf,u,mL,-,-⟩:=Hl;have u32:=kZ;have eI:F (cells.toList.take (n*4))=n*4:=by rw[cR,hW];omega
 have lE:F ((cells.toList.take (n*4)).drop (i*4))=(n-i)*4:=by rw[ev,eI];omega
 obtain⟨w1,c1,yk,E,q2⟩:=ws (P:=aa) (w:=w.drew) (dT:=32) (sT:=32) u32 u (g:=g) (o:=(i+1)*4) (dl:=n-i) (m:=n-i) (sl:=n+1-i) (a:=⟨g,i*4,af⟩) (vs:=(cells.toList.take (n*4)).drop (i*4)) (hg:w.drew.heap[g]?=_) (by simp only[xB];split<;>omega) (by rw[lE,mL]) (λj v hj=>by
  rw[Addr.gY,cell_of (w:=w.drew) hg];rw[oL,mr]at hj;split at hj
  .simpa using hj
  .cases hj) (by rw[lE];omega) (λv hv=>o7 v (Fp hv))
 have Do:c1.size=cells.size:=by have:=congrArg F q2;simp only[cg,cR,ev,hW,lE]at this;rw[this];rw[ev,cR,hW]at lE;omega
 obtain⟨w2,c2,yl,q3,q4⟩:=ws (P:=aa) (w:=w1) (dT:=32) (sT:=32) u32 u (g:=g) (o:=i*4) (dl:=n+1-i) (m:=1) (sl:=1) (a:=⟨A,ov,af⟩) (vs:=vs) E.this (by simp only[xB];split<;>omega) (by rw[B,mL]) (λj v hj=>by rw[Addr.gY];have:=gq j v hj;unfold World.cell? at this ⊢;rw[E.other A fI];exact this) (by rw[B,Do];omega) o_;have Mt:∀lb cb,(callFunc 180 #[.slice (J ⟨A,ov,af⟩) 1 vc,.slice (J ⟨g,(i+1)*4,af⟩) lb cb]).run aa w=.ok (.value (.bool ai)) w:=λlb cb=>by
  rw[run_callFunc_extern Tryz.func180 bD bD bD (e:=Extern.SlicesOverlaps.overlaps #[32,32] #[4]) bD,
   X8 w 32 4 46 u32 4 (λw=>by simp[sizeOf,typeInfo,u,mL]) ⟨A,ov,af⟩ ⟨g,(i+1)*4,af⟩ 1 vc lb cb fI tA e kA cells.size f (by unfold World.shape?;rw[hg]) ?_ M (λj=>by rw[tt hg];exact ya j) O]
  .rfl
  .intro q;subst q;have h0:=gq 0 _ (aN M);unfold World.shape? at f;unfold World.cell? at h0;split at f
   .rename_i c e z D;simp only[dt,cL]at f;rw[D]at h0;simp only at h0;rw[B7 M]at h0;cases h0
   .cases f
 have mixed:aa.follows .mixedOrders=V:=wg.mixed;have u0:=run_underlying kZ;have DW:¬((1:Int)=0):=by omega
 have oz:¬((i:Int)=(n:Int)):=by omega
 have AW:IntKind.i64.wrap ((i:Int)+1)=(i:Int)+1:=by rw[IntKind.wrap_i64];omega
 have oy:IntKind.i64.wrap ((n:Int)+1)=(n:Int)+1:=by rw[IntKind.wrap_i64];omega
 have ob:(0:Int)<=(i:Int)+1:=by omega
 have js:i<=n:=by omega
 have DQ:((i:Int)+1).toNat=i+1:=by omega
 have j_:¬(c=i+1):=by omega
 have tG:(i:Int)<=(n:Int)+1:=by omega
 have uQ:¬(c=i):=by omega
 have gC:(aa.info? 46).map (·.size)=J 4:=by rw[u];simp[mL]
 have ry:∃cZ,jp w w2 g (.cells cZ e (0,0))/\cZ.size=cells.size/\cZ.toList.take ((n+1)*4)=cells.toList.take (i*4)++vs++(cells.toList.take (n*4)).drop (i*4):=by
  refine⟨c2,⟨q3.os.trans E.os,q3.tape.trans E.tape,q3.output.trans E.output,q3.size.trans E.size,λk hk=>(q3.other k hk).trans (E.other k hk),q3.this⟩,?_,?_⟩
  .have:=congrArg F q4;simp only[cg,cR,ev,hW,B]at this;omega
  .rw[q4,B,(M:(n+1)*4=n*4+4)];refine U_ (by rw[hW];omega) M B O ?_;rw[q2,(M:(i+1)*4=i*4+4)]
 clear E q2 q3 q4 hg f gq o_ o7
 go_enter J9,QH
 go_wp2_with (simp only[Mt])
 go_region_law (refine step_copy_runI O _ _ 32 32 O _ _ (by simp[Act.eval,Act.put]) (by simp[Act.eval,Act.put]) (yk _ _ _) ?_)
 go_wp2_with (at_builtin;refine wpList_copy_runI _ O _ _ 32 32 O _ _ O O (yl _ _ _) ?_)
 go_ret
 exact⟨O,ry⟩
def ai1(w w':bO)(e:Option Addr)(n c o:Nat)(a:Addr)(u:aG)(hn:n<=c)(f:∀ty,(Builtin.append_ #[32,32] ty #[.slice e n c,.slice (J a) 1 o]).run aa w=.ok u w'):
 Calls aa 116 #[.slice e n c,.int .i64 n,.slice (J a) 1 o] w λr A=>r=.returned u/\A=w':=by
 have v:aa.follows .mixedOrders=V:=wg.mixed;have u0:=run_underlying kZ;obtain⟨inf,i,j,-,-⟩:=Hl;have D:(aa.info? 46).map (·.size)=J 4:=by rw[i];simp[j]
 have E:¬((1:Int)=0):=by omega
 go_enter J9,QH
 cases e with
 |none=>
  go_wp2_with (at_builtin;refine Lib.wpList_append_run _ O _ _ _ _ O _ _ O O _ _ (f _) ?_)
  all_goals (go_ret;exact⟨O,O⟩)
 |some a0=>
  obtain⟨ab,ao,B⟩:=a0
  go_wp2_with (at_builtin;refine Lib.wpList_append_run _ O _ _ _ _ O _ _ O O _ _ (f _) ?_)
  all_goals (go_ret;exact⟨O,O⟩)
def ai2(w:bO)(g n c i gv ov vc:Nat)(cells:Array aG)(e:aC)(hg:w.heap[g]?=J (.cells cells e (0,0)))(hi:i<n)(hnc:n<=c)(DL:c<n+1)(hb:n<1000000)(iT:n*4<=cells.size)(vs:List aG)(E:F vs=4)(gq:∀j v,vs[j]?=J v->w.cell? ⟨gv,ov+j,af⟩=J v)(o_:∀v∈vs,mf v=V)(o7:∀v∈cells.toList.take (n*4),mf v=V):
 Calls aa 116 #[.slice (J ⟨g,0,af⟩) n c,.int .i64 i,.slice (J ⟨gv,ov,af⟩) 1 vc] w λr w'=>∃c2 N c0 cZ,r=.returned (.slice (J ⟨w.heap.size,0,af⟩) (n+1) c2)/\n+1<=c2/\jp {w with drawn:=N,heap:=w.heap.push (.cells c0 46)} w' w.heap.size (.cells cZ 46 (0,0))/\cZ.size=c2*4/\cZ.toList.take ((n+1)*4)=cells.toList.take (i*4)++vs++(cells.toList.take (n*4)).drop (i*4):=by
 obtain⟨inf,D,mL,rz,z,hz,AY⟩:=Hl;have u32:=kZ;have eI:F (cells.toList.take (n*4))=n*4:=by rw[cR,hW];omega
 have lE:F ((cells.toList.take (n*4)).drop (i*4))=(n-i)*4:=by rw[ev,eI];omega
 have LJ:c=n:=by omega
 subst LJ;have hold:(Builtin.firstCells inf.size i (.slice (J ⟨g,0,af⟩) i c)).run aa w.drew=.ok (cells.toList.take (i*4)).toArray w.drew:=by
  have:=run_loadCells_list (P:=aa) w.drew ⟨g,0,af⟩ (cells.toList.take (i*4)) (λj v A=>by
   rw[Addr.gY,cell_of (w:=w.drew) hg];simp only[mr]at A;split at A
   .simpa using A
   .cases A)
  rw[show(F (cells.toList.take (i*4)))=i*inf.size by rw[cR,hW,mL];omega]at this;exact this
 have uP:=Lib.run_append_grow_zeros (P:=aa) w 32 3 32 46 inf z .i64 .i64 u32 mD D hz (J ⟨g,0,af⟩) i c (cells.toList.take (i*4)) hold (c+1-i) M M M M (by have:=ji (M:c+1-i<=1000001) rz;omega) (by have:=growslice_fits (bytes:=inf.bytes) (M:c<i+(c+1-i)) (by have:=ji (M:i+(c+1-i)<=1000001) rz;omega);omega);rw[(M:i+(c+1-i)=c+1)]at uP;obtain⟨u,qD⟩:∃u,u=grownCap w (c+1) c 46:=⟨_,O⟩;have Lm:c+1<=u:=by rw[qD];exact grownCap_ge w _ _ _
 have ahv:u<=9223372036854775807:=by have:=grownCap_le_maxLen w (c+1) c 46 (by unfold maxLen;omega);rw[<-qD]at this;unfold maxLen at this;omega
 rw[<-qD]at uP;obtain⟨f,B⟩:∃f:Array aG,f=(cells.toList.take (i*4)).toArray++Builtin.zeroCells z.cells (c+1-i)++Builtin.zeroCells z.cells (u-(c+1)):=⟨_,O⟩;rw[<-B]at uP;have Dh:f.size=u*4:=by rw[B];simp only[B9,JM,IQ,AY,cR,hW];omega
 have Di:f.toList.take (i*4)=cells.toList.take (i*4):=by rw[B];simp only[vR];rw[iE];exact qr (by rw[cR,hW];omega)
 obtain⟨W1,uO⟩:∃W1,W1=(w.alloc (.cells f 46)).drew:=⟨_,O⟩;have Dj:W1.heap[w.heap.size]?=J (.cells f 46 (0,0)):=by rw[uO];show(w.heap.push _)[w.heap.size]?=_;rw[Fa,av O]
 have ye:∀k,k<w.heap.size->W1.heap[k]?=w.heap[k]?:=λk hk=>by rw[uO];show(w.heap.push _)[k]?=_;rw[Fa,aP M]
 have LU:=od hg;have DS:gv<w.heap.size:=block_lt_of_cell (gq 0 _ (aN M));obtain⟨w1,c1,yk,q1,q2⟩:=ws (P:=aa) (w:=W1) (dT:=32) (sT:=32) u32 D (g:=w.heap.size) (o:=i*4) (dl:=c+1-i) (m:=1) (sl:=1) (a:=⟨gv,ov,af⟩) (vs:=vs) Dj (by simp only[xB];split<;>omega) (by rw[E,mL]) (λj v A=>by rw[Addr.gY];have:=gq j v A;unfold World.cell? at this ⊢;rw[ye gv DS];exact this) (by rw[E,Dh];omega) o_;have Do:c1.size=f.size:=by have:=congrArg F q2;simp only[cg,cR,ev,hW,E]at this;omega
 have AD:w1.heap[g]?=J (.cells cells e (0,0)):=by rw[q1.other g M,ye g LU];exact hg
 obtain⟨w2,c2,yl,q3,q4⟩:=ws (P:=aa) (w:=w1.drew) (dT:=32) (sT:=32) u32 D (g:=w.heap.size) (o:=(i+1)*4) (dl:=c-i) (m:=c-i) (sl:=c-i) (a:=⟨g,i*4,af⟩) (vs:=(cells.toList.take (c*4)).drop (i*4)) (q1.this:w1.drew.heap[_]?=_) (by simp only[xB];split<;>omega) (by rw[lE,mL]) (λj v A=>by
  rw[Addr.gY,cell_of (w:=w1.drew) AD];rw[oL,mr]at A;split at A
  .simpa using A
  .cases A) (by rw[lE];omega) (λv hv=>o7 v (Fp hv))
 have mixed:aa.follows .mixedOrders=V:=wg.mixed;have u0:=run_underlying kZ;have DW:¬((1:Int)=0):=by omega
 have oz:¬((i:Int)=(c:Int)):=by omega
 have hz3:(c:Int)<(c:Int)+1:=by omega
 have AW:IntKind.i64.wrap ((i:Int)+1)=(i:Int)+1:=by rw[IntKind.wrap_i64];omega
 have oy:IntKind.i64.wrap ((c:Int)+1)=(c:Int)+1:=by rw[IntKind.wrap_i64];omega
 have hw3:IntKind.i64.wrap ((c:Int)+1-(i:Int))=((c+1-i:Nat):Int):=by rw[IntKind.wrap_i64];omega
 have yu:(c:Int)+1-(i:Int)=((c+1-i:Nat):Int):=by omega
 have ob:(0:Int)<=(i:Int)+1:=by omega
 have js:i<=c:=by omega
 have DQ:((i:Int)+1).toNat=i+1:=by omega
 have hGi:¬(u=i):=by omega
 have ahw:¬(u=i+1):=by omega
 have yj:¬(c=i):=by omega
 have tG:(i:Int)<=(c:Int):=by omega
 have gC:(aa.info? 46).map (·.size)=J 4:=by rw[D];simp[mL]
 have ry:∃c3 N c0 cZ,(.returned (.slice (J ⟨w.heap.size,0,af⟩) (c+1) u):Ending)=.returned (.slice (J ⟨w.heap.size,0,af⟩) (c+1) c3)/\c+1<=c3/\jp {w with drawn:=N,heap:=w.heap.push (.cells c0 46)} w2 w.heap.size (.cells cZ 46 (0,0))/\cZ.size=c3*4/\cZ.toList.take ((c+1)*4)=cells.toList.take (i*4)++vs++(cells.toList.take (c*4)).drop (i*4):=by
  subst uO;refine⟨u,w.drew.drawn,f,c2,O,Lm,⟨q3.os.trans q1.os,q3.tape.trans q1.tape,q3.output.trans q1.output,q3.size.trans q1.size,λk hk=>(q3.other k hk).trans (q1.other k hk),q3.this⟩,?_,?_⟩
  .have:=congrArg F q4;simp only[cg,cR,ev,hW,lE]at this;omega
  .rw[q4,lE];have e1:c1.toList.take ((i+1)*4)=cells.toList.take (i*4)++vs:=(by rw[q2,Di];exact qr (by simp only[cg,cR,hW,E];omega));rw[e1];exact qr (by simp only[cg,cR,ev,hW,E];omega)
 clear q1 q2 q3 q4 hg gq o_ o7 Di B hold Dj ye AD qD Dh;subst uO
 go_enter J9,QH
 go_wp2_with (first
  |(at_builtin;refine Lib.wpList_append_run _ O _ _ _ _ O _ _ O O _ _ (uP) ?_)
  |(at_builtin;refine wpList_copy_runI _ O _ _ 32 32 O _ _ O O (yk _ _ _) ?_))
 go_region_law (refine step_copy_runI O _ _ 32 32 O (.slice (J ⟨w.heap.size,(i+1)*4,af⟩) (c-i) (u-(i+1))) (.slice (J ⟨g,i*4,af⟩) (c-i) (c-i)) (by simp[Act.eval,Act.put]) (by simp[Act.eval,Act.put]) (yl _ _ _) ?_)
 go_wp2
 go_ret
 exact ry
def DY:∃i,aa.info? 48=J i/\i.size=2/\i.bytes<=64/\∃z,i.zero=J z/\z.cells.size=2:=by
 have h:(match aa.info? 48 with|some i=>decide (i.size=2)&&decide (i.bytes<=64)&&(match i.zero with|some z=>decide (z.cells.size=2)|none=>ai)|none=>ai)=V:=by kernel_rfl
 cases f:aa.info? 48 with
 |none=>rw[f]at h;cases h
 |some i=>
  rw[f]at h;simp only at h;cases e:i.zero with|none=>rw[e]at h;simp at h|some z=>rw[e]at h;simp only[bm,decide_eq_true_eq]at h;exact⟨i,O,h.1.1,h.1.2,z,e,h.2⟩
def ai9(w:bO)(g n c i A ov vc:Nat)(cells:Array aG)(e:aC)(hg:w.heap[g]?=J (.cells cells e (0,0)))(hi:i<n)(DL:n+1<=c)(tN:n<1000000)(iT:c*2<=cells.size)(fI:A≠g)(vs:List aG)(B:F vs=2)(gq:∀j v,vs[j]?=J v->w.cell? ⟨A,ov+j,af⟩=J v)(o_:∀v∈vs,mf v=V)(o7:∀v∈cells.toList.take (n*2),mf v=V)(tA:aC)(kA:Nat)(f:w.shape? A=J (tA,kA)):
 Calls aa 120 #[.slice (J ⟨g,0,af⟩) n c,.int .i64 i,.slice (J ⟨A,ov,af⟩) 1 vc] w λr w'=>r=.returned (.slice (J ⟨g,0,af⟩) (n+1) c)/\
  ∃cZ,jp w w' g (.cells cZ e (0,0))/\cZ.size=cells.size/\cZ.toList.take ((n+1)*2)=cells.toList.take (i*2)++vs++(cells.toList.take (n*2)).drop (i*2):=by
 obtain⟨inf,u,mL,-,-⟩:=DY;have u33:=mZ;have eI:F (cells.toList.take (n*2))=n*2:=by rw[cR,hW];omega
 have lE:F ((cells.toList.take (n*2)).drop (i*2))=(n-i)*2:=by rw[ev,eI];omega
 obtain⟨w1,c1,yk,E,q2⟩:=ws (P:=aa) (w:=w.drew) (dT:=33) (sT:=33) u33 u (g:=g) (o:=(i+1)*2) (dl:=n-i) (m:=n-i) (sl:=n+1-i) (a:=⟨g,i*2,af⟩) (vs:=(cells.toList.take (n*2)).drop (i*2)) (hg:w.drew.heap[g]?=_) (by simp only[xB];split<;>omega) (by rw[lE,mL]) (λj v hj=>by
  rw[Addr.gY,cell_of (w:=w.drew) hg];rw[oL,mr]at hj;split at hj
  .simpa using hj
  .cases hj) (by rw[lE];omega) (λv hv=>o7 v (Fp hv))
 have Do:c1.size=cells.size:=by have:=congrArg F q2;simp only[cg,cR,ev,hW,lE]at this;rw[this];rw[ev,cR,hW]at lE;omega
 obtain⟨w2,c2,yl,q3,q4⟩:=ws (P:=aa) (w:=w1) (dT:=33) (sT:=33) u33 u (g:=g) (o:=i*2) (dl:=n+1-i) (m:=1) (sl:=1) (a:=⟨A,ov,af⟩) (vs:=vs) E.this (by simp only[xB];split<;>omega) (by rw[B,mL]) (λj v hj=>by rw[Addr.gY];have:=gq j v hj;unfold World.cell? at this ⊢;rw[E.other A fI];exact this) (by rw[B,Do];omega) o_;have Mt:∀lb cb,(callFunc 182 #[.slice (J ⟨A,ov,af⟩) 1 vc,.slice (J ⟨g,(i+1)*2,af⟩) lb cb]).run aa w=.ok (.value (.bool ai)) w:=λlb cb=>by
  rw[run_callFunc_extern Tryz.func182 bD bD bD (e:=Extern.SlicesOverlaps.overlaps #[33,33] #[4]) bD,
   X8 w 33 4 48 u33 2 (λw=>by simp[sizeOf,typeInfo,u,mL]) ⟨A,ov,af⟩ ⟨g,(i+1)*2,af⟩ 1 vc lb cb fI tA e kA cells.size f (by unfold World.shape?;rw[hg]) ?_ M (λj=>by rw[tt hg];exact ya j) O]
  .rfl
  .intro q;subst q;have h0:=gq 0 _ (aN M);unfold World.shape? at f;unfold World.cell? at h0;split at f
   .rename_i c e z D;simp only[dt,cL]at f;rw[D]at h0;simp only at h0;rw[B7 M]at h0;cases h0
   .cases f
 have mixed:aa.follows .mixedOrders=V:=wg.mixed;have u0:=run_underlying mZ;have DW:¬((1:Int)=0):=by omega
 have oz:¬((i:Int)=(n:Int)):=by omega
 have AW:IntKind.i64.wrap ((i:Int)+1)=(i:Int)+1:=by rw[IntKind.wrap_i64];omega
 have oy:IntKind.i64.wrap ((n:Int)+1)=(n:Int)+1:=by rw[IntKind.wrap_i64];omega
 have ob:(0:Int)<=(i:Int)+1:=by omega
 have js:i<=n:=by omega
 have DQ:((i:Int)+1).toNat=i+1:=by omega
 have j_:¬(c=i+1):=by omega
 have tG:(i:Int)<=(n:Int)+1:=by omega
 have uQ:¬(c=i):=by omega
 have gC:(aa.info? 48).map (·.size)=J 2:=by rw[u];simp[mL]
 have ry:∃cZ,jp w w2 g (.cells cZ e (0,0))/\cZ.size=cells.size/\cZ.toList.take ((n+1)*2)=cells.toList.take (i*2)++vs++(cells.toList.take (n*2)).drop (i*2):=by
  refine⟨c2,⟨q3.os.trans E.os,q3.tape.trans E.tape,q3.output.trans E.output,q3.size.trans E.size,λk hk=>(q3.other k hk).trans (E.other k hk),q3.this⟩,?_,?_⟩
  .have:=congrArg F q4;simp only[cg,cR,ev,hW,B]at this;omega
  .rw[q4,B,(M:(n+1)*2=n*2+2)];refine U_ (by rw[hW];omega) M B O ?_;rw[q2,(M:(i+1)*2=i*2+2)]
 clear E q2 q3 q4 hg f gq o_ o7
 go_enter J_,QI
 go_wp2_with (simp only[Mt])
 go_region_law (refine step_copy_runI O _ _ 33 33 O _ _ (by simp[Act.eval,Act.put]) (by simp[Act.eval,Act.put]) (yk _ _ _) ?_)
 go_wp2_with (at_builtin;refine wpList_copy_runI _ O _ _ 33 33 O _ _ O O (yl _ _ _) ?_)
 go_ret
 exact⟨O,ry⟩
def ai7(w w':bO)(e:Option Addr)(n c o:Nat)(a:Addr)(u:aG)(hn:n<=c)(f:∀ty,(Builtin.append_ #[33,33] ty #[.slice e n c,.slice (J a) 1 o]).run aa w=.ok u w'):
 Calls aa 120 #[.slice e n c,.int .i64 n,.slice (J a) 1 o] w λr A=>r=.returned u/\A=w':=by
 have v:aa.follows .mixedOrders=V:=wg.mixed;have u0:=run_underlying mZ;obtain⟨inf,i,j,-,-⟩:=DY;have D:(aa.info? 48).map (·.size)=J 2:=by rw[i];simp[j]
 have E:¬((1:Int)=0):=by omega
 go_enter J_,QI
 cases e with
 |none=>
  go_wp2_with (at_builtin;refine Lib.wpList_append_run _ O _ _ _ _ O _ _ O O _ _ (f _) ?_)
  all_goals (go_ret;exact⟨O,O⟩)
 |some a0=>
  obtain⟨ab,ao,B⟩:=a0
  go_wp2_with (at_builtin;refine Lib.wpList_append_run _ O _ _ _ _ O _ _ O O _ _ (f _) ?_)
  all_goals (go_ret;exact⟨O,O⟩)
def ai8(w:bO)(g n c i gv ov vc:Nat)(cells:Array aG)(e:aC)(hg:w.heap[g]?=J (.cells cells e (0,0)))(hi:i<n)(hnc:n<=c)(DL:c<n+1)(hb:n<1000000)(iT:n*2<=cells.size)(vs:List aG)(E:F vs=2)(gq:∀j v,vs[j]?=J v->w.cell? ⟨gv,ov+j,af⟩=J v)(o_:∀v∈vs,mf v=V)(o7:∀v∈cells.toList.take (n*2),mf v=V):
 Calls aa 120 #[.slice (J ⟨g,0,af⟩) n c,.int .i64 i,.slice (J ⟨gv,ov,af⟩) 1 vc] w λr w'=>∃c2 N c0 cZ,r=.returned (.slice (J ⟨w.heap.size,0,af⟩) (n+1) c2)/\n+1<=c2/\jp {w with drawn:=N,heap:=w.heap.push (.cells c0 48)} w' w.heap.size (.cells cZ 48 (0,0))/\cZ.size=c2*2/\cZ.toList.take ((n+1)*2)=cells.toList.take (i*2)++vs++(cells.toList.take (n*2)).drop (i*2):=by
 obtain⟨inf,D,mL,rz,z,hz,AY⟩:=DY;have u33:=mZ;have eI:F (cells.toList.take (n*2))=n*2:=by rw[cR,hW];omega
 have lE:F ((cells.toList.take (n*2)).drop (i*2))=(n-i)*2:=by rw[ev,eI];omega
 have LJ:c=n:=by omega
 subst LJ;have hold:(Builtin.firstCells inf.size i (.slice (J ⟨g,0,af⟩) i c)).run aa w.drew=.ok (cells.toList.take (i*2)).toArray w.drew:=by
  have:=run_loadCells_list (P:=aa) w.drew ⟨g,0,af⟩ (cells.toList.take (i*2)) (λj v A=>by
   rw[Addr.gY,cell_of (w:=w.drew) hg];simp only[mr]at A;split at A
   .simpa using A
   .cases A)
  rw[show(F (cells.toList.take (i*2)))=i*inf.size by rw[cR,hW,mL];omega]at this;exact this
 have uP:=Lib.run_append_grow_zeros (P:=aa) w 33 3 33 48 inf z .i64 .i64 u33 mD D hz (J ⟨g,0,af⟩) i c (cells.toList.take (i*2)) hold (c+1-i) M M M M (by have:=ji (M:c+1-i<=1000001) rz;omega) (by have:=growslice_fits (bytes:=inf.bytes) (M:c<i+(c+1-i)) (by have:=ji (M:i+(c+1-i)<=1000001) rz;omega);omega);rw[(M:i+(c+1-i)=c+1)]at uP;obtain⟨u,qD⟩:∃u,u=grownCap w (c+1) c 48:=⟨_,O⟩;have Lm:c+1<=u:=by rw[qD];exact grownCap_ge w _ _ _
 have ahv:u<=9223372036854775807:=by have:=grownCap_le_maxLen w (c+1) c 48 (by unfold maxLen;omega);rw[<-qD]at this;unfold maxLen at this;omega
 rw[<-qD]at uP;obtain⟨f,B⟩:∃f:Array aG,f=(cells.toList.take (i*2)).toArray++Builtin.zeroCells z.cells (c+1-i)++Builtin.zeroCells z.cells (u-(c+1)):=⟨_,O⟩;rw[<-B]at uP;have Dh:f.size=u*2:=by rw[B];simp only[B9,JM,IQ,AY,cR,hW];omega
 have Di:f.toList.take (i*2)=cells.toList.take (i*2):=by rw[B];simp only[vR];rw[iE];exact qr (by rw[cR,hW];omega)
 obtain⟨W1,uO⟩:∃W1,W1=(w.alloc (.cells f 48)).drew:=⟨_,O⟩;have Dj:W1.heap[w.heap.size]?=J (.cells f 48 (0,0)):=by rw[uO];show(w.heap.push _)[w.heap.size]?=_;rw[Fa,av O]
 have ye:∀k,k<w.heap.size->W1.heap[k]?=w.heap[k]?:=λk hk=>by rw[uO];show(w.heap.push _)[k]?=_;rw[Fa,aP M]
 have LU:=od hg;have DS:gv<w.heap.size:=block_lt_of_cell (gq 0 _ (aN M));obtain⟨w1,c1,yk,q1,q2⟩:=ws (P:=aa) (w:=W1) (dT:=33) (sT:=33) u33 D (g:=w.heap.size) (o:=i*2) (dl:=c+1-i) (m:=1) (sl:=1) (a:=⟨gv,ov,af⟩) (vs:=vs) Dj (by simp only[xB];split<;>omega) (by rw[E,mL]) (λj v A=>by rw[Addr.gY];have:=gq j v A;unfold World.cell? at this ⊢;rw[ye gv DS];exact this) (by rw[E,Dh];omega) o_;have Do:c1.size=f.size:=by have:=congrArg F q2;simp only[cg,cR,ev,hW,E]at this;omega
 have AD:w1.heap[g]?=J (.cells cells e (0,0)):=by rw[q1.other g M,ye g LU];exact hg
 obtain⟨w2,c2,yl,q3,q4⟩:=ws (P:=aa) (w:=w1.drew) (dT:=33) (sT:=33) u33 D (g:=w.heap.size) (o:=(i+1)*2) (dl:=c-i) (m:=c-i) (sl:=c-i) (a:=⟨g,i*2,af⟩) (vs:=(cells.toList.take (c*2)).drop (i*2)) (q1.this:w1.drew.heap[_]?=_) (by simp only[xB];split<;>omega) (by rw[lE,mL]) (λj v A=>by
  rw[Addr.gY,cell_of (w:=w1.drew) AD];rw[oL,mr]at A;split at A
  .simpa using A
  .cases A) (by rw[lE];omega) (λv hv=>o7 v (Fp hv))
 have mixed:aa.follows .mixedOrders=V:=wg.mixed;have u0:=run_underlying mZ;have DW:¬((1:Int)=0):=by omega
 have oz:¬((i:Int)=(c:Int)):=by omega
 have hz3:(c:Int)<(c:Int)+1:=by omega
 have AW:IntKind.i64.wrap ((i:Int)+1)=(i:Int)+1:=by rw[IntKind.wrap_i64];omega
 have oy:IntKind.i64.wrap ((c:Int)+1)=(c:Int)+1:=by rw[IntKind.wrap_i64];omega
 have hw3:IntKind.i64.wrap ((c:Int)+1-(i:Int))=((c+1-i:Nat):Int):=by rw[IntKind.wrap_i64];omega
 have yu:(c:Int)+1-(i:Int)=((c+1-i:Nat):Int):=by omega
 have ob:(0:Int)<=(i:Int)+1:=by omega
 have js:i<=c:=by omega
 have DQ:((i:Int)+1).toNat=i+1:=by omega
 have hGi:¬(u=i):=by omega
 have ahw:¬(u=i+1):=by omega
 have yj:¬(c=i):=by omega
 have tG:(i:Int)<=(c:Int):=by omega
 have gC:(aa.info? 48).map (·.size)=J 2:=by rw[D];simp[mL]
 have ry:∃c3 N c0 cZ,(.returned (.slice (J ⟨w.heap.size,0,af⟩) (c+1) u):Ending)=.returned (.slice (J ⟨w.heap.size,0,af⟩) (c+1) c3)/\c+1<=c3/\jp {w with drawn:=N,heap:=w.heap.push (.cells c0 48)} w2 w.heap.size (.cells cZ 48 (0,0))/\cZ.size=c3*2/\cZ.toList.take ((c+1)*2)=cells.toList.take (i*2)++vs++(cells.toList.take (c*2)).drop (i*2):=by
  subst uO;refine⟨u,w.drew.drawn,f,c2,O,Lm,⟨q3.os.trans q1.os,q3.tape.trans q1.tape,q3.output.trans q1.output,q3.size.trans q1.size,λk hk=>(q3.other k hk).trans (q1.other k hk),q3.this⟩,?_,?_⟩
  .have:=congrArg F q4;simp only[cg,cR,ev,hW,lE]at this;omega
  .rw[q4,lE];have e1:c1.toList.take ((i+1)*2)=cells.toList.take (i*2)++vs:=(by rw[q2,Di];exact qr (by simp only[cg,cR,hW,E];omega));rw[e1];exact qr (by simp only[cg,cR,ev,hW,E];omega)
 clear q1 q2 q3 q4 hg gq o_ o7 Di B hold Dj ye AD qD Dh;subst uO
 go_enter J_,QI
 go_wp2_with (first
  |(at_builtin;refine Lib.wpList_append_run _ O _ _ _ _ O _ _ O O _ _ (uP) ?_)
  |(at_builtin;refine wpList_copy_runI _ O _ _ 33 33 O _ _ O O (yk _ _ _) ?_))
 go_region_law (refine step_copy_runI O _ _ 33 33 O (.slice (J ⟨w.heap.size,(i+1)*2,af⟩) (c-i) (u-(i+1))) (.slice (J ⟨g,i*2,af⟩) (c-i) (c-i)) (by simp[Act.eval,Act.put]) (by simp[Act.eval,Act.put]) (yl _ _ _) ?_)
 go_wp2
 go_ret
 exact ry
end Go.Proofs.YtcbhpkjbiehcpaaGreatDoor
end
section
namespace Go.AE
open Go.RowKit (Below)
def w8(z:Nat)(args:List U)(h:Heap):Option (U × Heap):=
 match args with
 | [.arr b f n n',.v (.int .i64 i),.list _ s [row]]=>
  match h.boxes[b]? with
  |some e=>if f=0/\n'=n/\0<n/\n<1000000/\0<=i/\i<=n/\s=z/\F e=n*z then
   J (.arr (F h.boxes) 0 (n+1) (n+1),(h.put b []).push (e.take (i.toNat*z)++row++e.drop (i.toNat*z))) else af
  |none=>af
 | [.list k _ [],.v (.int .i64 0),.list _ s [row]]=>if (k=.nil∨k=.tight)/\s=z then J (.arr (F h.boxes) 0 1 1,h.push row) else af
 |_=>af
structure Jv(P:bj)(f t:Nat)(E:aC)(z:Nat):Prop where
 body:∃fn,P.funcs[f]?=J fn/\fn.body.isSome=V
 pos:0<z
 I9:P.underlying t=J (.slice E)
 inf:∃i,P.info? E=J i/\i.size=z/\i.bytes<=64/\∃v,i.zero=J v/\v.cells.size=z
 shift:∀(w:bO) (g n c i gv ov vc:Nat) (cells:Array aG) (e:aC) (_:w.heap[g]?=J (.cells cells e (0,0))) (_:i<n) (_:n+1<=c) (_:n<1000000) (_:c * z<=cells.size) (_:gv≠g) (vs:List aG) (_:vs.length=z) (_:∀j v,vs[j]?=J v->w.cell? ⟨gv,ov+j,af⟩=J v) (_:∀v∈vs,mf v=V) (_:∀v∈cells.toList.take (n * z),mf v=V) (tA:aC) (kA:Nat) (_:w.shape? gv=J (tA,kA)),
  Calls P f #[.slice (J ⟨g,0,af⟩) n c,.int .i64 i,.slice (J ⟨gv,ov,af⟩) 1 vc] w λr w'=>r=.returned (.slice (J ⟨g,0,af⟩) (n+1) c)/\
   ∃cZ,jp w w' g (.cells cZ e (0,0))/\cZ.size=cells.size/\cZ.toList.take ((n+1) * z)=cells.toList.take (i * z)++vs++(cells.toList.take (n * z)).drop (i * z)
 fin:∀(w w':bO) (base:Option Addr) (n c vc:Nat) (a:Addr) (vr:aG) (_:n<=c) (_:∀ty,(Builtin.append_ #[t,t] ty #[.slice base n c,.slice (J a) 1 vc]).run P w=.ok vr w'),
  Calls P f #[.slice base n c,.int .i64 n,.slice (J a) 1 vc] w λr w2=>r=.returned vr/\w2=w'
 grow:∀(w:bO) (g n c i gv ov vc:Nat) (cells:Array aG) (e:aC) (_:w.heap[g]?=J (.cells cells e (0,0))) (_:i<n) (_:n<=c) (_:c<n+1) (_:n<1000000) (_:n * z<=cells.size) (vs:List aG) (_:vs.length=z) (_:∀j v,vs[j]?=J v->w.cell? ⟨gv,ov+j,af⟩=J v) (_:∀v∈vs,mf v=V) (_:∀v∈cells.toList.take (n * z),mf v=V),
  Calls P f #[.slice (J ⟨g,0,af⟩) n c,.int .i64 i,.slice (J ⟨gv,ov,af⟩) 1 vc] w λr w'=>∃c2 N c0 cZ,r=.returned (.slice (J ⟨w.heap.size,0,af⟩) (n+1) c2)/\n+1<=c2/\jp {w with drawn:=N,heap:=w.heap.push (.cells c0 E)} w' w.heap.size (.cells cZ E (0,0))/\cZ.size=c2 * z/\cZ.toList.take ((n+1) * z)=cells.toList.take (i * z)++vs++(cells.toList.take (n * z)).drop (i * z)
section
variable {P:bj} {G:Nat->Option (List U)} {ok:aQ->Nat->Code->Bool} {w0 w w':bO} {K:aW} {h:Heap} {z:Nat}
def bJ.Jf(s:bJ K G ok w0 h w){b g:Nat}(e:K.β[b]?=J g):g<w.heap.size:=by have f:=(aS.1 e).1;rw[s.iD]at f;obtain⟨-,-,-,cells,i,q,-⟩:=s.box b g _ e (aN f);exact od q
def U9(s:bJ K G ok w0 h w){g n c2:Nat}{f:List U}{cells c0:Array aG}{e e0:aC}{z0:Nat × Nat}(hg:K.base<=g)(wQ:∀j,K.ic g j=af)(i:∀b:Nat,K.β[b]?=J g->h.boxes[b]?=J [])
 (A:∀t,alive h t=V->(K.tk t).1≠g) (B:w.heap[g]?=J (.cells c0 e0 z0)) (c:jp w w' g (.cells cells e (0,0))) (hz:0<z) (hl:F f=(n+1)*z) (hv:aH K f (cells.toList.take ((n+1)*z))) (D:f.all U.cW=V) (hc2:n+1<=c2) (o:c2*z<=cells.size):
 ∃u,K.Le u/\aO u (.arr (F h.boxes) 0 (n+1) (n+1)) (.slice (J ⟨g,0,af⟩) (n+1) c2)/\bJ u G ok w0 (h.push f) w':=by
 obtain⟨s3,E⟩:=s.Y3 (g:=g) (cs:=f) (cells:=cells) (e:=e) hg wQ i A B (J (n+1,z,cells.size)) (λN sz room q=>by injection q with q;injection q with q1 q;injection q with q2 q3;subst q1 q2 q3;exact .inr ⟨hl,aV _⟩) c (by rw[hl];exact hv) D;refine⟨_,K.yV _ _,.arr _ _ _ _ _ _ _ E (aV _) hc2 (.inl O) (.inr (.inr (.inr ⟨z,cells.size,?_,hz,o⟩))),s3⟩;have v:F h.boxes=F K.β:=s.iD.symm;simp only[aW.mF,v,if_true]
def VS{k:Tok}{s:Nat}{row:List U}{c:aG}(E:aO K (.list k s [row]) c):∃e f u vs,c=.slice (J ⟨e,f,af⟩) 1 u/\F row=s/\aH K row vs/\(∀j v,vs[j]?=J v->K.ic e (f+j)=J v)/\row.all U.cW=V:=by
 cases E with|list _ _ _ e f m u vs A B o D htk i=>simp only[dY,fQ,Nat.zero_add]at A;subst A;simp only[jA,List.flatten_nil,ga]at o i;exact⟨e,f,u,vs,O,B row gx,o,D,i⟩
def acf{b n:Nat}{c:aG}(A:aO K (.arr b 0 n n) c)(E:0<n):∃g e,c=.slice (J ⟨g,0,af⟩) n e/\K.β[b]?=J g/\n<=e/\(e=n∨∃sz f,K.lb b=J (n,sz,f)/\0<sz/\e*sz<=f):=by
 cases A with
 |arr _ g _ _ _ i e B D j u v=>
  have o:i=0:=by rcases u with p|p<;>omega
  subst o;refine⟨g,e,O,B,j,?_⟩;rcases v with r|r|r|r
  .exact .inl r
  .omega
  .exact absurd O r
  .exact .inr r
def Y6{f i j:U}{l:List aG}(B:aH K [f,i,j] l):∃e c2 o,l=[e,c2,o]/\aO K f e/\aO K i c2/\aO K j o:=by rcases B with _|⟨_,c0,_,_,v,_|⟨_,e,_,_,u,_|⟨_,c2,_,_,A,_|_⟩⟩⟩;exact⟨_,_,_,O,v,u,A⟩
def U8{f t:Nat}{z3:aC}(o:Jv P f t z3 z)(z4:bO):jV P G z4 f (w8 z):=by
 refine⟨o.body,λargs h x h' hx K w j hv v=>?_⟩;obtain⟨inf,Ug,A,rz,v0,pY,hvz⟩:=o.inf;have yG:(inf.zero.map λz=>z.cells.size)=J inf.size:=by rw[pY,A];simp[hvz]
 unfold w8 at hx;split at hx
 .rename_i b off n n' i k s row;split at hx
  .rename_i u iT;split at hx
   .rename_i hc;obtain⟨rfl,rfl,tM,tN,LW,js,rfl,eI⟩:=hc;obtain⟨i,rfl⟩:=Int.eq_ofNat_of_zero_le LW;simp only[dt,cL]at hx;obtain⟨rfl,rfl⟩:=hx;have js:i<=n':=(by omega);have hti:(i:Int).toNat=i:=fh i;rw[hti];obtain⟨j⟩:=j;obtain⟨c0,c1,c2,rfl,ha,Dy,hr⟩:=Y6 hv;cases Dy;have dm:=hr;have Dk:=ha;obtain⟨gv,ov,vc,vs,rfl,lH,gq,MQ,Ly⟩:=VS hr;obtain⟨g,c,rfl,hb,ph,rD⟩:=acf ha tM;have pj:F vs=s:=(by rw[<-gq.length,lH]);have o_:=xF gq Ly;have MS:∀z1 z0,vs[z1]?=J z0->w.cell? ⟨gv,ov+z1,af⟩=J z0:=λz1 z0 hj=>v.ic _ _ _ (MQ z1 z0 hj);have auM:(n'+1)*s=n' * s+s:=(by rw[jh,Nat.one_mul]);obtain⟨k1,k2,ka,cells,z2,k3,k4⟩:=v.box b g u hb iT;have fI:u≠[]:=λq=>(by subst q;have:=Nat.mul_pos tM o.pos;simp only[fQ]at eI;omega);have TP:=(aS.1 iT).1;have Dr:=v.Sq b;have GN:F (h.put b []).boxes=F h.boxes:=(by simp[Heap.put]);have GA:=k4.1;have iq:=k4.le;rw[eI]at GA iq;have o7:∀z0∈cells.toList.take (n' * s),mf z0=V:=xF GA ka;have hgv:gv≠g:=λq=>(by subst q;have h0:=o.pos;have:=MQ 0 _ (aN M);rw[k2]at this;cases this);by_cases ry:i=n'
    .subst ry;have MO:=I5 (P:=P) (t0:=t) (t1:=t) (h:=h) (b:=b) (len:=i) (cs:=u) (new:=[row]) (i:=inf) (x:=.list k s [row]) o.I9 o.I9 Ug (by rw[A];exact o.pos) yG b7 (by have:=ji (show i+F [row]<=1000001 by simp;omega) rz;omega) (by simp;omega) iT tM (by rw[A];exact eI.symm) (by rw[A];exact Ef);obtain⟨E,z0,w',le,s',e,wU⟩:=Pi (P:=P) (ty:=0) v MO Dk dm;have aiv:∀ty,(Builtin.append_ #[t,t] ty #[.slice (J ⟨g,0,af⟩) i c,.slice (J ⟨gv,ov,af⟩) 1 vc]).run P w=.ok z0 w':=λty=>wU;refine Calls.mono (o.fin w w' _ i c vc _ z0 ph aiv) ?_;rintro r w2 ⟨rfl,rfl⟩;refine⟨z0,E,O,le,e,?_⟩;rw[fR M,mW M,ga];simpa using s'
    .have eC:i<n':=(by omega);have Uh:F (u.take (i*s)++row++u.drop (i*s))=(n'+1)*s:=(by have:=ma s js;simp only[cg,cR,ev,lH,eI];omega);have yf:(u.take (i*s)++row++u.drop (i*s)).all U.cW=V:=(by rw[sn,sn,Ly];simp only[bm,eF]at ka ⊢;exact⟨⟨λx hx=>ka x (List.mem_of_mem_take hx),aX⟩,λx hx=>ka x (Fp hx)⟩);have UM:aH K (u.take (i*s)++row++u.drop (i*s)) (cells.toList.take (i*s)++vs++(cells.toList.take (n' * s)).drop (i*s)):=by
      refine((?_:aH K (u.take (i*s)) (cells.toList.take (i*s))).append gq).append (GA.drop _);have:=GA.take (i*s)
      rwa [Fs,Nat.min_eq_left (ma s js)]at this
     rcases dp c (n'+1) with B|B
     .refine Calls.mono (o.grow w g n' c i gv ov vc cells z2 k3 eC ph B tN iq vs pj MS o_ o7) ?_;rintro r w2 ⟨c2,N,c0,cZ,rfl,q1,q2,q3,q4⟩;have s1:=(Dr.drew N).push (.cells c0 z3);obtain⟨E,le,e,s'⟩:=U9 (h:=h.put b []) (z:=s) (n:=n') (c2:=c2) s1 (g:=w.heap.size) v.size (λz1=>by
       cases hq:K.ic w.heap.size z1 with
       |none=>rfl|some c=>have:=v.tX hq;omega) (λb2 j_=>by have:=v.Jf j_;omega) (λt ht hq=>by obtain⟨-,-,-,c,z2,z,q,-⟩:=v.tok t ht;have:=od q;omega) (by show(w.heap.push _)[w.heap.size]?=_;rw[Fa,av O]) q2 o.pos Uh (by rw[q4];exact UM) yf q1 (by rw[q3];exact aV _)
      rw[GN]at e;exact⟨_,E,O,le,e,s'⟩
     .rcases rD with r|⟨sz,room,r1,r2,r3⟩
      .omega
      .rcases k4.2 _ _ _ r1 with q|⟨q1,q2⟩
       .exact absurd q fI
       .have gC:s=sz:=Nat.eq_of_mul_eq_mul_left tM (eI.symm.trans q1);subst gC;have LN:c*s<=cells.size:=eS r3 q2;have h0:=MS 0 _ (aN (by have:=o.pos;omega));obtain⟨tA,kA,qE⟩:∃tA kA,w.shape? gv=J (tA,kA):=by
         unfold World.cell? at h0;unfold World.shape?;split at h0
         .rename_i D;rw[D];exact⟨_,_,O⟩
         .cases h0
        refine Calls.mono (o.shift w g n' c i gv ov vc cells z2 k3 eC B tN LN hgv vs pj MS o_ o7 tA kA qE) ?_;rintro r w2 ⟨rfl,cZ,p1,p2,p3⟩;obtain⟨E,le,e,s'⟩:=U9 (h:=h.put b []) (z:=s) (n:=n') (c2:=c) Dr (g:=g) k1 k2 (λb2 j_=>by
         show(h.boxes.set b [])[b2]?=J [];rw[List.getElem?_set];by_cases tH:b=b2
         .subst tH;rw[av O,av TP]
         .rw[aP tH];rcases v.mV _ _ _ hb j_ with p|p|p
          .exact absurd p tH
          .rw[iT]at p;injection p with p;exact absurd p fI
          .exact p) (λt ht hq=>by
         obtain⟨_,q,_⟩:=v.tok t ht;exact q b (by rw[hq];exact hb)) k3 p1 o.pos Uh (by rw[p3];exact UM) yf B (by rw[p2];exact LN)
        rw[GN]at e;exact⟨_,E,O,le,e,s'⟩
   .cases hx
  .cases hx
 .rename_i k s0 k2 s row;split at hx
  .rename_i hc;obtain⟨hk,rfl⟩:=hc;simp only[dt,cL]at hx;obtain⟨rfl,rfl⟩:=hx;obtain⟨j⟩:=j;obtain⟨c0,c1,c2,rfl,ha,Dy,hr⟩:=Y6 hv;cases Dy;have dm:=hr;obtain⟨gv,ov,vc,vs,rfl,lH,gq,MQ,Ly⟩:=VS hr;have MO:=zu (P:=P) (t0:=t) (t1:=t) (h:=h) (k:=k) (sz:=s0) (es:=[]) (new:=[row]) (i:=inf) (x:=.list k2 s [row]) o.I9 o.I9 Ug (by rw[A];exact o.pos) yG b7 (by simp;omega) b7 (.inr O) hk (by rw[A];exact Ef);obtain⟨c,rfl⟩:∃b,c0=.slice b 0 0:=by
    cases ha with
    |nil=>exact⟨_,O⟩|fP=>exact⟨_,O⟩|list _ _ _ g off m aR cells hn yD e hc' ht TD=>
     have h0:m=0:=(by simpa using hn);subst h0;rcases hk with rfl|rfl
     .exact ht.2.elim
     .have:=ht.2;simp only at this;subst this;exact⟨_,O⟩
   obtain⟨E,z0,w',le,s',e,wU⟩:=Pi (P:=P) (ty:=0) v MO ha dm;refine Calls.mono (o.fin w w' c 0 0 vc _ z0 (aV _) λty=>wU) ?_;rintro r w2 ⟨rfl,rfl⟩;exact⟨z0,E,O,le,e,by simpa using s'⟩
  .cases hx
 .cases hx
end
end Go.AE
end
section
namespace Go.Proofs.YtcbhpkjbiehcpaaGreatDoor
open Go.AE
def ai0:Jv aa 116 32 46 4:=⟨⟨_,J9,by kernel_rfl⟩,by decide,kZ,Hl,ai3,ai1,ai2⟩
def ai6:Jv aa 120 33 48 2:=⟨⟨_,J_,by kernel_rfl⟩,by decide,mZ,DY,ai9,ai7,ai8⟩
def tS(g:aQ):Option (List U->Heap->Option (U × Heap)):=if g=116 then J (w8 4) else if g=120 then J (w8 2) else af
def MZ{G}:∀e g p,tS g=some p->jV Tryz.prog G e g p:=by
 intro e g p h;unfold tS at h;split at h
 .rename_i q;subst q;injection h with h;subst h;exact U8 ai0 e
 .split at h
  .rename_i q;subst q;injection h with h;subst h;exact U8 ai6 e
  .cases h
end Go.Proofs.YtcbhpkjbiehcpaaGreatDoor
end
section
namespace Go.Proofs.YtcbhpkjbiehcpaaGreatDoor
open Go.AE Go.NT
def qs9:Tryz.f9.results.toList=[.tmp 6]:=by kernel_rfl
def ajA{c}{a}(ok:cD c a)(D:dz a):∃b,(b=V->F c.rows<=80/\F c.ac<=80/\F c.ah<=80)/\∀h,SB.call 31 [.agg (aF c.ep a.X a.Y a.C),.list .nil 0 [],.list .nil 0 []] h=J (.ret (.v (.bool b)),h):=by obtain⟨b,e,q⟩:=ajy (ep:=c.ep) ok.x ok.y ok.cm;rw[D.X,D.Y,D.C]at q;exact⟨b,e,(nE q O O).call⟩
def af9(h:Heap){c:Ce}{a:CA}(ok:cD c a)(D:dz a):∃r h',SB.call 9 [.agg (aF c.ep a.X a.Y a.C),.agg (ba c.doc a.p a.r a.n),a.W] h=J (r,h')/\∃b,r=.ret (.v (.bool b))/\(b=V->F c.rows<=80/\F c.ac<=80/\F c.ah<=80/\F c.doc.pa<=20/\F c.doc.rv<=20/\F c.doc.nd<=20/\F c.who<=80):=by
 have A:=mP (ep:=c.ep) ok.x ok.y ok.cm;have B:=ok.d.cells;obtain⟨b,e,j⟩:=ajA ok D;have q:=(ajB ok.d).up (L:=LB) (P:=aa) (G:=Gt) O;rw[D.p,D.r,D.n]at q;have o:∀h,SB.call 32 [.agg (ba c.doc a.p a.r a.n)] h=J (.ret (.v (.bool (xW c.doc))),h):=q.call;have l1:aD aa Gt ((h.push (aF c.ep a.X a.Y a.C)).push (ba c.doc a.p a.r a.n)) 27 (.ptr (.box (F h.boxes)) 0)=J (.agg (aF c.ep a.X a.Y a.C)):=by rw[fC bD (by kernel_rfl:cB aa 27=J 4) (aM (aK _ _)) (by decide:0+4<=4)];rfl
 have l2:=rE ok.d.len (aK (h.push (aF c.ep a.X a.Y a.C)) (ba c.doc a.p a.r a.n));have v:=cT;obtain⟨k,s,u,-⟩:=ok.w;have E:=cE c.who;have f:=ae.mk e;have i:ae (xW c.doc=V->F c.doc.pa<=20/\F c.doc.rv<=20/\F c.doc.nd<=20):=⟨λq=>by unfold xW at q;simp only[bm,decide_eq_true_eq]at q;exact⟨q.1.1,q.1.2,q.2⟩⟩;rw[u]at *
 clear ok D q e u;generalize aF c.ep a.X a.Y a.C=K at *
 generalize ba c.doc a.p a.r a.n=z0 at *
 generalize xW c.doc=z1 at *
 refine bL O Tryz.func9 O ?_
 repeat' (first|simp(maxSteps:=9999999) (disch:=first|exact dZ|fail) only[gW,reduceIte,aJ,aB,qs9,a_, *]|refine dX ?_ ?_<;>(intro _;try omega))
 all_goals exact⟨_,_,O,_,O,λq=>by
  first
   |(have h1:=f.out (by assumption);have h2:=i.out (by assumption);simp only[decide_eq_true_eq]at q;omega)
   |(simp at q)⟩
def LC:List aQ:=LB++[11,12,53,57,50,51,9]
noncomputable def lM:aQ->Option (List U->Heap->Option (U × Heap)):=lJ SB LC (λ_=>0) tS
noncomputable abbrev SC:=whole aa Gt lM
def jr:lW lM LC:=λg e=>⟨tW SB g,by unfold lM lJ;rw[av (by simpa using e)];rfl⟩
def p8{x}{k}{s}{es}(e:x=.list k s es)(D:al x=x)(h):dD h x=x:=by subst e;rw[al]at D;injection D with h1 h2 f;rw[dD,h1]
def Hg(h):∀a b:List U,ir h (a++b)=ir h a++ir h b
 | [],_=>rfl
 |x::a,b=>by rw[eu,ir,Hg h a b];rfl
def aiL(h)(l:List UInt8):ir h (l.map fA)=l.map fA:=by
 induction l with
 |nil=>rfl|cons b l e=>show dD h (fA b)::ir h (l.map fA)=_;rw[e];rfl
section
variable {c:Ce} {a:CA}
def FT(ok:cD c a)(D:dz a)(h:Heap):ir h (aq c a)=aq c a:=by obtain⟨E,s1,xs,e,-⟩:=ok.x.form;obtain⟨k2,s2,f,-⟩:=ok.y;obtain⟨k3,s3,i,-⟩:=ok.cm;obtain⟨k4,s4,j,-⟩:=ok.d.p;obtain⟨k5,s5,o,-⟩:=ok.d.r;obtain⟨k6,s6,u,-⟩:=ok.d.n;obtain⟨k7,s7,v,-⟩:=ok.w;obtain⟨k8,s8,A,-⟩:=ok.pa;obtain⟨k9,s9,B,-⟩:=ok.z;unfold aq aF ba;rw[Hg,Hg,Hg,aiL];simp only[ir,p8 e D.X,p8 f D.Y,p8 i D.C,p8 j D.p,p8 o D.r,p8 u D.n,p8 v D.W,p8 A D.Pa,p8 B D.Z];rfl
def oo(D:dz a):aZ (aq c a)=aq c a:=by unfold aq aF;rw[uU,uU,wt,D.p,D.r,D.n];simp only[aZ,D.X,D.Y,D.C,D.W,D.Pa,D.Z];rfl
def lm(ok:cD c a)(D:dz a):aA 0 0 0 (aq c a)=V:=by obtain⟨h1,h2,u,e⟩:=yO c.ep ok.x ok.y ok.cm;obtain⟨-,f⟩:=ok.d.hold;obtain⟨-,i⟩:=ok.w.hold;obtain⟨-,j⟩:=ok.pa.fc;obtain⟨-,o⟩:=ok.z.hold;rw[D.X,D.Y,D.C]at e;rw[D.p,D.r,D.n]at f;rw[D.W]at i;rw[D.Pa]at j;rw[D.Z]at o;unfold aq;rw[F',F',e,f];simp[aA,i,j,o]
def wO:dz a0:=⟨O,O,O,O,O,O,O,O,O⟩
def Bf(D:dz a):dz (gt c a):=by
 unfold gt;split
 .exact⟨D.X,D.Y,D.C,D.p,D.r,D.n,D.W,O,O⟩
 .exact wO
def Ko(D:dz a):aZ [.agg (aF c.ep a.X a.Y a.C),.agg (ba c.doc a.p a.r a.n),a.W]=[.agg (aF c.ep a.X a.Y a.C),.agg (ba c.doc a.p a.r a.n),a.W]:=by
 have e:aZ (aF c.ep a.X a.Y a.C)=aF c.ep a.X a.Y a.C:=by unfold aF;simp only[aZ,D.X,D.Y,D.C];rfl
 have f:aZ (ba c.doc a.p a.r a.n)=ba c.doc a.p a.r a.n:=by rw[wt,D.p,D.r,D.n]
 simp only[aZ,al,e,f,D.W]
def Kn(ok:cD c a)(D:dz a):aA 0 0 0 [.agg (aF c.ep a.X a.Y a.C),.agg (ba c.doc a.p a.r a.n),a.W]=V:=by obtain⟨h1,h2,j,e⟩:=yO c.ep ok.x ok.y ok.cm;obtain⟨-,f⟩:=ok.d.hold;obtain⟨-,i⟩:=ok.w.hold;rw[D.X,D.Y,D.C]at e;rw[D.p,D.r,D.n]at f;rw[D.W]at i;simp[aA,au,e,f,i]
def Vo(ok:cD c a)(D:dz a)(e:c.Fit):bK SC 11 [.agg (aF c.ep a.X a.Y a.C),.agg (ba c.doc a.p a.r a.n),a.W] (.tuple [.agg (aq (gu c) (gt c a)),I c.eM]):=by
 obtain⟨_,_,q,rfl⟩:=alc ⟨[],[],0,[]⟩ c a ok (Wh ok D e);refine bK.qc (L:=LC) q O (Ko D) (Kn ok D) ?_ ?_
 .simp only[dD,ir,FT (rI ok) (Bf D)];rfl
 .simp[au,aA,lm (rI ok) (Bf D),I]
def Vp(ok:cD c a)(D:dz a)(e:c.Fit):bK SC 12 [.agg (aF c.ep a.X a.Y a.C),.agg (ba c.doc a.p a.r a.n),a.W] (.tuple [.agg (aq (gu c) (gt c a)),I c.eM]):=by
 obtain⟨_,_,q,rfl⟩:=ao1 ⟨[],[],0,[]⟩ c a ok (Wh ok D e);refine bK.qc (L:=LC) q O (Ko D) (Kn ok D) ?_ ?_
 .simp only[dD,ir,FT (rI ok) (Bf D)];rfl
 .simp[au,aA,lm (rI ok) (Bf D),I]
def HS(p):aZ (aL p)=aL p:=rfl
def Vq(ok:cD c a)(D:dz a)(A:F c.who<=1000000)(e:pE c.who)(p:Pr):bK SC 53 [.agg (aq c a),.agg (aL p)] (.v (.bool (fV c.who p))):=by obtain⟨_,_,q,rfl⟩:=aps ok D A e ⟨[],[],0,[]⟩ p;exact bK.qc (L:=LC) q O (by simp only[aZ,al,oo D,HS]) (by simp only[aA,au,lm ok D];rfl) O rfl
def Vr(ok:cD c a)(D:dz a)(A:F c.who<=1000000)(e:pE c.who)(p:Int × Int):bK SC 57 [.agg (aq c a),.agg (bh p)] (.v (.bool (fW c.who p))):=by obtain⟨_,_,q,rfl⟩:=apt ok D A e ⟨[],[],0,[]⟩ p;exact bK.qc (L:=LC) q O (by simp only[aZ,al,oo D];rfl) (by simp only[aA,au,lm ok D];rfl) O rfl
def ajE(ok:cD c a)(D:dz a)(A:F c.who<=1000000)(p:Pr):bK SC 50 [.agg (aq c a),.agg (aL p)] (.v (.bool (fV c.who p))):=by obtain⟨_,_,q,rfl⟩:=alV ok D A ⟨[],[],0,[]⟩ p;exact bK.qc (L:=LC) q O (by simp only[aZ,al,oo D,HS]) (by simp only[aA,au,lm ok D];rfl) O rfl
def ajG(ok:cD c a)(D:dz a)(A:F c.who<=1000000)(p:Int × Int):bK SC 51 [.agg (aq c a),.agg (bh p)] (.v (.bool (fW c.who p))):=by obtain⟨_,_,q,rfl⟩:=amb ok D A ⟨[],[],0,[]⟩ p;exact bK.qc (L:=LC) q O (by simp only[aZ,al,oo D];rfl) (by simp only[aA,au,lm ok D];rfl) O rfl
def Vk(ok:cD c a)(D:dz a):∃b,(b=V->F c.rows<=80/\F c.ac<=80/\F c.ah<=80/\F c.doc.pa<=20/\F c.doc.rv<=20/\F c.doc.nd<=20/\F c.who<=80)/\bK SC 9 [.agg (aF c.ep a.X a.Y a.C),.agg (ba c.doc a.p a.r a.n),a.W] (.v (.bool b)):=by obtain⟨_,_,q,b,rfl,e⟩:=af9 ⟨[],[],0,[]⟩ ok D;exact⟨b,e,bK.qc (L:=LC) q O (Ko D) (Kn ok D) O O⟩
end
def anb:Tryz.f179.results.toList=[.tmp 2]:=by kernel_rfl
def N':Tryz.f115.results.toList=[.tmp 4]:=by kernel_rfl
def anm:Tryz.f55.results.toList=[.tmp 2]:=by kernel_rfl
def Ib:Tryz.f114.results.toList=[.tmp 5]:=by kernel_rfl
def vy:Tryz.f113.results.toList=[.tmp 6,.tmp 7]:=by kernel_rfl
def Wc(n:Int)(h:Heap):SC.call 179 [.v (.int .i64 n)] h=J (.ret (.v (.bool ai)),h):=by
 have e:decide (n=n)=V:=by simp
 refine cq O Tryz.func179 O ?_;exact iB @anb
def wq(a b:Int):Int:=if a<b then -1 else if b<a then 1 else 0
def R5(a b:Int)(h:Heap):SC.call 115 [.v (.int .i64 a),.v (.int .i64 b)] h=J (.ret (.v (.int .i64 (wq a b))),h):=by
 have e:=Wc a h;have f:=Wc b h;unfold wq;by_cases h1:a<b
 .rw[av h1];have d1:decide (a<b)=V:=bQ h1;refine cq O Qx O ?_;exact iB @N'
 .rw[aP h1];have d1:decide (a<b)=ai:=b_ h1;by_cases h2:b<a
  .rw[av h2];have d2:decide (a>b)=V:=bQ h2;refine cq O Qx O ?_;exact iB @N'
  .rw[aP h2];have d2:decide (a>b)=ai:=b_ h2;refine cq O Qx O ?_;exact iB @N'
def HE(p:Pr)(h:Heap):SC.call 55 [.agg (aL p)] h=J (.ret (.v (.int .i64 p.aU)),h.push (aL p)):=by
 have e:=tZ p;have L:=Hq (aK h (aL p));have i:=KW;generalize aL p=f at *
 unfold I at *
 refine cq O Tryz.func55 O ?_;exact dV @anm @a_
def QX:fx aa 98=J ai:=by kernel_rfl
def Vu(p q:Pr)(i:Nat)(h:Heap)(A:h.boxes[i]?=J [.func (.func 55) [] []]):∃h',SC.call 114 [.agg (aL p),.agg (aL q),.ptr (.box i) 0] h=J (.ret (.v (.int .i64 (wq p.aU q.aU))),h')/\Ext h h':=by
 have bp:=tZ p;have bq:=tZ q;obtain⟨e,f⟩:∃e,(h.push (aL p)).push (aL q)=e:=⟨_,O⟩;have j:Ext h e:=by rw[<-f];exact(Ext.push _ _).trans (.push _ _)
 have D:e.boxes[h.boxes.length]?=J (aL p):=by rw[<-f];exact aM (aK _ _)
 have o:e.boxes[(h.push (aL p)).boxes.length]?=J (aL q):=by rw[<-f];exact aK _ _
 have u:=j.box _ _ A;have L0:=nj D;have L1:=nj o;have L1':=nj (aM (cs:=aL p) o);have F0:aD aa Gt e 98 (.ptr (.box i) 0)=J (.func (.func 55) [] []):=by rw[fe QX u];rfl
 have F1:aD aa Gt (e.push (aL p)) 98 (.ptr (.box i) 0)=J (.func (.func 55) [] []):=by rw[fe QX (aM u)];rfl
 have k1:=HE p e;have k2:=HE q (e.push (aL p));have k3:=R5 p.aU q.aU ((e.push (aL p)).push (aL q));have x:=(j.trans (.push e (aL p))).trans (.push _ (aL q));have s1:cH (.agg (aL q)) (.agg (aL q))=V:=by simp[cH,fL,gH,aL]
 have s2:cH (.func (.func 55) [] []) (.func (.func 55) [] [])=V:=rfl;clear A D o u j;generalize aL p=z0 at *
 generalize aL q=E at *
 refine gy O Tryz.func114 O ?_;refine cK @Ib @a_ @f ?_;refine iC [(2,3),(2,4)] jr bD (λz B=>?_) ?_
 .simp only[gL,qp,or_false]at B;rcases B with rfl|rfl
  .refine jP (x:=.ptr (.box i) 0) (v:=.func (.func 55) [] []) bD O O O bD (s2) ?_ ?_<;>(simp only[dw,cX];exact dV @Ib @and_self)
  .refine jP (x:=.ptr (.box (F (h.push z0).boxes)) 0) (v:=.agg E) bD O O O bD (s1) ?_ ?_<;>(simp only[dw,cX];exact dV @Ib @and_self)
 refine bg @Ib ?_;exact⟨_,O,x⟩
def R7(a b):decide (wq a b<0)=decide (a<b):=by
 unfold wq;by_cases h:a<b
 .rw[av h];simp[h]
 .rw[aP h];split<;>simp[h]
def R8(a b):decide (wq a b=0)=decide (a=b):=by
 unfold wq;by_cases h:a<b
 .rw[av h];simp;omega
 .rw[aP h];split<;>simp<;>omega
def Fi{α:Type}(k:α->Int)(l:List α):Prop:=∀(e f:Nat) (x y:α),l[e]?=J x->l[f]?=J y->e<f->k x<k y
def Yh{α}{k}{l:List α}{n}{lo}(h1:lo<=F l)(h2:∀j y,j<lo->l[j]?=J y->k y<n)(e:∀j y,lo<=j->l[j]?=J y->n<=k y):iY k n l=lo:=acp h1 h2 λy E=>by have:=e lo y (aV _) E;omega
def ni{α:Type}(k:α->Int)(n:Int)(l:List α):Bool:=(oZ k n l).isSome
def aq2(h:Heap)(k:Tok)(s:Nat)(l:List Pr)(p:Pr)(B:Nat)(hb:h.boxes[B]?=J [.func (.func 55) [] []])(hs:l≠[]->s=4)(Uf:Fi Pr.aU l)(hl:F l<=1000000):
 ∃r h',SC.call 113 [.list k s (bH l),.agg (aL p),.func (.func 114) [] [.ptr (.box B) 0]] h=J (r,h')/\r=.ret (.tuple [.v (.int .i64 (iY Pr.aU p.aU l:Nat)),.v (.bool (ni Pr.aU p.aU l))])/\Ext h h':=by
 have kk:=ae.mk (aj hs Uf);clear hs Uf;have u32:=kZ;have z46:=qh;have bp:=tZ p;have eC:F (bH l)=F l:=by unfold bH;rw[br]
 have kx0:=ae.mk (Ext.push h (aL p));have kb0:=ae.mk (aM (cs:=aL p) hb);have kp0:=ae.mk (aK h (aL p));clear hb;refine bL O Tryz.func113 O ?_;refine bE @vy @a_ ?_;refine bC.gen λD o g' ek dm=>?_;have f0:D.get 0=.list k s (bH l):=by rw[o];exact gS
 have f2:D.get 2=.func (.func 114) [] [.ptr (.box B) 0]:=by rw[o];exact gS
 have f4:D.get 4=.ptr (.box (F h.boxes)) 0:=by rw[o];exact gS
 have f8:D.get 8=.v (.int .i64 (F l:Nat)):=by rw[o];simp only[gW,reduceIte,aJ,aB,eC]
 have f9:D.get 9=.v (.int .i64 (0:Nat)):=by rw[o];exact gR
 have f10:D.get 10=.v (.int .i64 (F l:Nat)):=by rw[o];simp only[gW,reduceIte,aJ,aB,eC]
 have fd:D.defers=[]:=by rw[g'];exact gS
 clear o g' ek dm;refine b9 (λm z0 H=>∃e f:Nat,e<=f/\f<=F l/\m=f-e/\ae ((∀j y,j<e->l[j]?=J y->y.aU<p.aU)/\∀j y,f<=j->l[j]?=J y->p.aU<=y.aU)/\z0.get 0=.list k s (bH l)/\z0.get 2=.func (.func 114) [] [.ptr (.box B) 0]/\z0.get 4=.ptr (.box (F h.boxes)) 0/\z0.get 8=.v (.int .i64 (F l:Nat))/\z0.get 9=.v (.int .i64 (e:Nat))/\z0.get 10=.v (.int .i64 (f:Nat))/\z0.defers=[]/\ae (Ext h H)/\ae (H.boxes[B]?=J [.func (.func 55) [] []])/\ae (H.boxes[h.boxes.length]?=J (aL p))) ?_ (F l) _ _ ?_;rotate_left 1
 .exact⟨0,l.length,bV _,aV _,O,⟨λj y hj=>absurd hj (Nat.not_lt_zero _),λj y h1 h2=>by have:=(aS.1 h2).1;omega⟩,f0,f2,f4,f8,f9,f10,fd,kx0,kb0,kp0⟩
 clear f0 f2 f4 f8 f9 f10 fd kx0 kb0 kp0;rintro m z0 H ⟨e,f,h1,h2,rfl,kI,g0,g2,g4,g8,g9,g10,hd,kx,kb,kp⟩;have lp:=nj kp.out;by_cases dj:e<f
 .have eo:s=4:=kk.out.1 (by intro q;rw[q,fQ]at h2;omega);subst eo;obtain⟨i,v⟩:∃i:Nat,(e+f)/2=i:=⟨_,O⟩;obtain⟨y,E⟩:∃y,l[i]?=J y:=⟨_,aN M⟩;have ld:=p_ (H:=H) (s:=4) E;obtain⟨H2,ls,x2⟩:=Vu y p B H kb.out;have fH:(e:Int)<(f:Int):=by omega
  have wM:(e:Int)+(f:Int)=((e+f:Nat):Int):=by omega
  have AW:IntKind.u64.wrap ((e+f:Nat):Int)=((e+f:Nat):Int):=wrap_u64 M;have oy:IntKind.i64.wrap (((e+f)/2:Nat):Int)=((i:Nat):Int):=by rw[v];exact ja M M
  have Ur:(i:Int)<(F l:Int):=by omega
  have cn:=R7 y.aU p.aU;have kx2:=ae.mk (kx.out.trans x2);have kb2:=ae.mk (x2.box _ _ kb.out);have kp2:=ae.mk (x2.box _ _ kp.out);have khy:=ae.mk E;clear E x2;by_cases hc:y.aU<p.aU
  .have kI2:ae ((∀j y,j<i+1->l[j]?=J y->y.aU<p.aU)/\∀j y,f<=j->l[j]?=J y->p.aU<=y.aU):=⟨λj w hj A=>by
    rcases dp j i with q|q
    .exact Int.lt_trans (kk.out.2 j i w y A khy.out q) hc
    .have:j=i:=(by omega);subst this;rw[khy.out]at A;injection A with A;rw[<-A];exact hc,kI.out.2⟩
   rw[bQ hc]at cn;have khm:=ae.mk v;clear hc v;refine bA @vy @eu.{0} @dM.{0} (aj @aT (aj @me (aj @tg @ul))) ?_;refine du jr bD ?_;refine bA @vy @eu.{0} @dM.{0} (aj @aT (aj @me (aj @tg @ul))) ?_;have:=khm.out;exact⟨f-(i+1),by omega,i+1,f,by omega,h2,O,kI2,by simp,by first|exact kx2|trivial,by first|exact kb2|trivial,by first|exact kp2|trivial⟩
  .have kI2:ae ((∀j y,j<e->l[j]?=J y->y.aU<p.aU)/\∀j y,i<=j->l[j]?=J y->p.aU<=y.aU):=⟨kI.out.1,λj w hj A=>by
    rcases dp i j with q|q
    .have:=kk.out.2 i j y w khy.out A q;omega
    .have:j=i:=(by omega);subst this;rw[khy.out]at A;injection A with A;rw[<-A];omega⟩
   rw[b_ hc]at cn;have khm:=ae.mk v;clear hc v;refine bA @vy @eu.{0} @dM.{0} (aj @aT (aj @me (aj @tg @ul))) ?_;refine du jr bD ?_;refine bA @vy @eu.{0} @dM.{0} (aj @aT (aj @me (aj @tg @ul))) ?_;have:=khm.out;exact⟨i-e,by omega,e,i,by omega,by omega,O,kI2,by simp,by first|exact kx2|trivial,by first|exact kb2|trivial,by first|exact kp2|trivial⟩
 .have iq:e=f:=by omega
  subst iq;have u:=Yh h2 kI.out.1 kI.out.2;by_cases js:e<F l
  .have eo:s=4:=kk.out.1 (by intro q;rw[q,fQ]at js;omega);subst eo;obtain⟨y,E⟩:∃y,l[e]?=J y:=⟨_,aN js⟩;have ld:=p_ (H:=H) (s:=4) E;obtain⟨H2,ls,x2⟩:=Vu y p B H kb.out;have fH:(e:Int)<(F l:Int):=(by omega);have Dq:decide ((e:Int)<(F l:Int))=V:=(by simp[js]);have cz:=R8 y.aU p.aU;have hf:ni Pr.aU p.aU l=decide (y.aU=p.aU):=(by unfold ni oZ;rw[u,E];simp only;split<;>simp[*]);have kf:=ae.mk hf;have ka:=ae.mk u;have kx2:=ae.mk (kx.out.trans x2);clear hf u E x2;refine bA @vy @eu.{0} @dM.{0} @aT ?_;refine du jr bD ?_;refine bA @vy @eu.{0} @dM.{0} @aT ?_;exact⟨_,_,O,by rw[kf.out,ka.out],kx2.out⟩
  .have hf:ni Pr.aU p.aU l=ai:=(by unfold ni oZ;rw[u,uy M];rfl);have Dq:decide ((e:Int)<(F l:Int))=ai:=(by simp;omega);have kf:=ae.mk hf;have ka:=ae.mk u;clear hf u;refine bA @vy @eu.{0} @dM.{0} @aT ?_;refine du jr bD ?_;refine bA @vy @eu.{0} @dM.{0} @aT ?_;exact⟨_,_,O,by rw[kf.out,ka.out],kx.out⟩
def wz(d)(a b):cV aa (Op.equalIn (d+1) 3 (.int .i64 a) (.int .i64 b))=J (a==b):=by unfold Op.equalIn;rw[gg,Bv mD,iH];simp[cV];rfl
def xb{α}{P}(a):cV P (pure a:Sem α)=J a:=rfl
def ku(p:Pr):Array aG:=#[.int .i64 p.aU,.int .i64 p.no,.int .i64 p.d,.int .i64 p.e]
def SI(d)(p q):cV aa (Op.equalIn (d+2) 46 (.agg (ku p)) (.agg (ku q)))=J (decide (p=q)):=by
 have h1:∀p,cV aa (part 3 (ku p) 0)=J (.int .i64 p.aU):=λp=>by kernel_rfl
 have h2:∀p,cV aa (part 3 (ku p) 1)=J (.int .i64 p.no):=λp=>by kernel_rfl
 have f:∀p,cV aa (part 3 (ku p) 2)=J (.int .i64 p.d):=λp=>by kernel_rfl
 have i:∀p,cV aa (part 3 (ku p) 3)=J (.int .i64 p.e):=λp=>by kernel_rfl
 have j:aa.stoodInHeld 46=ai:=by kernel_rfl
 have hp:cV aa program=J aa:=rfl;have A:(p=q)↔(p.aU=q.aU/\p.no=q.no/\p.d=q.d/\p.e=q.e):=by
  constructor
  .intro z0;subst z0;exact⟨O,O,O,O⟩
  .obtain⟨a,b,c,d⟩:=p;obtain⟨D,E,c',d'⟩:=q;rintro⟨rfl,rfl,rfl,rfl⟩;rfl
 have B:decide (p=q)=(decide (p.aU=q.aU)&&decide (p.no=q.no)&&decide (p.d=q.d)&&decide (p.e=q.e)):=by rw[Bool.eq_iff_iff];simp[A,and_assoc]
 rw[B];unfold Op.equalIn;rw[gg,Bv Tryz.underlying46,iH];by_cases e:p.aU=q.aU
 .by_cases o:p.no=q.no
  .by_cases u:p.d=q.d
   .by_cases v:p.e=q.e
    .simp[gg,xb,hp,j,h1,h2,f,i,wz,e,o,u,v]
    .simp[gg,xb,hp,j,h1,h2,f,i,wz,e,o,u,v]
   .simp[gg,xb,hp,j,h1,h2,f,i,wz,e,o,u]
  .simp[gg,xb,hp,j,h1,h2,f,i,wz,e,o]
 .simp[gg,xb,hp,j,h1,h2,f,i,wz,e]
def afV{x y}(p q):cy aa .eql 46 x y (.agg (aL p)) (.agg (aL q))=J (.v (.bool (decide (p=q)))):=by
 have e:cV aa (eqGuard .eql 46 x y (.agg (ku p)) (.agg (ku q)))=J ():=by kernel_rfl
 show(cV aa (do eqGuard .eql 46 x y (.agg (ku p)) (.agg (ku q));binOp .eql 46 (.agg (ku p)) (.agg (ku q)))).bind iU=_;rw[gg,e,iH];show(cV aa (do pure (.bool (<-Op.equal 46 (.agg (ku p)) (.agg (ku q)))))).bind iU=_;rw[gg];have:=SI 9998 p q;unfold Op.equal Op.maxDepth;rw[this];rfl
def ala{x y}(p q):cy aa .neq 46 x y (.agg (aL p)) (.agg (aL q))=J (.v (.bool (!decide (p=q)))):=by
 have e:cV aa (eqGuard .neq 46 x y (.agg (ku p)) (.agg (ku q)))=J ():=by kernel_rfl
 show(cV aa (do eqGuard .neq 46 x y (.agg (ku p)) (.agg (ku q));binOp .neq 46 (.agg (ku p)) (.agg (ku q)))).bind iU=_;rw[gg,e,iH];show(cV aa (do pure (.bool (!(<-Op.equal 46 (.agg (ku p)) (.agg (ku q))))))).bind iU=_;rw[gg];have:=SI 9998 p q;unfold Op.equal Op.maxDepth;rw[this];rfl
def Oa:Tryz.f117.results.toList=[.tmp 2]:=by kernel_rfl
def ud:Tryz.f54.results.toList=[.tmp 6]:=by kernel_rfl
def adg:ff aa 32 0 []=J (.list .tight 4 []):=by kernel_rfl
def as7{h}{s}{l}(o:l≠[])(j:F l<=1000000)(k)(u:s=4):lU aa h #[32,32] (.list .tight 4 []) (.list k s (bH l))=J (.arr (F h.boxes) 0 (F l) (F l),h.push (bH l).flatten):=by
 subst u;obtain⟨A,h1,f,v,i⟩:=U4;have B:=ji j v;have e:F (bH l)=F l:=by unfold bH;rw[br]
 have:=zu (P:=aa) (t0:=32) (t1:=32) (h:=h) (k:=.tight) (sz:=4) (es:=[]) (new:=bH l) (i:=A) (x:=.list k 4 (bH l)) kZ kZ h1 M (by rw[f];exact i) (by intro q;apply o;unfold bH at q;simpa using q) (by simp[e];omega) (by simp[e];omega) (.inl f.symm) (.inr O) (by rw[f];exact Ef);simpa [e] using this
def aev(h:Heap)(k:Tok)(s:Nat)(l:List Pr)(D:l≠[]->s=4)(j:k=.nil->l=[])(B:F l<=1000000):∃r h',SC.call 117 [.list k s (bH l)] h=J (r,h')/\((l=[]/\h'=h/\∃kk s0,r=.ret (.list kk s0 [])/\(kk=.nil∨kk=.tight))∨(l≠[]/\r=.ret (.arr (F h.boxes) 0 (F l) (F l))/\h'=h.push (bH l).flatten)):=by
 have u32:=kZ;have b:=adg;by_cases e:l=[]
 .subst e;clear j;have z0:bH ([]:List Pr)=[]:=rfl;rw[z0];by_cases i:k=.nil
  .subst i;refine bL O Qy O ?_;have v:∀x y,cy aa .eql 32 x y (.list .nil s []) (.list .nil 0 [])=J (.v (.bool V)):=λ_ _=>(by kernel_rfl);refine bg @Oa ?_;exact⟨_,_,O,.inl ⟨by first|rfl|trivial,O,_,_,O,.inl O⟩⟩
  .have v:∀x y,cy aa .eql 32 x y (.list k s []) (.list .nil 0 [])=J (.v (.bool ai)):=λ_ _=>by cases k<;>first|exact absurd O i|kernel_rfl
   have ta:lU aa h #[32,32] (.list .tight 4 []) (.list k s [])=J (.list .tight 4 [],h):=(by obtain⟨z1,h1,q2,q3,h4⟩:=U4;unfold lU;simp only[List.getElem?_toArray,List.getElem?_cons_zero,List.getElem?_cons_succ,iH,u32,h1,jx,rowsOf];simp[q2,h4]);refine bL O Qy O ?_;refine bg @Oa ?_;exact⟨_,_,O,.inl ⟨by first|rfl|trivial,O,_,_,O,.inr O⟩⟩
 .have E:=D e;subst E;have u:bH l≠[]:=by intro q;apply e;unfold bH at q;simpa using q
  have ta:=as7 (h:=h) (s:=4) e B k O;obtain⟨o,R,A⟩:∃o R,bH l=o::R:=by
   cases hq:bH l with|nil=>exact absurd hq u|cons o R=>exact⟨o,R,O⟩
  by_cases i:k=.nil
  .exact absurd (j i) e
  .have v:∀x y,cy aa .eql 32 x y (.list k 4 (bH l)) (.list .nil 0 [])=J (.v (.bool ai)):=λ_ _=>by rw[A];cases k<;>first|exact absurd O i|kernel_rfl
   have f:=ae.mk e;clear u A D B e j;generalize bH l=P at *
   refine bL O Qy O ?_;refine bg @Oa ?_;exact⟨_,_,O,.inr ⟨by first|exact f.out|trivial,O,O⟩⟩
def ai4{h}{b n i}{cs row}{k}(e:h.boxes[b]?=J cs)(j:0<n)(f:n<1000000)(hi:i<=n)(hc:F cs=n*4):SC.call 116 [.arr b 0 n n,.v (.int .i64 (i:Nat)),.list k 4 [row]] h=J (.ret (.arr (F h.boxes) 0 (n+1) (n+1)),(h.put b []).push (cs.take (i*4)++row++cs.drop (i*4))):=by rw[qZ];unfold j9 lM lJ tS;rw[aP aY];simp only[if_true];unfold w8;simp only[e];rw[av ⟨aX,aX,j,f,by omega,by omega,aX,hc⟩,fh];rfl
def ai5{h}{kk k}{s0}{row}(e:kk=.nil∨kk=.tight):SC.call 116 [.list kk s0 [],.v (.int .i64 0),.list k 4 [row]] h=J (.ret (.arr (F h.boxes) 0 1 1),h.push row):=by rw[qZ];unfold j9 lM lJ tS;rw[aP aY];simp only[if_true];unfold w8;simp only;rw[av ⟨e,aX⟩];rfl
def NS(l):F (bH l).flatten=F l*4:=by
 induction l with
 |nil=>rfl|cons p l e=>show(F (aL p++(bH l).flatten))=_;rw[cg,e,dY,jh];show 4+_=_;omega
def WJ:∀(l:List Pr) (i:Nat),(bH l).flatten.take (i*4)=(bH (l.take i)).flatten/\(bH l).flatten.drop (i*4)=(bH (l.drop i)).flatten
 | [],i=>by simp[bH]
 |p::l,0=>by simp[bH]
 |p::l,i+1=>by obtain⟨h1,h2⟩:=WJ l i;have f:(bH (p::l)).flatten=aL p++(bH l).flatten:=rfl;have e:F (aL p)=4:=rfl;rw[f,show(i+1)*4=F (aL p)+i*4 by rw[e];omega,List.take_length_add_append,List.drop_length_add_append,h1,h2];exact⟨O,O⟩
def al0(l)(p)(i):(bH l).flatten.take (i*4)++aL p++(bH l).flatten.drop (i*4)=(bH (l.take i++p::l.drop i)).flatten:=by obtain⟨h1,h2⟩:=WJ l i;rw[h1,h2];unfold bH;rw[List.map_append,eD,List.flatten_append,jA,iE]
def adf(p):ff aa 32 1 [(0,.agg (aL p))]=J (.list .tight 4 [aL p]):=by kernel_rfl
def S6(g:Nat):(U.func (.func g) [] []).bG=J [.func (.func g) [] []]:=rfl
def J4(h h':Heap)(x:U)(l:List Pr)(p:Pr)(r:dO):Prop:=
 match oZ Pr.aU p.aU l with
 |some y=>if y=p then r=.ret x else r=.panic (kK 151)
 |none=>∃b,r=.ret (.arr b 0 (F l+1) (F l+1))/\F h.boxes<=b/\h'.boxes[b]?=J (bH (mO Pr.aU p l)).flatten
def amU(h:Heap)(k:Tok)(s:Nat)(l:List Pr)(p:Pr)(A:l≠[]->s=4)(B:k=.nil->l=[])(o:Fi Pr.aU l)(hl:F l<1000000):
 ∃r h',SC.call 54 [.list k s (bH l),.agg (aL p),.func (.func 55) [] []] h=J (r,h')/\Ext h h'/\J4 h h' (.list k s (bH l)) l p r:=by
 have bp:=tZ p;have bf:=S6 55;obtain⟨D,e⟩:∃D,(h.push (aL p)).push [.func (.func 55) [] []]=D:=⟨_,O⟩;have e2:Ext h D:=by rw[<-e];exact(Ext.push _ _).trans (.push _ _)
 have q0:D.boxes[h.boxes.length]?=J (aL p):=by rw[<-e];exact aM (aK _ _)
 have u:D.boxes[(h.push (aL p)).boxes.length]?=J [.func (.func 55) [] []]:=by rw[<-e];exact aK _ _
 have n1:=bF h (aL p);rw[n1]at u;obtain⟨_,f,cs,rfl,x3⟩:=aq2 D k s l p (F h.boxes+1) u A o M;have L2:=nj q0;have L3:=nj (x3.box _ _ q0);have sB:cH (.agg (aL p)) (.agg (aL p))=V:=by simp[cH,fL,gH,aL]
 have u32:=kZ;have z46:=qh;have eC:F (bH l)=F l:=by unfold bH;rw[br]
 have kx:=ae.mk (e2.trans x3);have nK:=Be (pr:=lM) O;have tL:=Bd (pr:=lM) O;unfold J4;cases j:oZ Pr.aU p.aU l with
 |some y=>
  have hi:ni Pr.aU p.aU l=V:=by unfold ni;rw[j];rfl
  rw[hi]at cs;have E:l[iY Pr.aU p.aU l]?=J y:=by
   unfold oZ at j;split at j
   .split at j
    .rename_i z1 _;rw[z1];exact j
    .cases j
   .cases j
  have dj:=(aS.1 E).1;have MF:=A (by intro q;rw[q]at dj;simp at dj);subst MF;have ld:=p_ (H:=f) (s:=4) E;have eq:=λx z=>afV (x:=x) (y:=z) y p;generalize iY Pr.aU p.aU l=at' at *
  have fH:(at':Int)<(F l:Int):=by omega
  clear j hi E A B o q0 u e2 x3;by_cases hp:y=p
  .rw[bQ hp]at eq;have khp:=ae.mk hp;clear hp;refine bL O J' O ?_;refine bA @ud @a_ @e @aT ?_;refine du jr bD ?_;refine bA @ud @a_ @e @aT ?_;exact⟨_,_,O,kx.out,by rw[av khp.out]⟩
  .rw[b_ hp]at eq;have khp:=ae.mk hp;clear hp;refine bL O J' O ?_;refine bA @ud @a_ @e @aT ?_;refine X7 (n:=6) O bD bD bD ?_;simp only[dw,cX];refine bA @ud @a_ @e (aj @aT (aj @List.drop_succ_cons.{0} (aj @gw.{0} (aj @Vx (aj @Y1 @Y2))))) ?_;exact⟨_,_,O,kx.out,by rw[aP khp.out]⟩
 |none=>
  have hi:ni Pr.aU p.aU l=ai:=by unfold ni;rw[j];rfl
  rw[hi]at cs;have ru:=Kq (k:=Pr.aU) p.aU l;have bl:=adf p;obtain⟨_,H4,cc,⟨hn,rfl,kk,s0,rfl,yu⟩|⟨hn,rfl,rfl⟩⟩:=aev f k s l A B M
  .subst hn;have Dk:iY Pr.aU p.aU ([]:List Pr)=0:=rfl;rw[Dk]at cs;have ci:SC.call 116 [.list kk s0 [],.v (.int .i64 ((0:Nat):Int)),.list .tight 4 [aL p]] H4=_:=ai5 (h:=H4) (k:=.tight) (s0:=s0) (row:=aL p) yu;have kb:ae (F h.boxes<=F H4.boxes):=⟨by have:=(aS.1 (x3.box _ _ u)).1;omega⟩;have kl:=ae.mk (aK H4 (aL p));have kx2:=ae.mk (kx.out.trans (.push H4 (aL p)));clear j hi A B o q0 u e2 x3 ru nK tL;have el:bH ([]:List Pr)=[]:=rfl;simp only[el]at cs cc ⊢;generalize hB:aL p=z0 at *
   refine bL O J' O ?_;refine cK @ud @a_ @e ?_;refine iC [(1,3)] jr bD (λz hz=>?_) ?_
   .simp only[hY]at hz;subst hz;refine jP (x:=.ptr (.box (F h.boxes)) 0) (v:=.agg z0) bD O O O bD (sB) ?_ ?_<;>(simp only[dw,cX];exact dV @ud @and_self)
   refine cK @ud @a_ @e ?_;exact⟨_,_,O,kx2.out,_,O,kb.out,by rw[<-hB]at kl;rw[<-hB];exact kl.out⟩
  .have MF:=A hn;subst MF;have uQ:=aK f (bH l).flatten;have ci:=ai4 (h:=f.push (bH l).flatten) (b:=f.boxes.length) (n:=l.length) (i:=iY Pr.aU p.aU l) (row:=aL p) (k:=.tight) uQ (by cases l with|nil=>exact absurd O hn|cons _ _=>simp) hl ru (NS l);rw[al0]at ci;have ei:l.take (iY Pr.aU p.aU l)++p::l.drop (iY Pr.aU p.aU l)=mO Pr.aU p l:=rfl;rw[ei]at ci;have L4:=nj (aM (cs:=(bH l).flatten) (x3.box _ _ q0));have kb:ae (F h.boxes<=F (f.push (bH l).flatten).boxes):=⟨by have:=(aS.1 (x3.box _ _ u)).1;rw[bF];omega⟩;have kl:ae ((((f.push (bH l).flatten).put (F f.boxes) []).push (bH (mO Pr.aU p l)).flatten).boxes[(f.push (bH l).flatten).boxes.length]?=J (bH (mO Pr.aU p l)).flatten):=⟨by
    have:=aK ((f.push (bH l).flatten).put (F f.boxes) []) (bH (mO Pr.aU p l)).flatten
    rwa [jd]at this⟩
   have kx2:ae (Ext h (((f.push (bH l).flatten).put (F f.boxes) []).push (bH (mO Pr.aU p l)).flatten)):=⟨((kx.out.trans (.push f _)).fy (by have:=(aS.1 (x3.box _ _ u)).1;omega) []).trans (.push _ _)⟩;clear j hi A B o q0 u e2 x3 ru nK tL uQ ei;generalize hB:aL p=z0 at *
   generalize iY Pr.aU p.aU l=at' at *
   generalize (bH l).flatten=PF at *
   generalize (bH (mO Pr.aU p l)).flatten=IF at *
   refine bL O J' O ?_;refine cK @ud @a_ @e ?_;refine iC [(1,3)] jr bD (λz hz=>?_) ?_
   .simp only[hY]at hz;subst hz;refine jP (x:=.ptr (.box (F h.boxes)) 0) (v:=.agg z0) bD O O O bD (sB) ?_ ?_<;>(simp only[dw,cX];exact dV @ud @and_self)
   refine cK @ud @a_ @e ?_;exact⟨_,_,O,kx2.out,_,O,kb.out,kl.out⟩
end Go.Proofs.YtcbhpkjbiehcpaaGreatDoor
end
