/-
  The engine, part 31: arguments of recursive types: a set of types, each made of others of the set.
-/
import Derived.Test.YtnfciiiohoafaaaGreatDoorTB
open Bool renaming true->ah,and_eq_true->bC
open Option renaming some->aa,map_some->eJ,some.injEq->dA
open List renaming all_eq_true->dU,getElem?_eq_getElem->aO,getElem?_map->dW,getElem?_eq_some_iff->aP,all_append->Ey,drop_drop->wM,drop_zero->iC,drop_left->aap,take_length->fA,append_nil->jH
open Nat renaming zero_le->cr,add_mul->gg,lt_or_ge->dI,le_refl->aJ,eq_of_beq_eq_true->jw,mul_le_mul_right->nF
open Array renaming getElem?_eq_some_iff->BN
set_option linter.unusedSimpArgs false
set_option linter.unusedVariables false
set_option linter.constructorNameAsVariable false
set_option linter.defProp false
section
namespace Go.AE
open Go.RowKit Go.WideShapes Go.ChangeShapes
def Gm(P:Program)(S:List TypeId)(t:TypeId):Bool:=
 match P.underlying t with
 |some .bool|some (.int _)|some .string=>ah
 |some (.slice e)=>S.contains e&&decide (0<P.cellsOf e)
 |some (.struct fs)=>BH P 0 fs.toList (P.cellsOf t)&&fs.toList.all λf=>S.contains f.type
 |some (.array m e)=>Nat.beq (P.cellsOf t) (m * P.cellsOf e)&&S.contains e
 |_=>false
def JB(P:Program)(S:List TypeId):Bool:=S.all (Gm P S)
section
variable {H:Type} {enc:TypeId × Value->H} {P:Program} {W:World}
def arL{S:List TypeId}(hS:JB P S=ah):∀(fuel:Nat) (t:TypeId) (cs:List Value) (x:DataW H × List MemPlace),DataW.trod enc P W 0 (λ_=>ah) ah fuel t cs=aa x->S.contains t=ah->
 ∃xs,aM (aS.init W) xs cs/\xs.all AV.dN=ah/\Has P t xs x.1:=by
 intro fuel
 induction fuel with
 |zero=>intro t cs x h;simp[DataW.trod] at h|succ fuel ih=>
  intro t cs x h iu;have bA:Gm P S t=ah:=dU.1 hS t (by simpa using iu);unfold Gm at bA;split at bA
  ·rename_i hu;obtain⟨b,rfl,rfl⟩:=DataW.trod_bool hu h;exact⟨_,.cons _ _ _ _ (.v _ rfl) .nil,rfl,.bool hu b⟩
  ·rename_i k hu;obtain⟨m,rfl,rfl,hw⟩:=DataW.trod_int hu h;exact⟨_,.cons _ _ _ _ (.v _ rfl) .nil,rfl,.int hu m hw⟩
  ·rename_i hu;obtain⟨s,rfl,rfl,hs⟩:=DataW.trod_string hu h;exact⟨_,.cons _ _ _ _ (.v _ rfl) .nil,rfl,.str hu s hs⟩
  ·rename_i e hu;rw[bC,decide_eq_true_eq] at bA;obtain⟨ah2,jW⟩:=bA;rcases DataW.trod_slice hu h with⟨rfl,rfl⟩|⟨a,len,aB,elems,rest,m,hm,rfl,rfl,-,Nr,ur,FD,ahv,aib,-⟩
   ·exact⟨_,.cons _ _ _ _ (.nil _) .nil,rfl,.none hu⟩
   ·have hm:m=fuel:=(by omega);subst hm;obtain⟨cO,F1⟩:=aib rfl;have elemAt:∀i,i<len->∃vs r y,W.cells? 0 (a.add (i * P.cellsOf e)) (P.cellsOf e)=aa vs/\elems[i]?=aa y/\aM (aS.init W) r vs/\r.all AV.dN=ah/\Has P e r y.1:=by
     intro i hi;have h1:=ahv i hi;rw[aO (by omega:i<elems.length)] at h1;cases hc:W.cells? 0 (a.add (i * P.cellsOf e)) (P.cellsOf e) with
     |none=>rw[hc] at h1;cases h1
     |some vs=>rw[hc] at h1;obtain⟨r,g1,g2,g3⟩:=ih e vs _ h1 ah2;exact⟨vs,r,_,rfl,aO _,g1,g2,g3⟩
    by_cases je:aB=0
    ·have hlen:len=0:=(by omega);subst je;subst hlen;have he:elems=[]:=List.eq_nil_of_length_eq_zero FD;subst he;refine⟨[.list .tight (P.cellsOf e) []],.cons _ _ _ _ (.jb _ _) .nil,rfl,?_⟩;show Has P t _ (.slice [] (rest.map (·.1)));exact .list hu .tight [] [] (rest.map (·.1)) (.inr ⟨rfl,rfl⟩) (cr _) rfl bh bh
    ·-- the block is there
     have Vy:a.spot=none:=by
      have:∃vs,W.cells? 0 (a.add 0) (P.cellsOf e)=aa vs:=by
       rcases Nat.eq_zero_or_pos len with h0|h0
       ·have h1:=F1 0 ag;rw[aO (by omega:0<rest.length)] at h1;cases hc:W.cells? 0 (a.add ((len+0) * P.cellsOf e)) (P.cellsOf e) with
        |none=>rw[hc] at h1;cases h1
        |some vs=>rw[h0] at hc;exact⟨vs,by simpa using hc⟩
       ·obtain⟨vs,_,_,hc,_⟩:=elemAt 0 h0;exact⟨vs,by simpa using hc⟩
      obtain⟨vs,fy⟩:=this;obtain⟨hl,hg⟩:=SK fy;have h0:=hg 0 jW;rw[aO (by omega:0<vs.length)] at h0;have:(a.add 0).add 0=a:=(by simp[Addr.add]);rw[this] at h0;exact aqo h0
     obtain⟨g,off,sp⟩:=a;simp only at Vy;subst Vy;have ae:∀k,k<=len->∃es:List (List AV),es.length=k/\(∀r∈es,r.length=P.cellsOf e/\r.all AV.dN=ah)/\(∀(i:Nat) (r:List AV) (d:DataW H),es[i]?=aa r->(elems.map (·.1))[i]?=aa d->Has P e r d)/\
      ∃cells:List Value,cells.length=k * P.cellsOf e/\aM (aS.init W) es.flatten cells/\∀(j:Nat) (c:Value),cells[j]?=aa c->W.cell? ⟨g,off+j,none⟩=aa c:=by
      intro k
      induction k with
      |zero=>intro _;exact⟨[],rfl,by simp,by simp,[],by simp,.nil,by simp⟩|succ k ihk=>
       intro hk;obtain⟨es,e1,e2,e3,cells,c1,c2,c3⟩:=ihk ag;obtain⟨vs,r,y,hc,hy,g1,g2,g3⟩:=elemAt k ag;obtain⟨oT,hvg⟩:=SK hc;refine⟨es++[r],by simp[e1],λr' fG=>?_,λi r' d hi hd=>?_,cells++vs,by simp[c1,oT,gg],?_,λj c hj=>?_⟩
       ·rcases List.mem_append.1 fG with h1|h1
        ·exact e2 r' h1
        ·simp only[List.mem_singleton] at h1;subst h1;exact⟨by rw[g1.length,oT],g2⟩
       ·rcases ri hi with h1|⟨h1,rfl⟩
        ·exact e3 i r' d h1 hd
        ·rw[h1,e1,dW,hy] at hd;simp only[eJ,dA] at hd;subst hd;exact g3
       ·rw[List.flatten_append];simpa using c2.append g1
       ·rcases dI j cells.length with h1|h1
        ·rw[List.getElem?_append_left h1] at hj;exact c3 j c hj
        ·rw[List.getElem?_append_right h1] at hj;have ou:j - cells.length<P.cellsOf e:=(by have:=(aP.1 hj).1;omega);have h2:=hvg _ ou;rw[hj,Addr.lY,Addr.lY] at h2;rw[(ag:off+j=off+k * P.cellsOf e+(j - cells.length))];exact h2
     obtain⟨es,e1,e2,e3,cells,c1,c2,c3⟩:=ae len (aJ _);have ec:es.flatten.all AV.dN=ah:=(by rw[List.all_flatten];simp only[dU];intro r hr;have:=(e2 r hr).2;simpa using this);refine⟨[.list .held (P.cellsOf e) es],.cons _ _ _ _ (.list .held (P.cellsOf e) es g off len aB cells e1.symm (λr hr=>(e2 r hr).1) c2 c3 ⟨Nr,trivial⟩ ec) .nil,rfl,?_⟩;exact .list hu .held es (elems.map (·.1)) (rest.map (·.1)) (.inl rfl) ag (by simp[e1,FD]) e3 (λr hr=>(e2 r hr).1)
  ·rename_i fs hu;rw[bC,dU] at bA;obtain⟨aih,ec⟩:=bA;obtain⟨ys,m,hm,rfl,dC,xG,om⟩:=DataW.trod_struct hu h;have hm:m=fuel:=(by omega);subst hm;have fld:∀(i:Nat) (f:Field),fs[i]?=aa f->∃r y,ys[i]?=aa y/\aM (aS.init W) r ((cs.drop f.offset).take (P.cellsOf f.type))/\r.all AV.dN=ah/\Has P f.type r y.1:=(by intro i f hf;have h1:=om i f hf;have aA:i<ys.length:=(by rw[xG];exact(BN.1 hf).1);rw[aO aA] at h1;obtain⟨r,g1,g2,g3⟩:=ih f.type _ _ h1 (ec f (by obtain⟨hi,rfl⟩:=BN.1 hf;exact Array.mem_toList_iff.2 (Array.getElem_mem hi)));exact⟨r,_,aO aA,g1,g2,g3⟩);have build:∀(l:List Field) (i off:Nat),(∀j f,l[j]?=aa f->fs[i+j]?=aa f)->BH P off l (P.cellsOf t)=ah->off<=cs.length->
    ∃xs,aM (aS.init W) xs (cs.drop off)/\xs.all AV.dN=ah/\∀j f,l[j]?=aa f->off<=f.offset/\∃r y,ys[i+j]?=aa y/\(xs.drop (f.offset - off)).take (P.cellsOf f.type)=r/\Has P f.type r y.1:=by
    intro l
    induction l with
    |nil=>intro i off _ ht _;have zh:off=P.cellsOf t:=jw ht;refine⟨[],?_,rfl,λj f hj=>by simp at hj⟩;rw[zh,<-dC,List.drop_length];exact .nil|cons f l ihl=>
     intro i off hl ht eg;rw[BH,bC] at ht;have ho:f.offset=off:=jw ht.1;obtain⟨r,y,hy,g1,g2,g3⟩:=fld i f (by simpa using hl 0 f rfl);have IW:off+P.cellsOf f.type<=cs.length:=by
      rw[dC];have:∀(l:List Field) (o:Nat),BH P o l (P.cellsOf t)=ah->o<=P.cellsOf t:=by
       intro l
       induction l with
       |nil=>intro o h;exact Nat.le_of_eq (jw h)|cons f l ih=>intro o h;rw[BH,bC] at h;exact Nat.le_trans (Nat.le_add_right _ _) (ih _ h.2)
      exact this l _ ht.2
     obtain⟨xs,x1,x2,x3⟩:=ihl (i+1) (off+P.cellsOf f.type) (λj f' hj=>by
      have:=hl (j+1) f' (by simpa using hj)
      rwa [(ag:i+(j+1)=i+1+j)] at this) ht.2 IW
     rw[ho] at g1;have cO:r.length=P.cellsOf f.type:=(by rw[g1.length];simp;omega);refine⟨r++xs,?_,by rw[Ey,g2,x2];rfl,λj f' hj=>?_⟩
     ·have:=g1.append x1;rw[<-wM,List.take_append_drop] at this;exact this
     ·cases j with|zero=>simp only[List.getElem?_cons_zero,dA] at hj;subst hj;refine⟨ag,r,y,hy,?_,g3⟩;rw[ho,Nat.sub_self,iC,<-cO,List.take_left]|succ j=>obtain⟨dM,r',y',hy',fG,hh⟩:=x3 j f' (by simpa using hj);refine⟨ag,r',y',by rw[(ag:i+(j+1)=i+1+j)];exact hy',?_,hh⟩;rw[show f'.offset - off=r.length+(f'.offset - (off+P.cellsOf f.type)) by omega,<-wM,aap];exact fG
   obtain⟨xs,x1,x2,x3⟩:=build fs.toList 0 0 (λj f hj=>by simpa using hj) aih (cr _);rw[iC] at x1;refine⟨xs,x1,x2,.struct hu xs (ys.map (·.1)) (by rw[x1.length,dC]) (by simp[xG]) λi f d hf hd=>?_⟩;obtain⟨-,r,y,hy,hr,hh⟩:=x3 i f (by simpa using hf);rw[Nat.zero_add] at hy;rw[dW,hy] at hd;simp only[eJ,dA] at hd;subst hd;rw[Nat.sub_zero] at hr;rw[hr];exact hh
  ·rename_i m e hu;rw[bC] at bA;have dH:P.cellsOf t=m * P.cellsOf e:=jw bA.1;obtain⟨ys,fu,UM,rfl,dC,xG,om⟩:=DataW.trod_array hu h;have UM:fu=fuel:=(by omega);subst UM;have ae:∀k,k<=m->∃xs,aM (aS.init W) xs (cs.take (k * P.cellsOf e))/\xs.all AV.dN=ah/\∀i,i<k->∃y,ys[i]?=aa y/\Has P e ((xs.drop (i * P.cellsOf e)).take (P.cellsOf e)) y.1:=by
    intro k
    induction k with
    |zero=>intro _;exact⟨[],by simp;exact .nil,rfl,λi hi=>absurd hi (Nat.not_lt_zero i)⟩
    |succ k ihk=>
     intro hk;obtain⟨xs,x1,x2,x3⟩:=ihk ag;have h1:=om k ag;rw[aO (by omega:k<ys.length)] at h1;obtain⟨r,g1,g2,g3⟩:=ih e _ _ h1 bA.2;have hlen:(k+1) * P.cellsOf e<=cs.length:=(by rw[dC,dH];exact nF _ hk);have dx:xs.length=k * P.cellsOf e:=(by rw[x1.length,List.length_take];rw[gg] at hlen;omega);have cO:r.length=P.cellsOf e:=(by rw[g1.length];simp;rw[gg] at hlen;omega);refine⟨xs++r,?_,by rw[Ey,x2,g2];rfl,λi hi=>?_⟩
     ·have:=x1.append g1
      rwa [<-List.take_add,<-Nat.succ_mul] at this
     ·rcases dI i k with h2|h2
      ·obtain⟨y,hy,hh⟩:=x3 i h2;refine⟨y,hy,?_⟩;have h3:(i+1) * P.cellsOf e<=k * P.cellsOf e:=nF _ h2;rw[gg] at h3;rw[List.drop_append_of_le_length ag,List.take_append_of_le_length (by simp;omega)];exact hh
      ·have:i=k:=(by omega);subst this;refine⟨_,aO ag,?_⟩;rw[<-dx,aap,<-cO,fA];exact g3
   obtain⟨xs,x1,x2,x3⟩:=ae m (aJ _);rw[<-dH,<-dC,fA] at x1;refine⟨xs,x1,x2,.array hu xs (ys.map (·.1)) (by rw[x1.length,dC]) (by simp[xG]) λi d hd=>?_⟩;have hi:i<m:=(by have:=(aP.1 hd).1;simpa [xG] using this);obtain⟨y,hy,hh⟩:=x3 i hi;rw[dW,hy] at hd;simp only[eJ,dA] at hd;subst hd;exact hh
  ·cases bA
def ab8{S:List TypeId}(hS:JB P S=ah){t:TypeId}{v:Value}{d:DataW H}{p:List MemPlace}{base:Nat}(h:DataW.Trod enc P W 0 (λ_=>ah) ah t v d p)(hv:Value.okWide P W .any base t v)(iu:S.contains t=ah):
 ∃x,aT (aS.init W) x v/\lD P t x d:=by
 obtain⟨fuel,hf⟩:=h;obtain⟨xs,h1,h2,h3⟩:=arL hS fuel t _ _ hf iu;have single:∀c,v.cells.toList=[c]->v=c->(∀cs,P.underlying t≠aa (.struct cs))->(∀m e,P.underlying t≠aa (.array m e))->∃x,aT (aS.init W) x v/\lD P t x d:=by
  intro c hc hvc hns hna;rw[hc] at h1;cases h1 with
  |cons x _ _ _ hx hs=>
   cases hs;refine⟨x,hvc ▸ hx,?_⟩;unfold lD;split
   ·rename_i hu;exact absurd hu (hns _)
   ·rename_i hu;exact absurd hu (hna _ _)
   ·exact h3
 have bA:Gm P S t=ah:=dU.1 hS t (by simpa using iu);unfold Gm at bA;unfold Value.okWide at hv;split at bA
 ·rename_i hu;rw[hu] at hv;simp only[Cell.okWide,Cell.ok,hu] at hv;cases v<;>simp at hv;exact single _ rfl rfl (by rw[hu];simp) (by rw[hu];simp)
 ·rename_i k hu;rw[hu] at hv;simp only[Cell.okWide,Cell.ok,hu] at hv;cases v<;>simp at hv;exact single _ rfl rfl (by rw[hu];simp) (by rw[hu];simp)
 ·rename_i hu;rw[hu] at hv;simp only[Cell.okWide,Cell.ok,hu] at hv;cases v<;>simp at hv;exact single _ rfl rfl (by rw[hu];simp) (by rw[hu];simp)
 ·rename_i e hu;rw[hu] at hv;simp only[Cell.okWide,Cell.ok,hu] at hv;cases v<;>simp at hv;exact single _ rfl rfl (by rw[hu];simp) (by rw[hu];simp)
 ·rename_i fs hu;rw[hu] at hv;obtain⟨cs,rfl,-,-⟩:=hv;exact⟨.agg xs,.agg _ _ h1,by unfold lD;rw[hu];exact⟨xs,rfl,h3⟩⟩
 ·rename_i m e hu;rw[hu] at hv;obtain⟨cs,rfl,-,-⟩:=hv;exact⟨.agg xs,.agg _ _ h1,by unfold lD;rw[hu];exact⟨xs,rfl,h3⟩⟩
 ·cases bA
def ab9{S:List TypeId}(hS:JB P S=ah){base:Nat}:∀{ts:List TypeId} {vs:List Value} {ds:List (DataW H)} {p:List MemPlace},DataW.TrodAll enc P W 0 (λ_=>ah) ah ts vs ds p->
 (∀(j:Nat) t v,ts[j]?=aa t->vs[j]?=aa v->Value.okWide P W .any base t v)->(∀t∈ts,S.contains t=ah)->∃xs,aM (aS.init W) xs vs/\sY P ts xs ds:=by
 intro ts
 induction ts with
 |nil=>intro vs ds p h _ _;obtain⟨rfl,rfl,rfl⟩:=trodAll_nil h;exact⟨[],.nil,trivial⟩
 |cons t ts ih=>intro vs ds p h hv bA;obtain⟨v,vs',d,ds',p1,q1,rfl,rfl,rfl,h1,h2⟩:=trodAll_cons h;obtain⟨x,g1,g2⟩:=ab8 hS h1 (hv 0 t v rfl rfl) (bA t List.mem_cons_self);obtain⟨xs,g3,g4⟩:=ih h2 (λj t v ht pP=>hv (j+1) t v (by simpa using ht) (by simpa using pP)) (λt ht=>bA t (List.mem_cons_of_mem _ ht));exact⟨x::xs,.cons _ _ _ _ g1 g3,g2,g4⟩
structure Q3(P:Program)(S:List TypeId)(f:FuncId)(fn:Func)(tb:TypeId):Prop where
 func:P.funcs[f]?=aa fn
 laid:laidOutB P=ah
 set:JB P S=ah
 o5:∀t∈fn.params.toList,S.contains t=ah/\P.readableRec t=ah/\t<P.types.size
 res:fn.resultTypes=#[tb]
 bool:P.underlying tb=aa .bool
variable {G:Nat->Option (List AV)} {prims:FuncId->Option (List AV->ak->Option (AV × ak))}
def aiS{S:List TypeId}(hp:Prog P){f:FuncId}{fn:Func}{tb:TypeId}(F:Q3 P S f fn tb){s:ChangeSpec}{apart fresh handsOn again:Bool}{base:Nat}{args:Array Value}{ds gs:List (DataW H)}{before:List MemPlace}
 (F7:s.vars=[]) (aic:∀ds:List (DataW H),ds.length=fn.params.size->(s.fn H ds).results=[.lit (.bool ah)]/\(s.fn H ds).args=ds/\(s.fn H ds).vars=[])
 (Oa:∀(j:Nat) t v,fn.params[j]?=aa t->args[j]?=aa v->Value.okWide P W .any base t v)
 (hW:DataW.Whole enc P fn.params.toList s.vars apart W args.toList ds gs before)
 (hG:∀g cs,G g=aa cs->∃cells,aM (aS.init W) cs cells/\∀(j:Nat) (c:Value),cells[j]?=aa c->W.cell? ⟨g,j,none⟩=aa c)
 (nQ:∀g p,prims g=aa p->rV P G W g p)
 (ahJ:∀xs:List AV,sY P fn.params.toList xs ds->∃h',(whole P G prims).call f xs ak.init=aa (.ret (.v (.bool ah)),h')):
 Calls P f args W λe W'=>∃v,e=.returned v/\s.post enc P fn apart fresh handsOn again W args v W':=by
 have Ul:=hW;obtain⟨p,q,hA,hV,Us,vI,NB⟩:=hW;have hV0:DataW.TrodVars enc P W (λ_=>ah) [] gs q:=F7 ▸ hV;obtain⟨rfl,rfl⟩:=trodVars_none hV0;rw[jH] at Us;subst Us;obtain⟨xs,Oc,ec⟩:=ab9 F.set hA (λj t v ht hv=>Oa j t v (by simpa using ht) (by simpa using hv)) (λt ht=>(F.o5 t ht).1);obtain⟨h',sn⟩:=ahJ xs ec;have F3:jT P G W (aS.init W) ak.init W:=ap6 W hG;obtain⟨-,hc⟩:=(QE hp nQ).call f xs ak.init _ _ sn;intro cs;obtain⟨K',w',fr,le,s',bZ,vH,v,hx,hl⟩:=hc (aS.init W) W args Oc F3 cs;have hv:=hx.iB.1;subst hv;have hb:Below W.heap.size W w':=by have:=s'.cU;rw[le.base] at this;exact this
 have hlen:ds.length=fn.params.size:=by
  have:∀{ts:List TypeId} {xs:List AV} {ds:List (DataW H)},sY P ts xs ds->ds.length=ts.length:=by
   intro ts
   induction ts with
   |nil=>intro xs ds h;cases xs<;>cases ds<;>simp[sY] at h ⊢
   |cons t ts ih=>intro xs ds h;cases xs<;>cases ds<;>simp[sY] at h ⊢;exact ih h.2
  simpa using this ec
 obtain⟨r1,r2,r3⟩:=aic ds hlen;refine⟨.returned (.bool ah),w',fr,⟨_,rfl,?_⟩,bZ,vH,hl⟩;refine alm (pa:=before) (pv:=[]) Ul (λb sp hd=>?_) (λsp kL=>?_) (λsp _=>?_) bh hb (ok_one F.res rfl (okWide_bool_mk F.bool _))
 ·rw[F.res,jH,r1];exact trodAll_cons_mk (shut_bool F.bool _) trodAll_mk0
 ·rw[jH,r2];exact aca F.laid hA (λt ht=>(F.o5 t ht).2) (λx hx=>hb.same (Ul.lt x hx)) kL
 ·rw[F7,jH,r3];exact rfl
end
end Go.AE
end
