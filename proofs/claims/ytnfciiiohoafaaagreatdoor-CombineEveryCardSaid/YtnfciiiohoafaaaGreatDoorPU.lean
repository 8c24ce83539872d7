/-
  The engine, part 31: arguments of recursive types: a set of types, each made of others of the set.
-/
import Derived.Test.YtnfciiiohoafaaaGreatDoorPE
set_option linter.unusedSimpArgs false
set_option linter.unusedVariables false
set_option linter.constructorNameAsVariable false
section
namespace Go.AE
open Go.RowKit Go.WideShapes Go.ChangeShapes
def okLoc(P:Program)(S:List TypeId)(t:TypeId):Bool:=
 match P.underlying t with
 |some .bool|some (.int _) |some .string=>true
 |some (.slice e)=>S.contains e&&decide (0<P.cellsOf e)
 |some (.struct fs)=>uW P 0 fs.toList (P.cellsOf t)&&fs.toList.all fun f=>S.contains f.type
 |some (.array m e)=>Nat.beq (P.cellsOf t) (m * P.cellsOf e)&&S.contains e
 |_=>false
def okSet(P:Program)(S:List TypeId):Bool:=S.all (okLoc P S)
section
variable {H:Type} {enc:TypeId × Value->H} {P:Program} {W:World}
theorem trod_hasS{S:List TypeId}(hS:okSet P S=true):∀(fuel:Nat) (t:TypeId) (cs:List Value) (x:DataW H × List MemPlace),DataW.trod enc P W 0 (fun _=>true) true fuel t cs=some x->S.contains t=true->
 ∃xs,ao (aB.init W) xs cs/\xs.all AV.bu=true/\Has P t xs x.1:=by
 intro fuel
 induction fuel with
 |zero=>intro t cs x h;simp[DataW.trod] at h
 |succ fuel ih=>
  intro t cs x h hin
  have hok:okLoc P S t=true:=List.all_eq_true.1 hS t (by simpa using hin)
  unfold okLoc at hok
  split at hok
  ·rename_i hu
   obtain⟨b,rfl,rfl⟩:=DataW.trod_bool hu h
   exact⟨_,.cons _ _ _ _ (.v _ rfl) .nil,rfl,.bool hu b⟩
  ·rename_i k hu
   obtain⟨m,rfl,rfl,hw⟩:=DataW.trod_int hu h
   exact⟨_,.cons _ _ _ _ (.v _ rfl) .nil,rfl,.int hu m hw⟩
  ·rename_i hu
   obtain⟨s,rfl,rfl,hs⟩:=DataW.trod_string hu h
   exact⟨_,.cons _ _ _ _ (.v _ rfl) .nil,rfl,.str hu s hs⟩
  ·rename_i e hu
   rw[Bool.and_eq_true,decide_eq_true_eq] at hok
   obtain⟨hoke,hpos⟩:=hok
   rcases DataW.trod_slice hu h with⟨rfl,rfl⟩|⟨a,len,cap,elems,rest,m,hm,rfl,rfl,-,hlc,hcm,hel,helem,hspare,-⟩
   ·exact⟨_,.cons _ _ _ _ (.nil _) .nil,rfl,.none hu⟩
   ·have hm:m=fuel:=by omega
    subst hm
    obtain⟨hrl,hrest⟩:=hspare rfl
    have elemAt:∀i,i<len->∃vs r y,W.cells? 0 (a.add (i * P.cellsOf e)) (P.cellsOf e)=some vs/\elems[i]?=some y/\ao (aB.init W) r vs/\r.all AV.bu=true/\Has P e r y.1:=by
     intro i hi
     have h1:=helem i hi
     rw[List.getElem?_eq_getElem (by omega:i<elems.length)] at h1
     cases hc:W.cells? 0 (a.add (i * P.cellsOf e)) (P.cellsOf e) with
     |none=>rw[hc] at h1;cases h1
     |some vs=>
      rw[hc] at h1
      obtain⟨r,g1,g2,g3⟩:=ih e vs _ h1 hoke
      exact⟨vs,r,_,rfl,List.getElem?_eq_getElem _,g1,g2,g3⟩
    by_cases hcap:cap=0
    ·have hlen:len=0:=by omega
     subst hcap;subst hlen
     have he:elems=[]:=List.eq_nil_of_length_eq_zero hel
     subst he
     refine⟨[.list .tight (P.cellsOf e) []],.cons _ _ _ _ (.eK _ _) .nil,rfl,?_⟩
     show Has P t _ (.slice [] (rest.map (·.1)))
     exact .list hu .tight [] [] (rest.map (·.1)) (.inr ⟨rfl,rfl⟩) (Nat.zero_le _) rfl (by simp) (by simp)
    ·-- the block is there
     have hspot:a.spot=none:=by
      have:∃vs,W.cells? 0 (a.add 0) (P.cellsOf e)=some vs:=by
       rcases Nat.eq_zero_or_pos len with h0|h0
       ·have h1:=hrest 0 (by omega)
        rw[List.getElem?_eq_getElem (by omega:0<rest.length)] at h1
        cases hc:W.cells? 0 (a.add ((len+0) * P.cellsOf e)) (P.cellsOf e) with
        |none=>rw[hc] at h1;cases h1
        |some vs=>rw[h0] at hc;exact⟨vs,by simpa using hc⟩
       ·obtain⟨vs,_,_,hc,_⟩:=elemAt 0 h0
        exact⟨vs,by simpa using hc⟩
      obtain⟨vs,hvs⟩:=this
      obtain⟨hl,hg⟩:=uX hvs
      have h0:=hg 0 hpos
      rw[List.getElem?_eq_getElem (by omega:0<vs.length)] at h0
      have:(a.add 0).add 0=a:=by simp[Addr.add]
      rw[this] at h0
      exact FP h0
     obtain⟨g,off,sp⟩:=a
     simp only at hspot
     subst hspot
     have rows:∀k,k<=len->∃es:List (List AV),es.length=k/\(∀r∈es,r.length=P.cellsOf e/\r.all AV.bu=true)/\(∀(i:Nat) (r:List AV) (d:DataW H),es[i]?=some r->(elems.map (·.1))[i]?=some d->Has P e r d)/\
      ∃cells:List Value,cells.length=k * P.cellsOf e/\ao (aB.init W) es.flatten cells/\∀(j:Nat) (c:Value),cells[j]?=some c->W.cell? ⟨g,off+j,none⟩=some c:=by
      intro k
      induction k with
      |zero=>intro _;exact⟨[],rfl,by simp,by simp,[],by simp,.nil,by simp⟩
      |succ k ihk=>
       intro hk
       obtain⟨es,e1,e2,e3,cells,c1,c2,c3⟩:=ihk (by omega)
       obtain⟨vs,r,y,hc,hy,g1,g2,g3⟩:=elemAt k (by omega)
       obtain⟨hvl,hvg⟩:=uX hc
       refine⟨es++[r],by simp[e1],fun r' hr'=>?_,fun i r' d hi hd=>?_,cells++vs,by simp[c1,hvl,Nat.add_mul],?_,fun j c hj=>?_⟩
       ·rcases List.mem_append.1 hr' with h1|h1
        ·exact e2 r' h1
        ·simp only[List.mem_singleton] at h1
         subst h1
         exact⟨by rw[g1.length,hvl],g2⟩
       ·rcases cR hi with h1|⟨h1,rfl⟩
        ·exact e3 i r' d h1 hd
        ·rw[h1,e1,List.getElem?_map,hy] at hd
         simp only[Option.map_some,Option.some.injEq] at hd
         subst hd
         exact g3
       ·rw[List.flatten_append]
        simpa using c2.append g1
       ·rcases Nat.lt_or_ge j cells.length with h1|h1
        ·rw[List.getElem?_append_left h1] at hj
         exact c3 j c hj
        ·rw[List.getElem?_append_right h1] at hj
         have hjl:j - cells.length<P.cellsOf e:=by
          have:=(List.getElem?_eq_some_iff.1 hj).1
          omega
         have h2:=hvg _ hjl
         rw[hj,Addr.dh,Addr.dh] at h2
         rw[show off+j=off+k * P.cellsOf e+(j - cells.length) by omega]
         exact h2
     obtain⟨es,e1,e2,e3,cells,c1,c2,c3⟩:=rows len (Nat.le_refl _)
     have hall:es.flatten.all AV.bu=true:=by
      rw[List.all_flatten]
      simp only[List.all_eq_true]
      intro r hr
      have:=(e2 r hr).2
      simpa using this
     refine⟨[.list .held (P.cellsOf e) es],.cons _ _ _ _ (.list .held (P.cellsOf e) es g off len cap cells e1.symm (fun r hr=>(e2 r hr).1) c2 c3 ⟨hlc,trivial⟩ hall) .nil,rfl,?_⟩
     exact .list hu .held es (elems.map (·.1)) (rest.map (·.1)) (.inl rfl) (by omega) (by simp[e1,hel]) e3 (fun r hr=>(e2 r hr).1)
  ·rename_i fs hu
   rw[Bool.and_eq_true,List.all_eq_true] at hok
   obtain⟨htile,hall⟩:=hok
   obtain⟨ys,m,hm,rfl,hcl,hyl,hat⟩:=DataW.trod_struct hu h
   have hm:m=fuel:=by omega
   subst hm
   have fld:∀(i:Nat) (f:Field),fs[i]?=some f->∃r y,ys[i]?=some y/\ao (aB.init W) r ((cs.drop f.offset).take (P.cellsOf f.type))/\r.all AV.bu=true/\Has P f.type r y.1:=by
    intro i f hf
    have h1:=hat i f hf
    have hlt:i<ys.length:=by rw[hyl];exact(Array.getElem?_eq_some_iff.1 hf).1
    rw[List.getElem?_eq_getElem hlt] at h1
    obtain⟨r,g1,g2,g3⟩:=ih f.type _ _ h1 (hall f (by
     obtain⟨hi,rfl⟩:=Array.getElem?_eq_some_iff.1 hf
     exact Array.mem_toList_iff.2 (Array.getElem_mem hi)))
    exact⟨r,_,List.getElem?_eq_getElem hlt,g1,g2,g3⟩
   have build:∀(l:List Field) (i off:Nat),(∀j f,l[j]?=some f->fs[i+j]?=some f)->uW P off l (P.cellsOf t)=true->off<=cs.length->
    ∃xs,ao (aB.init W) xs (cs.drop off)/\xs.all AV.bu=true/\∀j f,l[j]?=some f->off<=f.offset/\∃r y,ys[i+j]?=some y/\(xs.drop (f.offset - off)).take (P.cellsOf f.type)=r/\Has P f.type r y.1:=by
    intro l
    induction l with
    |nil=>
     intro i off _ ht _
     have hoff:off=P.cellsOf t:=Nat.eq_of_beq_eq_true ht
     refine⟨[],?_,rfl,fun j f hj=>by simp at hj⟩
     rw[hoff,<-hcl,List.drop_length]
     exact .nil
    |cons f l ihl=>
     intro i off hl ht hle
     rw[uW,Bool.and_eq_true] at ht
     have ho:f.offset=off:=Nat.eq_of_beq_eq_true ht.1
     obtain⟨r,y,hy,g1,g2,g3⟩:=fld i f (by simpa using hl 0 f rfl)
     have hlen2:off+P.cellsOf f.type<=cs.length:=by
      rw[hcl]
      have:∀(l:List Field) (o:Nat),uW P o l (P.cellsOf t)=true->o<=P.cellsOf t:=by
       intro l
       induction l with
       |nil=>intro o h;exact Nat.le_of_eq (Nat.eq_of_beq_eq_true h)
       |cons f l ih=>intro o h;rw[uW,Bool.and_eq_true] at h;exact Nat.le_trans (Nat.le_add_right _ _) (ih _ h.2)
      exact this l _ ht.2
     obtain⟨xs,x1,x2,x3⟩:=ihl (i+1) (off+P.cellsOf f.type) (fun j f' hj=>by
      have:=hl (j+1) f' (by simpa using hj)
      rwa [show i+(j+1)=i+1+j by omega] at this) ht.2 hlen2
     rw[ho] at g1
     have hrl:r.length=P.cellsOf f.type:=by rw[g1.length];simp;omega
     refine⟨r++xs,?_,by rw[List.all_append,g2,x2];rfl,fun j f' hj=>?_⟩
     ·have:=g1.append x1
      rw[<-List.drop_drop,List.take_append_drop] at this
      exact this
     ·cases j with
      |zero=>
       simp only[List.getElem?_cons_zero,Option.some.injEq] at hj
       subst hj
       refine⟨by omega,r,y,hy,?_,g3⟩
       rw[ho,Nat.sub_self,List.drop_zero,<-hrl,List.take_left]
      |succ j=>
       obtain⟨hge,r',y',hy',hr',hh⟩:=x3 j f' (by simpa using hj)
       refine⟨by omega,r',y',by rw[show i+(j+1)=i+1+j by omega];exact hy',?_,hh⟩
       rw[show f'.offset - off=r.length+(f'.offset - (off+P.cellsOf f.type)) by omega,<-List.drop_drop,List.drop_left]
       exact hr'
   obtain⟨xs,x1,x2,x3⟩:=build fs.toList 0 0 (fun j f hj=>by simpa using hj) htile (Nat.zero_le _)
   rw[List.drop_zero] at x1
   refine⟨xs,x1,x2,.struct hu xs (ys.map (·.1)) (by rw[x1.length,hcl]) (by simp[hyl]) fun i f d hf hd=>?_⟩
   obtain⟨-,r,y,hy,hr,hh⟩:=x3 i f (by simpa using hf)
   rw[Nat.zero_add] at hy
   rw[List.getElem?_map,hy] at hd
   simp only[Option.map_some,Option.some.injEq] at hd
   subst hd
   rw[Nat.sub_zero] at hr
   rw[hr];exact hh
  ·rename_i m e hu
   rw[Bool.and_eq_true] at hok
   have hsz:P.cellsOf t=m * P.cellsOf e:=Nat.eq_of_beq_eq_true hok.1
   obtain⟨ys,fu,hfu,rfl,hcl,hyl,hat⟩:=DataW.trod_array hu h
   have hfu:fu=fuel:=by omega
   subst hfu
   have rows:∀k,k<=m->∃xs,ao (aB.init W) xs (cs.take (k * P.cellsOf e))/\xs.all AV.bu=true/\∀i,i<k->∃y,ys[i]?=some y/\Has P e ((xs.drop (i * P.cellsOf e)).take (P.cellsOf e)) y.1:=by
    intro k
    induction k with
    |zero=>intro _;exact⟨[],by simp;exact .nil,rfl,fun i hi=>absurd hi (Nat.not_lt_zero i)⟩
    |succ k ihk=>
     intro hk
     obtain⟨xs,x1,x2,x3⟩:=ihk (by omega)
     have h1:=hat k (by omega)
     rw[List.getElem?_eq_getElem (by omega:k<ys.length)] at h1
     obtain⟨r,g1,g2,g3⟩:=ih e _ _ h1 hok.2
     have hlen:(k+1) * P.cellsOf e<=cs.length:=by rw[hcl,hsz];exact Nat.mul_le_mul_right _ hk
     have hxl:xs.length=k * P.cellsOf e:=by rw[x1.length,List.length_take];rw[Nat.add_mul] at hlen;omega
     have hrl:r.length=P.cellsOf e:=by rw[g1.length];simp;rw[Nat.add_mul] at hlen;omega
     refine⟨xs++r,?_,by rw[List.all_append,x2,g2];rfl,fun i hi=>?_⟩
     ·have:=x1.append g1
      rwa [<-List.take_add,<-Nat.succ_mul] at this
     ·rcases Nat.lt_or_ge i k with h2|h2
      ·obtain⟨y,hy,hh⟩:=x3 i h2
       refine⟨y,hy,?_⟩
       have h3:(i+1) * P.cellsOf e<=k * P.cellsOf e:=Nat.mul_le_mul_right _ h2
       rw[Nat.add_mul] at h3
       rw[List.drop_append_of_le_length (by omega),List.take_append_of_le_length (by simp;omega)]
       exact hh
      ·have:i=k:=by omega
       subst this
       refine⟨_,List.getElem?_eq_getElem (by omega),?_⟩
       rw[<-hxl,List.drop_left,<-hrl,List.take_length]
       exact g3
   obtain⟨xs,x1,x2,x3⟩:=rows m (Nat.le_refl _)
   rw[<-hsz,<-hcl,List.take_length] at x1
   refine⟨xs,x1,x2,.array hu xs (ys.map (·.1)) (by rw[x1.length,hcl]) (by simp[hyl]) fun i d hd=>?_⟩
   have hi:i<m:=by
    have:=(List.getElem?_eq_some_iff.1 hd).1
    simpa [hyl] using this
   obtain⟨y,hy,hh⟩:=x3 i hi
   rw[List.getElem?_map,hy] at hd
   simp only[Option.map_some,Option.some.injEq] at hd
   subst hd
   exact hh
  ·cases hok
theorem arg_ofS{S:List TypeId}(hS:okSet P S=true){t:TypeId}{v:Value}{d:DataW H}{p:List MemPlace}{base:Nat}(h:DataW.Trod enc P W 0 (fun _=>true) true t v d p)(hv:Value.okWide P W .any base t v)(hin:S.contains t=true):
 ∃x,aI (aB.init W) x v/\jy P t x d:=by
 obtain⟨fuel,hf⟩:=h
 obtain⟨xs,h1,h2,h3⟩:=trod_hasS hS fuel t _ _ hf hin
 have single:∀c,v.cells.toList=[c]->v=c->(∀cs,P.underlying t≠some (.struct cs))->(∀m e,P.underlying t≠some (.array m e))->∃x,aI (aB.init W) x v/\jy P t x d:=by
  intro c hc hvc hns hna
  rw[hc] at h1
  cases h1 with
  |cons x _ _ _ hx hs=>
   cases hs
   refine⟨x,hvc ▸ hx,?_⟩
   unfold jy
   split
   ·rename_i hu;exact absurd hu (hns _)
   ·rename_i hu;exact absurd hu (hna _ _)
   ·exact h3
 have hok:okLoc P S t=true:=List.all_eq_true.1 hS t (by simpa using hin)
 unfold okLoc at hok
 unfold Value.okWide at hv
 split at hok
 ·rename_i hu
  rw[hu] at hv
  simp only[Cell.okWide,Cell.ok,hu] at hv
  cases v<;>simp at hv
  exact single _ rfl rfl (by rw[hu];simp) (by rw[hu];simp)
 ·rename_i k hu
  rw[hu] at hv
  simp only[Cell.okWide,Cell.ok,hu] at hv
  cases v<;>simp at hv
  exact single _ rfl rfl (by rw[hu];simp) (by rw[hu];simp)
 ·rename_i hu
  rw[hu] at hv
  simp only[Cell.okWide,Cell.ok,hu] at hv
  cases v<;>simp at hv
  exact single _ rfl rfl (by rw[hu];simp) (by rw[hu];simp)
 ·rename_i e hu
  rw[hu] at hv
  simp only[Cell.okWide,Cell.ok,hu] at hv
  cases v<;>simp at hv
  exact single _ rfl rfl (by rw[hu];simp) (by rw[hu];simp)
 ·rename_i fs hu
  rw[hu] at hv
  obtain⟨cs,rfl,-,-⟩:=hv
  exact⟨.agg xs,.agg _ _ h1,by unfold jy;rw[hu];exact⟨xs,rfl,h3⟩⟩
 ·rename_i m e hu
  rw[hu] at hv
  obtain⟨cs,rfl,-,-⟩:=hv
  exact⟨.agg xs,.agg _ _ h1,by unfold jy;rw[hu];exact⟨xs,rfl,h3⟩⟩
 ·cases hok
theorem args_ofS{S:List TypeId}(hS:okSet P S=true){base:Nat}:∀{ts:List TypeId} {vs:List Value} {ds:List (DataW H)} {p:List MemPlace},DataW.TrodAll enc P W 0 (fun _=>true) true ts vs ds p->
 (∀(j:Nat) t v,ts[j]?=some t->vs[j]?=some v->Value.okWide P W .any base t v)->(∀t∈ts,S.contains t=true)->∃xs,ao (aB.init W) xs vs/\jF P ts xs ds:=by
 intro ts
 induction ts with
 |nil=>
  intro vs ds p h _ _
  obtain⟨rfl,rfl,rfl⟩:=trodAll_nil h
  exact⟨[],.nil,trivial⟩
 |cons t ts ih=>
  intro vs ds p h hv hok
  obtain⟨v,vs',d,ds',p1,q1,rfl,rfl,rfl,h1,h2⟩:=trodAll_cons h
  obtain⟨x,g1,g2⟩:=arg_ofS hS h1 (hv 0 t v rfl rfl) (hok t List.mem_cons_self)
  obtain⟨xs,g3,g4⟩:=ih h2 (fun j t v ht hv'=>hv (j+1) t v (by simpa using ht) (by simpa using hv')) (fun t ht=>hok t (List.mem_cons_of_mem _ ht))
  exact⟨x::xs,.cons _ _ _ _ g1 g3,g2,g4⟩
structure LawFactsS(P:Program)(S:List TypeId)(f:FuncId)(fn:Func)(tb:TypeId):Prop where
 func:P.funcs[f]?=some fn
 laid:laidOutB P=true
 set:okSet P S=true
 tys:∀t∈fn.params.toList,S.contains t=true/\P.readableRec t=true/\t<P.types.size
 res:fn.resultTypes=#[tb]
 bool:P.underlying tb=some .bool
variable {G:Nat->Option (List AV)} {prims:FuncId->Option (List AV->ae->Option (AV × ae))}
theorem law_contractS{S:List TypeId}(hp:Prog P){f:FuncId}{fn:Func}{tb:TypeId}(F:LawFactsS P S f fn tb){s:ChangeSpec}{apart fresh handsOn again:Bool}{base:Nat}{args:Array Value}{ds gs:List (DataW H)}{before:List MemPlace}
 (hvars:s.vars=[]) (hspec:∀ds:List (DataW H),ds.length=fn.params.size->(s.fn H ds).results=[.lit (.bool true)]/\(s.fn H ds).args=ds/\(s.fn H ds).vars=[])
 (hval:∀(j:Nat) t v,fn.params[j]?=some t->args[j]?=some v->Value.okWide P W .any base t v)
 (hW:DataW.Whole enc P fn.params.toList s.vars apart W args.toList ds gs before)
 (hG:∀g cs,G g=some cs->∃cells,ao (aB.init W) cs cells/\∀(j:Nat) (c:Value),cells[j]?=some c->W.cell? ⟨g,j,none⟩=some c)
 (hprim:∀g p,prims g=some p->jb P G W g p)
 (hlaw:∀xs:List AV,jF P fn.params.toList xs ds->∃h',(whole P G prims).call f xs ae.init=some (.ret (.v (.bool true)),h')):
 Calls P f args W fun e W'=>∃v,e= .returned v/\s.post enc P fn apart fresh handsOn again W args v W':=by
 have hW':=hW
 obtain⟨p,q,hA,hV,hbef,hfz,hnd⟩:=hW
 have hV0:DataW.TrodVars enc P W (fun _=>true) [] gs q:=hvars ▸ hV
 obtain⟨rfl,rfl⟩:=trodVars_none hV0
 rw[List.append_nil] at hbef
 subst hbef
 obtain⟨xs,hxs,hall⟩:=args_ofS F.set hA (fun j t v ht hv=>hval j t v (by simpa using ht) (by simpa using hv)) (fun t ht=>(F.tys t ht).1)
 obtain⟨h',hcall⟩:=hlaw xs hall
 have hsim:jv P G W (aB.init W) ae.init W:=IM W hG
 obtain⟨-,hc⟩:=(su hp hprim).call f xs ae.init _ _ hcall
 intro cs
 obtain⟨K',w',fr,le,s',hst,hfr,v,hx,hl⟩:=hc (aB.init W) W args hxs hsim cs
 have hv:=hx.bm.1
 subst hv
 have hb:Below W.heap.size W w':=by
  have:=s'.old
  rw[le.base] at this
  exact this
 have hlen:ds.length=fn.params.size:=by
  have:∀{ts:List TypeId} {xs:List AV} {ds:List (DataW H)},jF P ts xs ds->ds.length=ts.length:=by
   intro ts
   induction ts with
   |nil=>intro xs ds h;cases xs<;>cases ds<;>simp[jF] at h ⊢
   |cons t ts ih=>intro xs ds h;cases xs<;>cases ds<;>simp[jF] at h ⊢;exact ih h.2
  simpa using this hall
 obtain⟨r1,r2,r3⟩:=hspec ds hlen
 refine⟨.returned (.bool true),w',fr,⟨_,rfl,?_⟩,hst,hfr,hl⟩
 refine CV (pa:=before) (pv:=[]) hW' (fun b sp hd=>?_) (fun sp hsp=>?_) (fun sp _=>?_) (by simp) hb (ok_one F.res rfl (okWide_bool_mk F.bool _))
 ·rw[F.res,List.append_nil,r1]
  exact trodAll_cons_mk (shut_bool F.bool _) trodAll_mk0
 ·rw[List.append_nil,r2]
  exact FQ F.laid hA (fun t ht=>(F.tys t ht).2) (fun x hx=>hb.same (hW'.lt x hx)) hsp
 ·rw[hvars,List.append_nil,r3]
  exact rfl
end
end Go.AE
end
