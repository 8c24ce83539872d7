/-
  The engine, part 4: each operation but the calls.
-/
import Derived.Test.YtnfciiiohoafaaaGreatDoorPA
import Derived.Laws.MakeOwn
import Derived.Laws.Strings
import Derived.Laws.Append
import Derived.Lib.AppendZeros
import Derived.Defers
set_option linter.unusedSimpArgs false
set_option linter.unusedVariables false
set_option linter.constructorNameAsVariable false
section
namespace Go.AE
open Go.RowKit (Below)
section
variable {P:Program} {K:aB} {G:Nat->Option (List AV)} {ok:FuncId->Nat->Code->Bool} {w0 w:World} {h:ae}
def Yields(K:aB)(G:Nat->Option (List AV))(ok:FuncId->Nat->Code->Bool)(w0:World)(x:AV)(h':ae)(r:Result Next):Prop:=
 ∃K' v w',K.Le K'/\Sim K' G ok w0 h' w'/\aI K' x v/\(r= .ok (.value v) w'∨(r= .ok .skip w'/\v=undef))
theorem Yields.dT(s:Sim K G ok w0 h w){x:AV}{v:Value}(hx:aI K x v){r:Result Next}(hr:r= .ok (.value v) w):Yields K G ok w0 x h r:=
 ⟨K,v,w,.refl K,s,hx,.inl hr⟩
theorem Fc(off:Nat):∀(l:List Value) (i:Nat) (cells:Array Value),off+i+l.length<=cells.size->
 ((l.zipIdx i).foldl (fun cs p=>cs.setIfInBounds (off+p.2) p.1) cells).toList=cells.toList.take (off+i)++l++cells.toList.drop (off+i+l.length):=by
 intro l
 induction l with
 |nil=>intro i cells _;simp
 |cons v rest ih=>
  intro i cells hl
  simp only[List.length_cons] at hl
  have hi:off+i<cells.size:=by omega
  simp only[List.zipIdx_cons,List.foldl_cons]
  rw[ih (i+1) _ (by simp;omega)]
  simp only[Array.toList_setIfInBounds,List.length_cons]
  have hlen:off+i<cells.toList.length:=by simpa using hi
  rw[List.set_eq_take_append_cons_drop,if_pos hlen]
  rw[show off+(i+1)=off+i+1 by omega,show off+i+(rest.length+1)=off+i+1+rest.length by omega]
  rw[List.take_append,List.drop_append]
  have h1:(cells.toList.take (off+i)).length=off+i:=by simp;omega
  rw[h1]
  have h2:(cells.toList.take (off+i)).take (off+i+1)=cells.toList.take (off+i):=List.take_of_length_le (by omega)
  have h3:(cells.toList.take (off+i)).drop (off+i+1+rest.length)=[]:=List.drop_of_length_le (by omega)
  rw[h2,h3]
  have h4:off+i+1 - (off+i)=1:=by omega
  have h5:off+i+1+rest.length - (off+i)=rest.length+1:=by omega
  rw[h4,h5]
  simp
theorem pJ(f:Array Value->Value × Nat->Array Value)(vs cells:Array Value):vs.zipIdx.foldl f cells=(vs.toList.zipIdx 0).foldl f cells:=by
 rw[<-Array.foldl_toList,Array.toList_zipIdx]
theorem wS{place:Nat->Option (Nat × Nat)}:∀{parts:List (Nat × AV)} {cells out:List AV},oh place cells parts=some out->cells.all AV.bu=true->out.all AV.bu=true:=by
 intro parts
 induction parts with
 |nil=>intro cells out he hc;simp[oh] at he;subst he;exact hc
 |cons p rest ih=>
  intro cells out he hc
  simp only[oh] at he
  split at he
  ·rename_i off size cs hp hcs
   split at he
   ·refine ih he (s7 off hc ?_)
    unfold AV.aC at hcs
    split at hcs
    ·split at hcs
     ·injection hcs with hcs;subst hcs;assumption
     ·cases hcs
    ·cases hcs
    ·cases hcs
    ·rename_i h1 h2 h3
     injection hcs with hcs;subst hcs
     have hx:p.2.bu=true:=by
      cases hq:p.2<;>first|rfl|exact absurd hq (h1 _) |exact absurd hq (h2 _) |exact absurd hq h3
     simp[hx]
   ·cases he
  ·cases he
theorem qO{place:Nat->Option (Nat × Nat)}:∀{parts:List (Nat × AV)} {cells out:List AV} {parts':List (Nat × Value)} {cells':Array Value},
 oh place cells parts=some out->ao K cells cells'.toList->(parts'.map (·.1)=parts.map (·.1))->ao K (parts.map (·.2)) (parts'.map (·.2))->
 ∃out',Instr.fill place cells' parts'=some out'/\ao K out out'.toList:=by
 intro parts
 induction parts with
 |nil=>
  intro cells out parts' cells' he hc h1 h2
  have:parts'=[]:=by simpa using h1
  subst this
  simp[oh] at he;subst he
  exact⟨cells',rfl,hc⟩
 |cons p rest ih=>
  obtain⟨i,x⟩:=p
  intro cells out parts' cells' he hc h1 h2
  cases parts' with
  |nil=>simp at h1
  |cons p' rest'=>
   obtain⟨i',v⟩:=p'
   simp only[List.map_cons,List.cons.injEq] at h1
   obtain⟨rfl,h1⟩:=h1
   simp only[List.map_cons] at h2
   cases h2 with
   |cons _ _ _ _ hx hs=>
    simp only[oh] at he
    split at he
    ·rename_i off size cs hp hcs
     split at he
     ·rename_i hlen
      obtain⟨r1,_⟩:=nh hcs hx
      have hsz:v.cells.size=size:=by rw[<-hlen.1,r1.length];simp
      have hsz2:cells'.size=cells.length:=by rw[hc.length];simp
      have hfold:=Fc off v.cells.toList 0 cells' (by simp;omega)
      obtain⟨out',q1,q2⟩:=ih (cells':=v.cells.zipIdx.foldl (fun cs (c,j)=>cs.setIfInBounds (off+j) c) cells') he (by
       rw[pJ,hfold]
       simpa using uy off hc r1) h1 hs
      refine⟨out',?_,q2⟩
      simp only[Instr.fill,hp]
      rw[if_neg (by simp;omega)]
      exact q1
     ·cases he
    ·cases he
theorem r8{ρ:Operand->AV}{ρ':Operand->Value}(hρ:∀x,aI K (ρ x) (ρ' x))(parts:Array (Nat × Operand)):
 ((parts.map fun p=>(p.1,ρ' p.2)).toList.map (·.1)=(parts.toList.map fun p=>(p.1,ρ p.2)).map (·.1))/\
 ao K ((parts.toList.map fun p=>(p.1,ρ p.2)).map (·.2)) ((parts.map fun p=>(p.1,ρ' p.2)).toList.map (·.2)):=by
 simp only[Array.toList_map,List.map_map]
 exact⟨rfl,ao.map_mk fun p _=>hρ p.2⟩
theorem kU{t:TypeId}{zero:List AV}(hz:(ej P t).bind AV.aC=some zero)(w:World):∃v,(zeroValue t).run P w= .ok v w/\ao K zero v.cells.toList/\zero.all AV.bu=true:=by
 simp only[Option.bind_eq_some_iff] at hz
 obtain⟨z,h1,h2⟩:=hz
 obtain⟨v,h3,rfl⟩:=ux h1 w
 obtain⟨r1,r2⟩:=nh h2 (oZ (K:=K) v)
 exact⟨v,h3,r1,r2⟩
theorem Cj(fields:Array Field)(hall:∀f∈fields.toList,(P.info? f.type).isSome=true)(w:World):
 ∃places:Array (Nat × Nat),(fields.mapM (m:=Sem) fun(f:Field)=>do pure (f.offset,<-sizeOf f.type)).run P w= .ok places w/\∀i,places[i]?=placesOf P fields i:=by
 have key:∀(l:List Field),(∀f∈l,(P.info? f.type).isSome=true)->
  (l.mapM (m:=Sem) fun(f:Field)=>do pure (f.offset,<-sizeOf f.type)).run P w= .ok (l.map fun f=>(f.offset,(bF P f.type).getD 0)) w:=by
  intro l
  induction l with
  |nil=>intro _;rfl
  |cons f l ih=>
   intro hl
   have hf:=hl f (by simp)
   obtain⟨i,hi⟩:=Option.isSome_iff_exists.1 hf
   have hs:bF P f.type=some i.size:=by simp[bF,hi]
   rw[List.mapM_cons,Sem.run_bind,Sem.run_bind,dw hs]
   simp only[Result.andThen_ok,Sem.run_pure,Sem.run_bind,ih (fun f hf=>hl f (by simp[hf])),List.map_cons,hs,Option.getD_some]
 refine⟨(fields.toList.map fun f=>(f.offset,(bF P f.type).getD 0)).toArray,?_,fun i=>?_⟩
 ·rw[Array.mapM_eq_mapM_toList,Sem.run_map,key fields.toList hall]
  rfl
 ·simp only[List.getElem?_toArray,List.getElem?_map,Array.getElem?_toList,placesOf]
  cases hf:fields[i]? with
  |none=>rfl
  |some f=>
   have hm:f∈fields.toList:=by simpa using Array.mem_of_getElem? hf
   obtain⟨i,hi⟩:=Option.isSome_iff_exists.1 (hall f hm)
   simp[bF,hi]
theorem Fe{t:TypeId}{parts:Array (Nat × Operand)}{ρ:Operand->AV}{ρ':Operand->Value}(hρ:∀x,aI K (ρ x) (ρ' x)){x:AV}
 (he:fj P t (parts.toList.map fun p=>(p.1,ρ p.2))=some x) (w:World):∃v,(Instr.build t (parts.map fun p=>(p.1,ρ' p.2))).run P w= .ok v w/\aI K x v:=by
 obtain⟨p1,p2⟩:=r8 hρ parts
 unfold fj at he
 split at he
 ·rename_i fields zero hu hz
  obtain⟨z,hz1,hz2,_⟩:=kU (K:=K) hz w
  split at he
  ·rename_i hall
   simp only[Option.map_eq_some_iff] at he
   obtain⟨out,ho,rfl⟩:=he
   obtain⟨places,hp1,hp2⟩:=Cj (P:=P) fields (fun f hf=>Array.all_eq_true'.1 hall f (by simpa using hf)) w
   have hpl:placesOf P fields=(places[·]?):=by funext i;exact(hp2 i).symm
   rw[hpl] at ho
   obtain⟨out',q1,q2⟩:=qO ho hz2 p1 p2
   exact⟨.agg out',by simp only[Instr.build,Sem.run_bind,hz1,Result.andThen_ok,aH hu,hp1,q1,Sem.run_pure],.agg _ _ q2⟩
  ·cases he
 ·rename_i n elem zero hu hz
  obtain⟨z,hz1,hz2,_⟩:=kU (K:=K) hz w
  split at he
  ·rename_i size hs
   simp only[Option.map_eq_some_iff] at he
   obtain⟨out,ho,rfl⟩:=he
   obtain⟨out',q1,q2⟩:=qO ho hz2 p1 p2
   exact⟨.agg out',by simp only[Instr.build,Sem.run_bind,hz1,Result.andThen_ok,aH hu,dw hs,q1,Sem.run_pure],.agg _ _ q2⟩
  ·cases he
 ·cases he
theorem pU{sz:Nat}:∀{parts:List (Nat × AV)} {rows out:List (List AV)},(∀r∈rows,r.length=sz)->my sz rows parts=some out->
 oh (fun i=>some (i * sz,sz)) rows.flatten parts=some out.flatten/\(∀r∈out,r.length=sz)/\out.length=rows.length:=by
 intro parts
 induction parts with
 |nil=>intro rows out hr he;simp[my] at he;subst he;exact⟨rfl,hr,rfl⟩
 |cons p rest ih=>
  obtain⟨i,x⟩:=p
  intro rows out hr he
  simp only[my] at he
  split at he
  ·rename_i cs hcs
   split at he
   ·rename_i hlen
    have hr':∀r∈rows.set i cs,r.length=sz:=fun r hm=>by
     rcases List.mem_or_eq_of_mem_set hm with hm|rfl
     ·exact hr r hm
     ·exact hlen.1
    obtain⟨q1,q2,q3⟩:=ih hr' he
    have hfl:=a8 hr
    have hle:i * sz+sz<=rows.flatten.length:=by
     rw[hfl]
     have:(i+1) * sz<=rows.length * sz:=Nat.mul_le_mul_right _ hlen.2
     rw[Nat.add_mul] at this;omega
    have hset:(rows.set i cs).flatten=bI rows.flatten (i * sz) cs:=by
     clear q1 q2 q3 ih he hle hr'
     unfold bI
     rw[hlen.1]
     induction rows generalizing i with
     |nil=>simp at hlen
     |cons r rows ih2=>
      have hrl:r.length=sz:=hr r (by simp)
      cases i with
      |zero=>simp[<-hrl]
      |succ i=>
       have:=ih2 i (fun r hm=>hr r (by simp[hm])) ⟨hlen.1,by simpa using hlen.2⟩ (a8 (fun r hm=>hr r (by simp[hm])))
       simp only[List.set_cons_succ,List.flatten_cons,this]
       rw[show(i+1) * sz=r.length+i * sz by rw[hrl,Nat.add_mul];omega,List.take_append,List.drop_append]
       rw[List.take_of_length_le (show r.length<=r.length+i * sz by omega),List.drop_of_length_le (show r.length<=r.length+i * sz+sz by omega)]
       rw[show r.length+i * sz - r.length=i * sz by omega,show r.length+i * sz+sz - r.length=i * sz+sz by omega]
       simp
    refine⟨?_,q2,by rw[q3];simp⟩
    simp only[oh,hcs]
    rw[if_pos ⟨hlen.1,hle⟩,<-hset]
    exact q1
   ·cases he
  ·cases he
theorem fG(zero:Array Value)(n:Nat):((Array.range (n * zero.size)).map (zero[·%zero.size]!)).toList=(List.replicate n zero.toList).flatten:=by
 induction n with
 |zero=>simp
 |succ n ih=>
  rw[List.replicate_succ',List.flatten_append,<-ih]
  simp only[Array.toList_map,Array.toList_range,Nat.add_mul,Nat.one_mul,List.range_add,List.map_append,List.map_map,List.flatten_cons,List.flatten_nil,List.append_nil]
  congr 1
  apply List.ext_getElem
  ·simp
  ·intro i h1 h2
   have hlt:i<zero.size:=by simpa using h1
   simp[Nat.mod_eq_of_lt hlt,hlt]
theorem ao.eN{zero:List AV}{z:List Value}(hz:ao K zero z):∀n:Nat,ao K (List.replicate n zero).flatten (List.replicate n z).flatten
 |0=> .nil
 |n+1=>by
  simp only[List.replicate_succ,List.flatten_cons]
  exact hz.append (ao.eN hz n)
theorem iD{zero:List AV}(hz:zero.all AV.bu=true)(n:Nat):(List.replicate n zero).flatten.all AV.bu=true:=by
 rw[List.all_eq_true] at hz ⊢
 intro x hx
 simp only[List.mem_flatten,List.mem_replicate] at hx
 obtain⟨l,⟨_,rfl⟩,hx⟩:=hx
 exact hz x hx
theorem uA(s:Sim K G ok w0 h w){t:TypeId}{len:Nat}{parts:Array (Nat × Operand)}{ρ:Operand->AV}{ρ':Operand->Value}(hρ:∀x,aI K (ρ x) (ρ' x)){x:AV}
 (he:aN P t len (parts.toList.map fun p=>(p.1,ρ p.2))=some x):
 ∃K' v w',K.Le K'/\Sim K' G ok w0 h w'/\aI K' x v/\(Instr.buildSlice t len (parts.map fun p=>(p.1,ρ' p.2))).run P w= .ok v w':=by
 obtain⟨p1,p2⟩:=r8 hρ parts
 unfold aN at he
 split at he
 ·rename_i elem hu
  split at he
  ·rename_i size zero hs hz
   obtain⟨z,hz1,hz2,hz3⟩:=kU (K:=K) hz w
   split at he
   ·rename_i hc
    simp only[Option.map_eq_some_iff] at he
    obtain⟨out,ho,rfl⟩:=he
    obtain⟨f1,f2,f3⟩:=pU (fun r hr=>by rw[(List.mem_replicate.1 hr).2];exact hc.2.1) ho
    have hzs:z.cells.size=size:=by rw[<-hc.2.1,hz2.length];simp
    have hcells:((Array.range (len * size)).map (z.cells[·%z.cells.size]!)).toList=(List.replicate len z.cells.toList).flatten:=by rw[<-hzs];exact fG _ _
    obtain⟨out',q1,q2⟩:=qO (cells':=(Array.range (len * size)).map (z.cells[·%z.cells.size]!)) f1 (by rw[hcells];exact hz2.eN len) p1 p2
    obtain⟨le,s'⟩:=s.HR out' elem
    refine⟨_,.slice (some ⟨w.heap.size,0,none⟩) len len,_,le,s',?_,?_⟩
    ·refine .list .tight size out w.heap.size 0 len len out'.toList (by rw[f3];simp) f2 (q2.mono le) (fun j c hj=>?_) ⟨Nat.le_refl _,rfl⟩ (wS f1 (iD hz3 len))
     simp only[aB.tight,Nat.zero_add,if_true]
     simpa using hj
    ·by_cases h0:len * size=0
     ·have h00:len=0:=by
       rcases Nat.mul_eq_zero.1 h0 with h|h
       ·exact h
       ·omega
      subst h00
      simp only[Nat.zero_mul] at q1
      have e1:(Array.range 0).map (fun x=>(#[]:Array Value)[x%(#[]:Array Value).size]!)=(Array.range 0).map (z.cells[·%z.cells.size]!):=by simp
      simp only[Instr.buildSlice,Sem.run_bind,aH hu,Result.andThen_ok,dw hs,Nat.zero_mul]
      simp only[Nat.not_lt_zero,gt_iff_lt,if_false,Nat.reducePow,if_true,Sem.run_pure,Result.andThen_ok,e1,q1,newRow,Sem.run_bind,run_newObj]
     ·simp only[Instr.buildSlice,Sem.run_bind,aH hu,Result.andThen_ok,dw hs]
      rw[if_neg (by omega),if_neg h0]
      simp only[Sem.run_pure,Sem.run_bind,hz1,Result.andThen_ok,q1,newRow,run_newObj]
   ·cases he
  ·cases he
 ·cases he
theorem Ff(s:Sim K G ok w0 h w){t:TypeId}{cs:List AV}(hz:(ej P t).bind AV.aC=some cs):
 ∃K' v w',K.Le K'/\Sim K' G ok w0 (h.box cs).2 w'/\aI K' (h.box cs).1 v/\(Instr.alloc t true (.tuple #[])).run P w= .ok v w':=by
 obtain⟨z,hz1,hz2,hz3⟩:=kU (K:=K) hz w
 obtain⟨q1,q2⟩:=s.Cg t hz2 hz3
 exact⟨_,_,_,K.Cf _,q1,q2,by simp[Instr.alloc,hz1,newVar,newRow]⟩
theorem Lt(s:Sim K G ok w0 h w){t:TypeId}{x:AV}{cs:List AV}(hc:x.aC=some cs){c:Value}(hx:aI K x c):
 ∃K' v w',K.Le K'/\Sim K' G ok w0 (h.box cs).2 w'/\aI K' (h.box cs).1 v/\(Instr.box t c).run P w= .ok v w':=by
 obtain⟨r1,r2⟩:=nh hc hx
 obtain⟨q1,q2⟩:=s.Cg t r1 r2
 exact⟨_,_,_,K.Cf _,q1,q2,by simp[Instr.box,newVar,newRow]⟩
theorem v9(s:Sim K G ok w0 h w){t:TypeId}{l c x:AV}{h':ae}(he:eU P h t l c=some (x,h')){vl vc:Value}(hl:aI K l vl)(hc:aI K c vc):
 ∃K' v w',K.Le K'/\Sim K' G ok w0 h' w'/\aI K' x v/\(Instr.makeSlice t vl vc).run P w= .ok v w':=by
 unfold eU at he
 split at he
 ·rename_i elem kl l kc c hu
  obtain⟨rfl,_⟩:=hl.bm
  obtain⟨rfl,_⟩:=hc.bm
  split at he
  ·rename_i i zero hi hz
   obtain⟨z,hz1,hz2,hz3⟩:=kU (K:=K) hz w
   split at he
   ·rename_i hcond
    obtain⟨h1,h2,h3,h4,h5,h6⟩:=hcond
    injection he with he
    obtain⟨rfl,rfl⟩:=Prod.mk.inj he
    have hzero:i.zero=some z:=by
     simp only[zeroValue,Sem.run_bind,eM hi,Result.andThen_ok] at hz1
     cases hzz:i.zero with
     |none=>rw[hzz] at hz1;simp at hz1
     |some v=>rw[hzz] at hz1;simp at hz1;rw[hz1]
    have hzs:z.cells.size=i.size:=by rw[<-h6,hz2.length];simp
    have hrun:=run_make (P:=P) w t elem i z hu hi hzero kl kc l c h1 h2 h4 (by omega)
    have hcells:(madeCells z.cells (c.toNat * i.size)).toList=(List.replicate c.toNat z.cells.toList).flatten:=by
     rw[<-hzs];exact fG _ _
    obtain⟨q1,q2⟩:=s.Cg (cells:=madeCells z.cells (c.toNat * i.size)) elem (by rw[hcells];exact hz2.eN _) (iD hz3 _)
    cases q2 with
    |box _ _ _ hb=>exact⟨_,_,_,K.Cf _,q1,.arr _ _ _ _ _ _ _ hb (by omega) (Nat.le_refl _) (.inl rfl) (.inl rfl),hrun⟩
   ·cases he
  ·cases he
 ·cases he
theorem dt{hi:Nat}{x:Option AV}{d n:Nat}(he:bX hi x d=some n){x':Option Value}(hx:∀a,x=some a->∃c,x'=some c/\aI K a c)(hn:x=none->x'=none)(w:World):
 (x'=none/\n=d/\x=none)∨(∃c,x'=some c/\(∀(top:Nat) (code:Go.BoundsCode),hi<=top->(Instr.sliceBound c top code).run P w= .ok n w)/\n<=hi/\x.isSome=true):=by
 unfold bX at he
 split at he
 ·injection he with he;subst he;exact .inl ⟨hn rfl,rfl,rfl⟩
 ·rename_i _ k m
  split at he
  ·rename_i hc
   injection he with he;subst he
   obtain⟨c,rfl,hv⟩:=hx _ rfl
   obtain⟨rfl,_⟩:=hv.bm
   refine .inr ⟨_,rfl,fun top code ht=>?_,by omega,rfl⟩
   have:m<=(top:Int):=by omega
   simp[Instr.sliceBound,asIntOf,hc.1,this]
  ·cases he
 ·cases he
theorem iY{lo hi mx:Option AV}{lo' hi' mx':Option Value}(hlo:∀a,lo=some a->∃c,lo'=some c/\aI K a c)(nlo:lo=none->lo'=none)
 (hhi:∀a,hi=some a->∃c,hi'=some c/\aI K a c) (nhi:hi=none->hi'=none) (hmx:∀a,mx=some a->∃c,mx'=some c/\aI K a c) (nmx:mx=none->mx'=none)
 {top cap len m hb l:Nat} (isSlice:Bool) (e1:bX top mx top=some m) (e2:bX m hi len=some hb) (e3:bX hb lo 0=some l)
 (hlen:len<=cap) (htop:top<=cap) (hmh:mx.isSome=true->hi.isSome=true) (w:World):
 ∃m',(Instr.sliceBounds isSlice len cap lo' hi' mx').run P w= .ok (l,hb,m') w/\(mx=none->m'=cap/\m=top)/\(mx.isSome=true->m'=m)/\l<=hb/\(hi=none->hb=len)/\hb<=m'/\(hi.isSome=true->hb<=m):=by
 rcases dt (P:=P) e1 hmx nmx w with⟨rfl,rfl,rfl⟩|⟨c1,rfl,q1,hm1,hs1⟩
 ·rcases dt (P:=P) e2 hhi nhi w with⟨rfl,rfl,rfl⟩|⟨c2,rfl,q2,hm2,hs2⟩
  ·rcases dt (P:=P) e3 hlo nlo w with⟨rfl,rfl,rfl⟩|⟨c3,rfl,q3,hm3,_⟩
   ·exact⟨cap,by simp[Instr.sliceBounds],fun _=>⟨rfl,rfl⟩,(by simp),Nat.zero_le _,fun _=>rfl,hlen,by simp⟩
   ·have q3':=fun code=>q3 hb code (Nat.le_refl _)
    exact⟨cap,by simp[Instr.sliceBounds,q3'],fun _=>⟨rfl,rfl⟩,(by simp),hm3,fun _=>rfl,hlen,by simp⟩
  ·have q2':=fun code=>q2 cap code (by omega)
   rcases dt (P:=P) e3 hlo nlo w with⟨rfl,rfl,rfl⟩|⟨c3,rfl,q3,hm3,_⟩
   ·exact⟨cap,by simp[Instr.sliceBounds,q2'],fun _=>⟨rfl,rfl⟩,(by simp),Nat.zero_le _,fun e=>by simp[e] at hs2,by omega,fun _=>hm2⟩
   ·have q3':=fun code=>q3 hb code (Nat.le_refl _)
    exact⟨cap,by simp[Instr.sliceBounds,q2',q3'],fun _=>⟨rfl,rfl⟩,(by simp),hm3,fun e=>by simp[e] at hs2,by omega,fun _=>hm2⟩
 ·have hs2:=hmh hs1
  have q1':=fun code=>q1 cap code htop
  rcases dt (P:=P) e2 hhi nhi w with⟨_,_,rfl⟩|⟨c2,rfl,q2,hm2,_⟩
  ·simp at hs2
  ·have q2':=fun code=>q2 m code (Nat.le_refl _)
   rcases dt (P:=P) e3 hlo nlo w with⟨rfl,rfl,rfl⟩|⟨c3,rfl,q3,hm3,_⟩
   ·exact⟨m,by simp[Instr.sliceBounds,q1',q2'],fun e=>by simp[e] at hs1,fun _=>rfl,Nat.zero_le _,fun e=>by simp[e] at hs2,hm2,fun _=>hm2⟩
   ·have q3':=fun code=>q3 hb code (Nat.le_refl _)
    exact⟨m,by simp[Instr.sliceBounds,q1',q2',q3'],fun e=>by simp[e] at hs1,fun _=>rfl,hm3,fun e=>by simp[e] at hs2,hm2,fun _=>hm2⟩
theorem qm{ρ:Operand->AV}{ρ':Operand->Value}(hρ:∀x,aI K (ρ x) (ρ' x))(o:Option Operand):
 (∀a,o.map ρ=some a->∃c,o.map ρ'=some c/\aI K a c)/\(o.map ρ=none->o.map ρ'=none):=by
 cases o with
 |none=>exact⟨fun a h=>(by cases h),fun _=>rfl⟩
 |some x=>exact⟨fun a h=>⟨_,rfl,(by injection h with h;subst h;exact hρ x)⟩,fun h=>(by cases h)⟩
theorem HS{k:Tok}{sz:Nat}{es:List (List AV)}{g off cap size l hb m':Nat}{toEnd limited:Bool}
 (hv:aI K (.list k sz es) (.slice (some ⟨g,off,none⟩) es.length cap)) (hsz:size=sz∨es=[]) (hl:l<=hb) (hh:hb<=es.length) (hm:hb<=m') (hcap:m'<=cap)
 (hend:toEnd=true->hb=es.length/\m'=cap) (hlim:limited=true->m'=hb):
 aI K (.list (gO k toEnd limited (hb - l)) sz ((es.take hb).drop l)) (.slice (some (if m'=l then ⟨g,off,none⟩ else (⟨g,off,none⟩:Addr).add (l * size))) (hb - l) (m' - l)):=by
 cases hv with
 |eK=>
  have hb0:hb=0:=by simpa using hh
  subst hb0
  have l0:l=0:=by omega
  subst l0
  have m0:m'=0:=by omega
  subst m0
  refine .list _ sz [] g off 0 0 [] rfl (by simp) .nil (by simp) ⟨Nat.le_refl _,?_⟩ rfl
  unfold gO
  cases toEnd<;>cases limited<;>simp
 |list _ _ _ _ _ n _ cells hn hr hvs hic ht ha=>
  have hlen':((es.take hb).drop l).length=hb - l:=by simp;omega
  have haddr:(if m'=l then (⟨g,off,none⟩:Addr) else (⟨g,off,none⟩:Addr).add (l * size))=⟨g,if m'=l then off else off+l * size,none⟩:=by
   split
   ·rfl
   ·rw[Addr.dh]
  rw[haddr]
  have hr':∀r∈(es.take hb).drop l,r.length=sz:=fun r hm=>hr r (List.mem_of_mem_take (List.mem_of_mem_drop hm))
  have hfl:((es.take hb).drop l).flatten=(es.flatten.take (hb * sz)).drop (l * sz):=by
   rw[qM (fun r hm=>hr r (List.mem_of_mem_take hm)),ni hr]
  refine .list _ sz _ g _ _ _ ((cells.take (hb * sz)).drop (l * sz)) hlen'.symm hr' (by rw[hfl];exact(hvs.take _).drop _) (fun j c hj=>?_) ?_ ?_
  ·simp only[List.getElem?_drop,List.getElem?_take] at hj
   split at hj
   ·rename_i hlt
    have hne:es≠[]:=by
     rintro rfl
     simp only[List.flatten_nil] at hvs
     cases hvs
     simp at hj
    have hsz':size=sz:=hsz.resolve_right hne
    have hlt2:l<hb:=by
     rcases Nat.lt_or_ge l hb with h|h
     ·exact h
     ·have:hb * sz<=l * sz:=Nat.mul_le_mul_right _ h
      omega
    rw[if_neg (by omega),hsz']
    have:=hic _ _ hj
    rw[<-this];congr 1;omega
   ·cases hj
  rotate_left
  ·rw[List.all_eq_true] at ha ⊢
   intro x hx
   rw[hfl] at hx
   exact ha x (List.mem_of_mem_take (List.mem_of_mem_drop hx))
  ·refine⟨by omega,?_⟩
   have ht2:=ht.2
   cases k with
   |nil=>exact ht2.elim
   |tight=>
    simp only[gO]
    simp only at ht2
    cases toEnd with
    |true=>obtain⟨e1,e2⟩:=hend rfl;simp;omega
    |false=>
     cases limited with
     |true=>have:=hlim rfl;simp;omega
     |false=>simp
   |held=>
    simp only[gO]
    cases limited with
    |true=>have:=hlim rfl;simp;omega
    |false=>simp
   |free t=>
    simp only[gO]
    simp only at ht2
    cases limited with
    |true=>have:=hlim rfl;simp;omega
    |false=>
     by_cases hc:(toEnd&&hb - l !=0)=true
     ·simp only[Bool.false_eq_true,if_false,hc,if_true]
      simp only[Bool.and_eq_true,bne_iff_ne,ne_eq] at hc
      obtain⟨e1,e2⟩:=hend hc.1
      have hne:es≠[]:=by rintro rfl;simp at e1;omega
      have hsz':size=sz:=hsz.resolve_right hne
      obtain⟨t1,t2,t3,t4⟩:=ht2
      subst hsz'
      rw[if_neg (by omega)]
      refine⟨t1,t2,?_,?_⟩
      ·rw[t3,<-e1,Nat.sub_mul]
       have:l * size<=hb * size:=Nat.mul_le_mul_right _ hl
       omega
      ·rw[e2,Nat.sub_mul]
       have:l * size<=cap * size:=Nat.mul_le_mul_right _ (by omega)
       omega
     ·simp only[Bool.false_eq_true,if_false,hc]
theorem Fg{t:TypeId}{x y:AV}{lo hi mx:Option Operand}{ρ:Operand->AV}{ρ':Operand->Value}(hρ:∀x,aI K (ρ x) (ρ' x))
 (he:ck P t x (lo.map ρ) (hi.map ρ) (mx.map ρ)=some y) {c:Value} (hx:aI K x c) (w:World):
 ∃v,(Instr.sliceAt t c (lo.map ρ') (hi.map ρ') (mx.map ρ')).run P w= .ok v w/\aI K y v:=by
 obtain⟨hlo,nlo⟩:=qm hρ lo
 obtain⟨hhi,nhi⟩:=qm hρ hi
 obtain⟨hmx,nmx⟩:=qm hρ mx
 unfold ck at he
 split at he
 ·cases he
 rename_i hguard
 have hmh:(mx.map ρ).isSome=true->(hi.map ρ).isSome=true:=by
  intro h1
  cases h2:hi.map ρ with
  |some _=>rfl
  |none=>rw[h1,h2] at hguard;simp at hguard
 split at he
 ·rename_i s hu
  split at he
  ·cases he
  rename_i hmn
  have hmn':mx.map ρ=none:=by simpa using hmn
  split at he
  ·rename_i hb e2
   split at he
   ·rename_i l e3
    injection he with he;subst he
    obtain⟨rfl,_⟩:=hx.bm
    obtain⟨m',q1,q2,_⟩:=iY (P:=P) (mx:=none) (mx':=none) hlo nlo hhi nhi (by simp) (by simp) false (top:=s.size) (cap:=s.size) (m:=s.size) rfl e2 e3 (Nat.le_refl _) (Nat.le_refl _) (by simp) w
    refine⟨_,?_,.v (.string (s.extract l hb)) rfl⟩
    simp only[Instr.sliceAt,Sem.run_bind,aH hu,Result.andThen_ok,Instr.slice,nmx hmn']
    simp[q1]
   ·cases he
  ·cases he
 ·rename_i elem k sz es hu
  split at he
  ·rename_i size m hs e1
   split at he
   ·rename_i hb e2
    split at he
    ·rename_i l e3
     split at he
     ·rename_i hsz
      injection he with he;subst he
      have hbm:hb<=es.length:=by
       rcases dt (P:=P) e1 hmx nmx w with⟨_,rfl,_⟩|⟨_,_,_,hm1,_⟩<;>rcases dt (P:=P) e2 hhi nhi w with⟨_,rfl,_⟩|⟨_,_,_,hm2,_⟩<;>omega
      cases hx with
      |nil=>
       obtain⟨m',q1,q2,q3,q4,q5,q6,q7⟩:=iY (P:=P) hlo nlo hhi nhi hmx nmx true (top:=0) (cap:=0) (len:=0) e1 e2 e3 (Nat.le_refl _) (Nat.le_refl _) hmh w
       have hb0:hb=0:=by simpa using hbm
       subst hb0
       have l0:l=0:=by omega
       subst l0
       have hm0:m'=0:=by
        rcases dt (P:=P) e1 hmx nmx w with⟨_,_,hn⟩|⟨_,_,_,hm1,hs1⟩
        ·exact(q2 hn).1
        ·have:=q3 hs1;simp at hm1;omega
       subst hm0
       refine⟨.slice none 0 0,?_,?_⟩
       ·simp only[Instr.sliceAt,Sem.run_bind,aH hu,Result.andThen_ok,Instr.slice,q1,dw hs]
        simp
       ·simp only[gO,List.take_nil,List.drop_nil]
        exact .nil _
      |eK _ a0=>
       obtain⟨m',q1,q2,q3,q4,q5,q6,q7⟩:=iY (P:=P) hlo nlo hhi nhi hmx nmx true (top:=0) (cap:=0) (len:=0) e1 e2 e3 (Nat.le_refl _) (Nat.le_refl _) hmh w
       have hb0:hb=0:=by simpa using hbm
       subst hb0
       have l0:l=0:=by omega
       subst l0
       have hm0:m'=0:=by
        rcases dt (P:=P) e1 hmx nmx w with⟨_,_,hn⟩|⟨_,_,_,hm1,hs1⟩
        ·exact(q2 hn).1
        ·have:=q3 hs1;simp at hm1;omega
       subst hm0
       refine⟨.slice (some a0) 0 0,?_,?_⟩
       ·simp only[Instr.sliceAt,Sem.run_bind,aH hu,Result.andThen_ok,Instr.slice,q1,dw hs]
        simp
       ·have hm00:m=0:=by
         rcases dt (P:=P) e1 hmx nmx w with⟨_,hn,_⟩|⟨_,_,_,hm1,hs1⟩
         ·simpa using hn
         ·simpa using hm1
        subst hm00
        have hct:∀q:Option AV,gO .tight (decide (0=([]:List (List AV)).length)&&q.isNone) (q.isSome&&decide (0=0)) (0 - 0)= .tight:=by
         intro q;cases q<;>rfl
        rw[hct]
        simp only[List.take_nil,List.drop_nil]
        exact .eK _ _
      |list _ _ _ g off n cap cells hn hr hvs hic ht ha=>
       subst hn
       obtain⟨m',q1,q2,q3,q4,q5,q6,q7⟩:=iY (P:=P) hlo nlo hhi nhi hmx nmx true (top:=es.length) (cap:=cap) (len:=es.length) e1 e2 e3 ht.1 ht.1 hmh w
       have hmcap:m'<=cap:=by
        rcases dt (P:=P) e1 hmx nmx w with⟨_,_,hn⟩|⟨_,_,_,hm1,hs1⟩
        ·rw[(q2 hn).1];exact Nat.le_refl _
        ·have:=q3 hs1;have:=ht.1;omega
       refine⟨.slice (some (if m'=l then ⟨g,off,none⟩ else (⟨g,off,none⟩:Addr).add (l * size))) (hb - l) (m' - l),?_,?_⟩
       ·simp only[Instr.sliceAt,Sem.run_bind,aH hu,Result.andThen_ok,Instr.slice,q1,dw hs,Sem.run_pure]
        congr 2
        split<;>rfl
       ·refine HS (.list _ _ _ g off _ cap cells rfl hr hvs hic ht ha) hsz q4 hbm q6 hmcap (fun h=>?_) (fun h=>?_)
        ·simp only[Bool.and_eq_true,decide_eq_true_eq,Option.isNone_iff_eq_none] at h
         exact⟨h.1,(q2 h.2).1⟩
        ·simp only[Bool.and_eq_true,decide_eq_true_eq] at h
         rw[q3 h.1];exact h.2.symm
     ·cases he
    ·cases he
   ·cases he
  ·cases he
 ·rename_i elem b off len cap hu
  split at he
  ·rename_i size m hs e1
   split at he
   ·rename_i hb e2
    split at he
    ·rename_i l e3
     cases hx with
     |arr _ g _ _ _ off' cap' hβ hl hcc hoo hrr=>
      obtain⟨m',q1,q2,q3,q4,q5,q6,q7⟩:=iY (P:=P) hlo nlo hhi nhi hmx nmx true (top:=cap) (cap:=cap') (len:=len) e1 e2 e3 (by omega) hcc hmh w
      have hmc:m<=cap:=by
       rcases dt (P:=P) e1 hmx nmx w with⟨_,q,_⟩|⟨_,_,_,q,_⟩<;>omega
      have hmm:m<=m':=by
       cases hq:Option.map ρ mx with
       |none=>have:=q2 hq;omega
       |some z=>have:=q3 (by rw[hq];rfl);omega
      have hbm:hb<=m:=by
       cases hq:Option.map ρ mx with
       |none=>
        cases hq2:Option.map ρ hi with
        |none=>have:=q5 hq2;have:=q2 hq;omega
        |some z=>exact q7 (by rw[hq2];rfl)
       |some z=>have:=q3 (by rw[hq];rfl);omega
      have hrun:(Instr.sliceAt t (.slice (some ⟨g,off',none⟩) len cap') (Option.map ρ' lo) (Option.map ρ' hi) (Option.map ρ' mx)).run P w= .ok (.slice (some ⟨g,if m'=l then off' else off'+l * size,none⟩) (hb - l) (m' - l)) w:=by
       simp only[Instr.sliceAt,Sem.run_bind,aH hu,Result.andThen_ok,Instr.slice,q1,dw hs,Sem.run_pure]
       congr 2
       split
       ·rfl
       ·simp[Addr.dh]
      refine⟨_,hrun,?_⟩
      split at he
      ·cases he
      rename_i hs0
      split at he
      ·rename_i hml
       injection he with he;subst he
       have:=q3 hml.1
       rw[show hb - l=0 by omega,show m' - l=0 by omega]
       exact .eK _ _
      ·injection he with he;subst he
       refine .arr _ _ _ _ _ _ _ hβ (by omega) (by omega) ?_ ?_
       ·rcases hoo with rfl|hz
        ·by_cases hml:m=l
         ·exact .inr (by omega)
         ·rw[if_neg (by omega),if_neg hml];exact .inl rfl
        ·exact .inr (by omega)
       ·cases hq:Option.map ρ mx with
        |some z=>have:=q3 (by rw[hq];rfl);exact .inl (by omega)
        |none=>
         obtain⟨r1,r2⟩:=q2 hq
         by_cases hml:m=l
         ·exact .inr (.inl (by omega))
         ·rw[if_neg hml]
          by_cases hl0:l=0
          ·subst hl0
           rcases hrr with r|r|r|⟨sz,room,r3,r4,r5⟩
           ·exact .inl (by omega)
           ·exact .inr (.inl (by omega))
           ·exact .inr (.inr (.inl (by omega)))
           ·exact .inr (.inr (.inr ⟨sz,room,by rw[r2];exact r3,r4,by rw[r1];exact r5⟩))
          ·exact .inr (.inr (.inl (by have:=Nat.mul_pos (Nat.pos_of_ne_zero hl0) (Nat.pos_of_ne_zero hs0);omega)))
    ·cases he
   ·cases he
  ·cases he
 ·rename_i n elem b off hu
  split at he
  ·rename_i size m hs e1
   split at he
   ·rename_i hb e2
    split at he
    ·rename_i l e3
     injection he with he;subst he
     cases hx with
     |box _ g _ hβ=>
      obtain⟨m',q1,q2,q3,q4,q5,q6,q7⟩:=iY (P:=P) hlo nlo hhi nhi hmx nmx false (top:=n) (cap:=n) (len:=n) e1 e2 e3 (Nat.le_refl _) (Nat.le_refl _) hmh w
      have hm:m'=m:=by
       rcases dt (P:=P) e1 hmx nmx w with⟨_,_,hn⟩|⟨_,_,_,hm1,hs1⟩
       ·have:=q2 hn;omega
       ·exact q3 hs1
      subst hm
      refine⟨.slice (some ⟨g,if m'=l then off else off+l * size,none⟩) (hb - l) (m' - l),?_,.arr _ _ _ _ _ _ _ hβ (by omega) (Nat.le_refl _) (.inl rfl) (.inl rfl)⟩
      simp only[Instr.sliceAt,Sem.run_bind,aH hu,Result.andThen_ok,Instr.sureAddr,q1,dw hs,Sem.run_pure]
      congr 3
      split
      ·rfl
      ·simp[Addr.dh]
    ·cases he
   ·cases he
  ·cases he
 ·cases he
theorem kV{f:Field}{n:Nat}(hs:bF P f.type=some n)(hn:n≠0)(g o:Nat)(w:World):(fieldPlace ⟨g,o,none⟩ f).run P w= .ok ⟨g,o+f.offset,none⟩ w:=by
 simp[fieldPlace,dw hs,hn,Addr.dh]
theorem wc{t:TypeId}{x y:AV}{f:Nat}(he:aJ P t x f=some y){c:Value}(hx:aI K x c)(w:World):
 ∃v,(Instr.fieldAt t c f).run P w= .ok v w/\aI K y v:=by
 unfold aJ at he
 split at he
 ·rename_i fields hu
  split at he
  ·rename_i fd hf
   split at he
   ·cases he
   ·rename_i n hn0 hs
    have hn:n≠0:=fun e=>hn0 e
    split at he
    ·rename_i r off
     injection he with he;subst he
     cases hx with
     |box b g _ hb=>exact⟨_,by simp[Instr.fieldAt,aH hu,hf,Instr.sureAddr,kV hs hn],.box _ _ _ hb⟩
     |dW g _=>exact⟨_,by simp[Instr.fieldAt,aH hu,hf,Instr.sureAddr,kV hs hn],.dW _ _⟩
    ·rename_i sz es i off
     injection he with he;subst he
     cases hx with
     |elem _ _ _ _ g o p cells hr hv hc hi hp ha=>
      exact⟨.pointer (some ⟨g,p+fd.offset,none⟩),by simp[Instr.fieldAt,aH hu,hf,Instr.sureAddr,kV hs hn],.elem _ _ _ _ g o _ cells hr hv hc hi (by omega) ha⟩
    ·cases he
   ·cases he
  ·cases he
 ·cases he
theorem we{t:TypeId}{x ix y:AV}(he:ay P t x ix=some y){c ci:Value}(hx:aI K x c)(hi:aI K ix ci)(w:World):
 ∃v,(Instr.indexAt t c ci).run P w= .ok v w/\aI K y v:=by
 unfold ay at he
 split at he
 ·rename_i elem k sz es kk i hu
  obtain⟨rfl,_⟩:=hi.bm
  split at he
  ·rename_i hc
   injection he with he;subst he
   cases hx with
   |nil=>simp at hc;omega
   |eK=>simp at hc;omega
   |list _ _ _ g off n cap cells hn hr hv hic ht ha=>
    subst hn
    refine⟨.pointer (some ⟨g,off+i.toNat * sz,none⟩),?_,.elem _ _ _ _ g off _ cells hr hv hic (by omega) (by omega) ha⟩
    simp[Instr.indexAt,aH hu,asIntOf,hc.1,hc.2.1,dw hc.2.2,Addr.dh]
  ·cases he
 ·rename_i elem b off len cap kk i hu
  obtain⟨rfl,_⟩:=hi.bm
  split at he
  ·rename_i size hs
   split at he
   ·rename_i hc
    injection he with he;subst he
    cases hx with
    |arr _ g _ _ _ off' cap' hb hl hcc hoo hrr=>
     have:off'=off:=by rcases hoo with p|p<;>omega
     subst this
     exact⟨_,by simp[Instr.indexAt,aH hu,asIntOf,hc.1,hc.2,dw hs,Addr.dh],.box _ _ _ hb⟩
   ·cases he
  ·cases he
 ·rename_i len elem r off kk i hu
  obtain⟨rfl,_⟩:=hi.bm
  split at he
  ·rename_i size hs
   split at he
   ·rename_i hc
    injection he with he;subst he
    cases hx with
    |box b g _ hb=>exact⟨_,by simp[Instr.indexAt,aH hu,asIntOf,hc.1,hc.2,dw hs,Addr.dh,Instr.sureAddr],.box _ _ _ hb⟩
    |dW g _=>exact⟨_,by simp[Instr.indexAt,aH hu,asIntOf,hc.1,hc.2,dw hs,Addr.dh,Instr.sureAddr],.dW _ _⟩
   ·cases he
  ·cases he
 ·rename_i len elem sz es k off kk i hu
  obtain⟨rfl,_⟩:=hi.bm
  split at he
  ·rename_i size hs
   split at he
   ·rename_i hc
    injection he with he;subst he
    cases hx with
    |elem _ _ _ _ g o p cells hr hv hic hi' hp ha=>
     exact⟨.pointer (some ⟨g,p+i.toNat * size,none⟩),by simp[Instr.indexAt,aH hu,asIntOf,hc.1,hc.2,dw hs,Addr.dh,Instr.sureAddr],.elem _ _ _ _ g o _ cells hr hv hic hi' (by omega) ha⟩
   ·cases he
  ·cases he
 ·cases he
theorem zS{t:TypeId}{cs:List AV}{off:Nat}{y:AV}(he:uq P t cs off=some y){vs:Array Value}(hx:ao K cs vs.toList)(w:World):
 ∃v,(part t vs off).run P w= .ok v w/\aI K y v:=by
 unfold uq at he
 split at he
 ·rename_i hag
  simp only[Option.map_eq_some_iff] at he
  obtain⟨n,hs,rfl⟩:=he
  refine⟨.agg (vs.extract off (off+n)),by simp[part,o6 hag,dw hs],.agg _ _ ?_⟩
  have:(vs.extract off (off+n)).toList=(vs.toList.drop off).take n:=by
   rw[Array.toList_extract,List.extract_eq_take_drop]
   congr 1
   omega
  rw[this]
  exact(hx.drop off).take n
 ·rename_i hag
  obtain⟨c,hc,hr⟩:=hx.get he
  exact⟨c,by simp only[part,Sem.run_bind,o6 hag,Result.andThen_ok];simp only[Bool.false_eq_true,if_false];rw[show vs[off]?=some c by simpa using hc];rfl,hr⟩
 ·cases he
theorem Fh{t:TypeId}{x ix y:AV}(he:nf P t x ix=some y){c ci:Value}(hx:aI K x c)(hi:aI K ix ci)(w:World):
 ∃v,(Instr.index t c ci).run P w= .ok v w/\aI K y v:=by
 unfold nf at he
 split at he
 ·rename_i s kk i hu
  obtain⟨rfl,_⟩:=hi.bm
  obtain⟨rfl,_⟩:=hx.bm
  split at he
  ·rename_i b hb
   injection he with he;subst he
   split at hb
   ·rename_i h0
    refine⟨.int .u8 b.toNat,?_,.v _ rfl⟩
    have:s[i.toNat]?=some b:=by
     have h1:i.toNat<s.data.size:=(Array.getElem?_eq_some_iff.1 hb).1
     have h2:s.data[i.toNat]=b:=(Array.getElem?_eq_some_iff.1 hb).2
     have h3:i.toNat<s.size:=h1
     rw[getElem?_pos s i.toNat h3]
     exact congrArg some h2
    simp only[Instr.index,Sem.run_bind,asIntOf,Sem.run_pure,Result.andThen_ok,aH hu,if_pos h0,this]
   ·cases hb
  ·cases he
 ·rename_i len elem cs kk i hu
  obtain⟨rfl,_⟩:=hi.bm
  split at he
  ·rename_i size hs
   split at he
   ·rename_i hc
    cases hx with
    |agg _ vs hvs=>
     obtain⟨v,q1,q2⟩:=zS he hvs w
     exact⟨v,by simp only[Instr.index,Sem.run_bind,asIntOf,Sem.run_pure,Result.andThen_ok,aH hu,if_pos hc,dw hs,q1],q2⟩
   ·cases he
  ·cases he
 ·cases he
theorem mh{t:TypeId}(he:isIface P t=some false):∃d,P.underlying t=some d/\∀ms,d≠ .interface ms:=by
 unfold isIface at he
 split at he
 ·cases he
 ·rename_i d h1 h2
  exact⟨d,h2,fun ms e=>h1 ms e⟩
 ·cases he
theorem Ck{x y:AV}{xt a:TypeId}{okk:Bool}(he:iz P x a okk=some y){c:Value}(hx:aI K x c)(w:World):
 ∃v,(Instr.typeAssert c xt a okk).run P w= .ok v w/\aI K y v:=by
 unfold iz at he
 split at he
 ·rename_i t x' hif
  obtain⟨d,hu,hd⟩:=mh hif
  cases hx with
  |iface _ _ c' hx=>
   split at he
   ·rename_i hta
    injection he with he;subst he
    subst hta
    cases okk with
    |true=>
     refine⟨.tuple #[c',.bool true],?_,.tuple _ _ (.cons _ _ _ _ hx (.cons _ _ _ _ (.v _ rfl) .nil))⟩
     simp only[Instr.typeAssert,Sem.run_bind,aH hu,Result.andThen_ok]
     cases d<;>first|exact absurd rfl (hd _) |simp
    |false=>
     refine⟨c',?_,hx⟩
     simp only[Instr.typeAssert,Sem.run_bind,aH hu,Result.andThen_ok]
     cases d<;>first|exact absurd rfl (hd _) |simp
   ·rename_i hta
    split at he
    ·rename_i hok
     simp only[Option.map_eq_some_iff] at he
     obtain⟨z,hz,rfl⟩:=he
     obtain⟨v,hz1,rfl⟩:=ux hz w
     refine⟨.tuple #[v,.bool false],?_,.tuple _ _ (.cons _ _ _ _ (oZ v) (.cons _ _ _ _ (.v _ rfl) .nil))⟩
     simp only[Instr.typeAssert,Sem.run_bind,aH hu,Result.andThen_ok]
     cases d<;>first|exact absurd rfl (hd _) |simp[hta,hok,hz1]
    ·cases he
 ·rename_i hif
  obtain⟨d,hu,hd⟩:=mh hif
  obtain⟨rfl,_⟩:=hx.bm
  split at he
  ·rename_i hok
   simp only[Option.map_eq_some_iff] at he
   obtain⟨z,hz,rfl⟩:=he
   obtain⟨v,hz1,rfl⟩:=ux hz w
   refine⟨.tuple #[v,.bool false],?_,.tuple _ _ (.cons _ _ _ _ (oZ v) (.cons _ _ _ _ (.v _ rfl) .nil))⟩
   simp only[Instr.typeAssert,Sem.run_bind,aH hu,Result.andThen_ok]
   cases d<;>first|exact absurd rfl (hd _) |simp[hok,hz1]
  ·cases he
 ·cases he
theorem Cl{op:BinOp}{b:Bool}{x:AV}(he:mf op b=some x):(op= .eql/\x= .v (.bool b))∨(op= .neq/\x= .v (.bool !b)):=by
 unfold mf at he
 split at he
 ·injection he with he;exact .inl ⟨rfl,he.symm⟩
 ·injection he with he;exact .inr ⟨rfl,he.symm⟩
 ·cases he
theorem s8{op:BinOp}{t:TypeId}{x y:Operand}{a b r:AV}(he:ub P op t x y a b=some r){p q:Value}(ha:aI K a p)(hb:aI K b q)(w:World):
 ∃v,(do eqGuard op t x y p q;binOp op t p q:Sem Value).run P w= .ok v w/\aI K r v:=by
 unfold ub at he
 split at he
 ·rename_i p' q' hp hq
  have e1:=qL hp ha
  have e2:=qL hq hb
  subst e1;subst e2
  simp only[Option.bind_eq_some_iff] at he
  obtain⟨z,h1,h2⟩:=he
  exact⟨z,jq h1 w,jr h2⟩
 ·cases he
theorem nj{op:BinOp}{t:TypeId}{x y:Operand}{p q:Value}{b:Bool}{r:AV}(he:mf op b=some r)(hg:∀op,eqGuard op t x y p q=pure ())(w:World)
 (heq0:∀d,(Op.equalIn (d+1) t p q).run P w= .ok b w) (h1:binOp .eql t p q=(do pure (.bool (<-Op.equal t p q)))) (h2:binOp .neq t p q=(do pure (.bool (!(<-Op.equal t p q))))):
 ∃v,(do eqGuard op t x y p q;binOp op t p q:Sem Value).run P w= .ok v w/\aI K r v:=by
 have heq:(Op.equal t p q).run P w= .ok b w:=heq0 9999
 rcases Cl he with⟨rfl,rfl⟩|⟨rfl,rfl⟩
 ·exact⟨.bool b,by rw[hg,h1];simp[heq],.v _ rfl⟩
 ·exact⟨.bool !b,by rw[hg,h2];simp[heq],.v _ rfl⟩
theorem qP{t:TypeId}(he:isIface P t=some true):∃ms,P.underlying t=some (.interface ms):=by
 unfold isIface at he
 split at he
 ·exact⟨_,‹_›⟩
 ·cases he
 ·cases he
theorem Lu{op:BinOp}{t:TypeId}{x y:Operand}{a b r:AV}(he:bB P op t x y a b=some r){p q:Value}(ha:aI K a p)(hb:aI K b q)(w:World):
 ∃v,(do eqGuard op t x y p q;binOp op t p q:Sem Value).run P w= .ok v w/\aI K r v:=by
 unfold bB at he
 split at he
 ·rename_i s1 s2
  have f1:=ha.bm.1
  have f2:=hb.bm.1
  subst f1;subst f2
  split at he
  ·injection he with he;subst he
   exact⟨.bool (s1.data.toList==s2.data.toList),by simp[eqGuard,binOp,Op.stringOp,ByteArray.toList_eq],.v _ rfl⟩
  ·injection he with he;subst he
   exact⟨.bool !(s1.data.toList==s2.data.toList),by simp[eqGuard,binOp,Op.stringOp,ByteArray.toList_eq],.v _ rfl⟩
  ·split at he
   ·rename_i hl
    injection he with he;subst he
    refine⟨.string (s1++s2),?_,.v _ rfl⟩
    have:¬(((s1.size+s2.size:Nat):Int)>IntKind.i64.max):=by simp only[IntKind.max,IntKind.signed,IntKind.bits];simp;omega
    simp only[eqGuard,binOp,Op.stringOp]
    simp only[if_neg this]
    simp
   ·cases he
  ·exact s8 he ha hb w
 ·rename_i ti xi
  split at he
  ·rename_i hif
   obtain⟨ms,hu⟩:=qP hif
   cases ha with
   |iface _ _ c hx=>
    have f2:=hb.bm.1
    subst f2
    refine nj he (fun op=>by cases op<;>rfl) w (fun d=>?_) rfl rfl
    simp only[Op.equalIn,Sem.run_bind,aH hu,Result.andThen_ok,Sem.run_pure]
  ·cases he
 ·rename_i ti xi
  split at he
  ·rename_i hif
   obtain⟨ms,hu⟩:=qP hif
   cases hb with
   |iface _ _ c hx=>
    have f2:=ha.bm.1
    subst f2
    refine nj he (fun op=>by cases op<;>rfl) w (fun d=>?_) rfl rfl
    simp only[Op.equalIn,Sem.run_bind,aH hu,Result.andThen_ok,Sem.run_pure]
  ·cases he
 ·rename_i r0 o0
  split at he
  ·rename_i e hu
   have f2:=hb.bm.1
   subst f2
   cases ha<;>(refine nj he (fun op=>by cases op<;>rfl) w (fun d=>?_) rfl rfl;simp only[Op.equalIn,Sem.run_bind,aH hu,Result.andThen_ok,Sem.run_pure,Option.isNone_some])
  ·cases he
 ·rename_i r0 o0
  split at he
  ·rename_i e hu
   have f2:=ha.bm.1
   subst f2
   cases hb<;>(refine nj he (fun op=>by cases op<;>rfl) w (fun d=>?_) rfl rfl;simp only[Op.equalIn,Sem.run_bind,aH hu,Result.andThen_ok,Sem.run_pure,Option.isNone_some])
  ·cases he
 ·split at he
  ·rename_i hu
   have f2:=hb.bm.1
   subst f2
   cases ha<;>(refine nj he (fun op=>by cases op<;>rfl) w (fun d=>?_) rfl rfl;simp only[Op.equalIn,Sem.run_bind,aH hu,Result.andThen_ok,Sem.run_pure,Option.isNone_some])
  ·cases he
 ·split at he
  ·rename_i hu
   have f2:=ha.bm.1
   subst f2
   cases hb<;>(refine nj he (fun op=>by cases op<;>rfl) w (fun d=>?_) rfl rfl;simp only[Op.equalIn,Sem.run_bind,aH hu,Result.andThen_ok,Sem.run_pure,Option.isNone_some])
  ·cases he
 ·rename_i k sz es sz2
  split at he
  ·rename_i e hu
   have f2:q= .slice none 0 0:=by
    cases hb with
    |nil=>rfl
    |list _ _ _ _ _ _ _ _ _ _ _ _ ht _=>exact ht.2.elim
   subst f2
   cases ha with
   |nil=>
    refine nj he (fun op=>by cases op<;>rfl) w (fun d=>?_) rfl rfl
    simp only[Op.equalIn,Sem.run_bind,aH hu,Result.andThen_ok,Sem.run_pure,Option.isNone_none,decide_true]
   |eK=>
    refine nj he (fun op=>by cases op<;>rfl) w (fun d=>?_) rfl rfl
    simp only[Op.equalIn,Sem.run_bind,aH hu,Result.andThen_ok,Sem.run_pure,Option.isNone_some]
    rfl
   |list _ _ _ g off n cap cells hn hr hv hc ht _=>
    have hk:k≠ .nil:=fun e=>by subst e;exact ht.2
    refine nj he (fun op=>by cases op<;>rfl) w (fun d=>?_) rfl rfl
    simp only[Op.equalIn,Sem.run_bind,aH hu,Result.andThen_ok,Sem.run_pure,hk,decide_false]
  ·cases he
 ·exact s8 he ha hb w
theorem N7{op:UnOp}{a r:AV}(he:HQ P op a=some r){p:Value}(ha:aI K a p)(w:World):∃v,(Op.unary op p).run P w= .ok v w/\aI K r v:=by
 unfold HQ at he
 split at he
 ·rename_i p' hp
  have e1:=qL hp ha
  subst e1
  simp only[Option.bind_eq_some_iff] at he
  obtain⟨z,h1,h2⟩:=he
  exact⟨z,jq h1 w,jr h2⟩
 ·cases he
end
section
variable {P:Program} {K:aB} {G:Nat->Option (List AV)} {ok:FuncId->Nat->Code->Bool} {w0 w:World} {h:ae}
theorem s9{h:ae}{d:List Nat}{sz:Nat}{es:List (List AV)}{t:Nat}(hd:∀n∈h.dead,n∈d)(ha:alive ({h with dead:=d}.fresh sz es).2 t=true):
 t=h.tn∨(alive h t=true/\t∉d):=by
 simp only[ae.fresh,alive,Bool.and_eq_true,decide_eq_true_eq,Bool.not_eq_true',List.contains_eq_mem,decide_eq_false_iff_not] at ha
 obtain⟨ha1,ha2⟩:=ha
 have ha1:t<h.tn+1:=of_decide_eq_true ha1
 rcases Nat.lt_or_ge t h.tn with hlt|hge
 ·exact .inr ⟨by simp[alive,hlt];exact fun hm=>ha2 (hd t hm),ha2⟩
 ·exact .inl (by omega)
theorem Sim.uB{w':World}(s:Sim K G ok w0 h w){d:List Nat}(hd:∀n∈h.dead,n∈d){sz:Nat}{es:List (List AV)}{cells:Array Value}{e:TypeId}{fz:Nat × Nat}{cap:Nat}
 (hr:∀r∈es,r.length=sz) (ha:es.flatten.all AV.bu=true) (hv:ao K es.flatten (cells.toList.take (es.length * sz)))
 (hos:w'.os=w.os) (htape:w'.tape=w.tape) (hout:w'.output=w.output) (hsz:w'.heap.size=w.heap.size+1)
 (hother:∀k,k<w.heap.size->w'.heap[k]?=w.heap[k]?) (hthis:w'.heap[w.heap.size]?=some (.cells cells e fz))
 (hcap:es.length<=cap) (hfit:cap * sz<=cells.size) (hfz:∀j,j<cells.size->frz fz j=false):
 ∃K',K.Le K'/\Sim K' G ok w0 ({h with dead:=d}.fresh sz es).2 w'/\aI K' ({h with dead:=d}.fresh sz es).1 (.slice (some ⟨w.heap.size,0,none⟩) es.length cap):=by
 have hicn:∀j,K.ic w.heap.size j=none:=fun j=>by
  cases hc:K.ic w.heap.size j with
  |none=>rfl
  |some c=>have:=s.fY hc;omega
 have hlen:es.length * sz<=cells.size:=Nat.le_trans (Nat.mul_le_mul_right _ hcap) hfit
 have hrow:=s.row (h':=({h with dead:=d}.fresh sz es).2) (w':=w') (g:=w.heap.size) (off:=0) (m:=es.length * sz) (cells:=cells) (e:=e) (fz:=fz) rfl rfl rfl
  (fun t ht=>(s9 hd ht).imp id fun hh=>⟨hh.1,fun heq=>by
   obtain⟨_,_,_,_,_,_,h4,_⟩:=s.tok t hh.1
   have:=cV h4;omega⟩)
  s.size (fun b hb=>by
   obtain⟨cs,hcs⟩:=Qf s hb
   obtain⟨_,_,_,_,_,h3,_⟩:=s.box b _ cs hb hcs
   have:=cV h3;omega) (fun j _=>hicn j) (by omega) hos htape hout
  (fun k o hk ho=>by rw[hother k (cV ho)];exact ho) hthis (fun o ho=>by have:=cV ho;omega) (fun j c hc=>by rw[hicn] at hc;cases hc) (Nat.zero_le _) hlen (fun j _ hl=>hfz j hl)
 have le:=aB.Ch (K:=K) (g:=w.heap.size) (off:=0) (m:=es.length * sz) (size:=cells.size) (cells:=fun j=>cells[j]?) (fun j _=>hicn j) s.size
 refine⟨_,le,hrow,?_⟩
 refine .list (.free h.tn) sz es w.heap.size 0 _ cap (cells.toList.take (es.length * sz)) rfl hr (hv.mono le) (fun j c hj=>?_) ⟨hcap,?_⟩ ha
 ·simp only[List.getElem?_take] at hj
  split at hj
  ·rename_i hlt
   simp only[aB.row,Nat.zero_add]
   rw[if_pos (by exact⟨trivial,Nat.zero_le _,hlt⟩)]
   simpa using hj
  ·cases hj
 ·simp only[aB.row,s.tn,if_true]
  refine⟨by omega,trivial,by omega,by omega⟩
theorem ga(l:List UInt8):∀r∈l.map dp,r.length=1:=by
 intro r hr
 simp only[List.mem_map] at hr
 obtain⟨b,_,rfl⟩:=hr
 rfl
theorem nk(l:List UInt8):(l.map dp).flatten=l.map fun b=>AV.v (.int .u8 b.toNat):=by
 induction l with
 |nil=>rfl
 |cons b l ih=>simp[dp,ih]
theorem tc(l:List UInt8):ao K (l.map dp).flatten (l.map fun b=>Value.int .u8 b.toNat):=by
 rw[nk]
 exact ao.map_mk fun b _=> .v _ rfl
theorem qQ(l:List UInt8):(l.map dp).flatten.all AV.bu=true:=by
 rw[nk,List.all_eq_true]
 intro x hx
 simp only[List.mem_map] at hx
 obtain⟨b,_,rfl⟩:=hx
 rfl
theorem zT(s:Sim K G ok w0 h w){e:TypeId}{str:ByteArray}:
 ∃K' v w',K.Le K'/\Sim K' G ok w0 (h.fresh 1 (str.data.toList.map dp)).2 w'/\aI K' (h.fresh 1 (str.data.toList.map dp)).1 v/\(Conv.stringToBytes e str).run P w= .ok v w':=by
 have hq:∃cap,str.size<=cap/\(choose (.appendCap str.size 0 e)).run P w= .ok cap {w with drawn:=w.drawn+1}:=by
  refine⟨_,?_,by simp[Question.forced];rfl⟩
  simp[Question.cut]
 obtain⟨cap,hcap,hch⟩:=hq
 let w1:World:={w with drawn:=w.drawn+1}
 let cells:Array Value:=str.data.map (fun b=> .int .u8 b.toNat)++Array.replicate (cap - str.size) (.int .u8 0)
 have hcs:cells.size=cap:=by
  have:str.data.size=str.size:=rfl
  simp only[cells,Array.size_append,Array.size_map,Array.size_replicate,this];try omega
 have hlen:str.data.toList.length=str.size:=rfl
 let w2:World:=({w1 with heap:=w1.heap.push (.cells cells e)}:World).freeze {block:=w1.heap.size,off:=cap} 1
 have hthis:w2.heap[w.heap.size]?=some (.cells cells e (cap,cap+1)):=by
  simp only[w2,World.freeze,w1,Nat.one_ne_zero,if_false,Array.getElem?_modify,if_true,Array.getElem?_push_size,Option.map_some]
  rfl
 have hother:∀k,k<w.heap.size->w2.heap[k]?=w.heap[k]?:=fun k hk=>by
  simp only[w2,World.freeze,w1,Array.getElem?_modify]
  simp only[Nat.one_ne_zero,if_false,Array.getElem?_modify]
  rw[if_neg (by omega)]
  exact fe w _ hk
 obtain⟨K',le,s',hv⟩:=s.uB (w':=w2) (d:=h.dead) (fun _ hm=>hm) (sz:=1) (es:=str.data.toList.map dp) (cells:=cells) (e:=e) (fz:=(cap,cap+1)) (cap:=cap)
  (ga _) (qQ _) (by
   have:cells.toList.take ((str.data.toList.map dp).length * 1)=str.data.toList.map fun b=>Value.int .u8 b.toNat:=by
    simp only[cells,Array.toList_append,Array.toList_map,List.length_map,Nat.mul_one]
    rw[List.take_append_of_le_length (by simp),List.take_of_length_le (by simp)]
   rw[this]
   exact tc _) rfl rfl rfl (by simp[w2,World.freeze,w1]) hother hthis (by simp only[List.length_map,hlen];exact hcap) (by omega) (fun j hj=>by simp[frz];omega)
 refine⟨K',_,w2,le,s',hv,?_⟩
 have hl2:(str.data.toList.map dp).length=str.size:=by simp only[List.length_map,hlen]
 rw[hl2]
 simp only[Conv.stringToBytes,Sem.run_bind,hch,Result.andThen_ok,newRow,run_newObj,Sem.run_pure,markStringish,run_shape]
 have hsh:({w1 with heap:=w1.heap.push (.cells cells e)}:World).shape? w1.heap.size=some (e,cap):=by
  simp[World.shape?,hcs]
 simp only[w1,cells] at hsh
 simp only[hsh,run_freeze,Result.andThen_ok,Sem.run_pure,w2,w1,cells]
theorem zU:∀{rows:List (List AV)} {l:List UInt8},bytesOf rows=some l->∀{vs:List Value},ao K rows.flatten vs->
 ∃ns:List Int,vs=ns.map (.int .u8 ·)/\l=ns.map fun n=>UInt8.ofNat n.toNat:=by
 intro rows
 induction rows with
 |nil=>intro l h vs hv;simp[bytesOf] at h;subst h;cases hv;exact⟨[],rfl,rfl⟩
 |cons r rows ih=>
  intro l h vs hv
  simp only[bytesOf] at h
  split at h
  ·rename_i b l' hb hl
   injection h with h;subst h
   unfold byteOf at hb
   split at hb
   ·rename_i n
    injection hb with hb;subst hb
    simp only[List.flatten_cons,List.cons_append,List.nil_append] at hv
    cases hv with
    |cons _ c _ cs hx hs=>
     obtain⟨ns,h1,h2⟩:=ih hl hs
     exact⟨n::ns,by rw[hx.bm.1,h1];rfl,by rw[h2];rfl⟩
   ·cases hb
  ·cases h
theorem foldl_push(ns:List Int):∀acc:ByteArray,ns.foldl (fun b a=>b.push (UInt8.ofNat a.toNat)) acc=⟨acc.data++(ns.map fun n=>UInt8.ofNat n.toNat).toArray⟩:=by
 induction ns with
 |nil=>intro acc;simp
 |cons n ns ih=>
  intro acc
  simp only[List.foldl_cons,ih,List.map_cons]
  simp[ByteArray.push]
theorem ou(s:Sim K G ok w0 h w){size:Nat}{x:AV}{rows:List (List AV)}(he:rowsOf h size x=some rows){c:Value}(hv:aI K x c):
 ∃a cap dF,c= .slice a rows.length cap/\(∀r∈rows,r.length=size)/\ao K rows.flatten dF/\rows.flatten.all AV.bu=true/\dF.length=rows.length * size/\
  (∀b,a=some b->(loadCells b (rows.length * size)).run P w= .ok dF.toArray w)/\(a=none->rows=[]):=by
 unfold rowsOf at he
 split at he
 ·rename_i k sz es
  split at he
  ·rename_i hsz
   injection he with he;subst he
   cases hv with
   |nil=>exact⟨none,0,[],rfl,by simp,.nil,rfl,by simp,fun b hb=>(by cases hb),fun _=>rfl⟩
   |eK _ a0=>
    refine⟨some a0,0,[],rfl,by simp,.nil,rfl,by simp,fun b hb=>?_,fun hb=>by cases hb⟩
    have:=run_loadCells_list (P:=P) w b [] (fun j v hj=>by simp at hj)
    simpa using this
   |list _ _ _ g off n cap cells hn hr hvs hic ht ha=>
    subst hn
    have hl:cells.length=es.length * sz:=by rw[<-hvs.length,a8 hr]
    have hsz2:es.length * sz=es.length * size:=by
     rcases hsz with h|h
     ·rw[h]
     ·simp[h]
    refine⟨some ⟨g,off,none⟩,cap,cells,rfl,fun r hm=>?_,hvs,ha,by rw[hl,hsz2],fun b hb=>?_,fun hn=>by cases hn⟩
    ·rcases hsz with h|h
     ·rw[<-h];exact hr r hm
     ·rw[h] at hm;simp at hm
    ·injection hb with hb;subst hb
     have:=run_loadCells_list (P:=P) w ⟨g,off,none⟩ cells (fun j v hj=>by rw[Addr.dh];exact s.ic _ _ _ (hic j v hj))
     rw[hl,hsz2] at this
     exact this
  ·cases he
 ·rename_i b off len cap
  split at he
  ·rename_i cs hcs
   split at he
   ·rename_i hfit
    injection he with he;subst he
    cases hv with
    |arr _ g _ _ _ off' cap' hb hl hcc hoo hrr=>
     obtain⟨_,_,ka,cells,e,k3,k4⟩:=s.box b g cs hb hcs
     have hflat:∀n,off+n * size<=cs.length->((List.range n).map fun i=>(cs.drop (off+i * size)).take size).flatten=(cs.drop off).take (n * size):=by
      intro n
      induction n with
      |zero=>intro _;simp
      |succ n ih=>
       intro hn
       rw[List.range_succ,List.map_append,List.flatten_append,ih (by rw[Nat.add_mul] at hn;omega)]
       simp only[List.map_cons,List.map_nil,List.flatten_cons,List.flatten_nil,List.append_nil]
       rw[show(n+1) * size=n * size+size by rw[Nat.add_mul];omega,List.take_add,List.drop_drop]
     have hf:=hflat len hfit
     have hk4:=(k4.1.drop off).take (len * size)
     have hcl:cs.length<=cells.toList.length:=by
      have:=k4.le
      simpa using this
     have hvl:(((cells.toList.take cs.length).drop off).take (len * size)).length=len * size:=by
      simp only[List.length_take,List.length_drop];omega
     refine⟨some ⟨g,off',none⟩,cap',((cells.toList.take cs.length).drop off).take (len * size),by simp,fun r hr=>?_,?_,?_,by rw[hvl];simp,fun b' hb'=>?_,fun hn=>by cases hn⟩
     ·simp only[List.mem_map,List.mem_range] at hr
      obtain⟨i,hi,rfl⟩:=hr
      simp only[List.length_take,List.length_drop]
      have:(i+1) * size<=len * size:=Nat.mul_le_mul_right _ hi
      rw[Nat.add_mul] at this
      omega
     ·rw[hf];exact hk4
     ·rw[hf,List.all_eq_true]
      intro x hx
      exact List.all_eq_true.1 ka x (List.mem_of_mem_drop (List.mem_of_mem_take hx))
     ·injection hb' with hb';subst hb'
      have:=run_loadCells_list (P:=P) w ⟨g,off',none⟩ (((cells.toList.take cs.length).drop off).take (len * size)) (fun j v hj=>by
       rcases hoo with rfl|hz
       ·rw[Addr.dh,fO k3]
        simp only[List.getElem?_take,List.getElem?_drop] at hj
        split at hj
        ·split at hj
         ·simpa using hj
         ·cases hj
        ·cases hj
       ·have hl0:len=0:=by omega
        subst hl0
        simp at hj)
      have hl2:(((cells.toList.take cs.length).drop off).take (len * size)).length=((List.range len).map fun i=>(cs.drop (off+i * size)).take size).length * size:=by
       rw[hvl];simp
      rw[hl2] at this
      exact this
   ·cases he
  ·cases he
 ·cases he
theorem jt(s:Sim K G ok w0 h w){size:Nat}{x:AV}{rows:List (List AV)}(he:eH h size x=some rows){c:Value}(hv:aI K x c):
 ∃dF,(Builtin.lenOf c).run P w= .ok rows.length w/\(∀r∈rows,r.length=size)/\ao K rows.flatten dF/\rows.flatten.all AV.bu=true/\dF.length=rows.length * size/\
  (Builtin.firstCells size rows.length c).run P w= .ok dF.toArray w:=by
 unfold eH at he
 split at he
 ·rename_i str
  split at he
  ·rename_i h1
   injection he with he;subst he;subst h1
   obtain⟨rfl,_⟩:=hv.bm
   have hl:(str.data.toList.map dp).length=str.size:=by rw[List.length_map];rfl
   refine⟨str.data.toList.map fun b=> .int .u8 b.toNat,by rw[hl];rfl,ga _,tc _,qQ _,by simp,?_⟩
   rw[hl]
   have:str.extract 0 str.size=str:=by simp
   have e2:str.data.map (fun b=>Value.int .u8 b.toNat)=(str.data.toList.map fun b=>Value.int .u8 b.toNat).toArray:=by apply Array.ext';simp
   simp only[Builtin.firstCells,this,Sem.run_pure,e2]
  ·cases he
 ·obtain⟨a,cap,dF,rfl,hr,hvs,ha,hlen,hload,hnil⟩:=ou (P:=P) s he hv
  refine⟨dF,rfl,hr,hvs,ha,hlen,?_⟩
  cases a with
  |none=>
   have:=hnil rfl
   subst this
   have:dF=[]:=by simpa using hlen
   subst this
   rfl
  |some b=>exact hload b rfl
theorem nO(z:Array Value)(n:Nat):(Builtin.zeroCells z n).size=n * z.size:=by simp[Builtin.zeroCells]
theorem HT(s:Sim K G ok w0 h w){d:List Nat}(hd:∀n∈h.dead,n∈d){t0 t1 elem:TypeId}{ts:Array TypeId}{ty:TypeId}{i:TypeInfo}{d1:TypeDesc}(h0:ts[0]?=some t0)(hu:P.underlying t0=some (.slice elem))
 (h1:ts[1]?=some t1) (hu1:P.underlying t1=some d1) (hd1:∀k,d1≠ .int k) (hi:P.info? elem=some i) (hz:(i.zero.map fun z=>z.cells.size)=some i.size)
 {es new:List (List AV)} {a:Option Addr} {cap:Nat} {c cx:Value} (hc:c= .slice a es.length cap) (hcap:cap<es.length+new.length)
 (hr:∀r∈es,r.length=i.size) (ha:es.flatten.all AV.bu=true) {dF:List Value} (hvs:ao K es.flatten dF) (hf:(Builtin.firstCells i.size es.length c).run P {w with drawn:=w.drawn+1}= .ok dF.toArray {w with drawn:=w.drawn+1})
 {nv:List Value} (hlx:(Builtin.lenOf cx).run P w= .ok new.length w) (hrn:∀r∈new,r.length=i.size) (hvn:ao K new.flatten nv) (han:new.flatten.all AV.bu=true)
 (hfx:(Builtin.firstCells i.size new.length cx).run P {w with drawn:=w.drawn+1}= .ok nv.toArray {w with drawn:=w.drawn+1})
 (hb:(es.length+new.length) * i.bytes<=140737488355328) (hm:es.length+new.length<=9223372036854775807):
 ∃K' v w',K.Le K'/\Sim K' G ok w0 ({h with dead:=d}.fresh i.size (es++new)).2 w'/\aI K' ({h with dead:=d}.fresh i.size (es++new)).1 v/\(Builtin.append_ ts ty #[c,cx]).run P w= .ok v w':=by
 simp only[Option.map_eq_some_iff] at hz
 obtain⟨z,hz,hzs⟩:=hz
 have hq:∃nc,es.length+new.length<=nc/\(choose (.appendCap (es.length+new.length) cap elem)).run P w= .ok nc {w with drawn:=w.drawn+1}:=by
  refine⟨_,?_,by simp[Question.forced];rfl⟩
  simp[Question.cut]
 obtain⟨nc,hnc,hch⟩:=hq
 let rest:=Builtin.zeroCells z.cells (nc - (es.length+new.length))
 let cells:Array Value:=dF.toArray++nv.toArray++rest
 let w1:World:={w with drawn:=w.drawn+1}
 let w2:World:={w1 with heap:=w1.heap.push (.cells cells elem)}
 have hl1:dF.length=es.length * i.size:=by rw[<-hvs.length,a8 hr]
 have hl2:nv.length=new.length * i.size:=by rw[<-hvn.length,a8 hrn]
 have hlen:(es++new).length * i.size=(dF++nv).length:=by rw[List.length_append,List.length_append,hl1,hl2,Nat.add_mul]
 have hzero:(zeroValue elem).run P w1= .ok z w1:=by simp[zeroValue,eM hi,hz]
 have hfits:=growslice_fits (bytes:=i.bytes) hcap hb
 have hrun:(Builtin.append_ ts ty #[c,cx]).run P w= .ok (.slice (some ⟨w.heap.size,0,none⟩) (es.length+new.length) nc) w2:=by
  subst hc
  have e1:¬(((es.length+new.length:Nat):Int)>IntKind.i64.max):=by simp only[IntKind.max,IntKind.signed,IntKind.bits];simp;omega
  have e2:¬(Builtin.nextslicecap (es.length+new.length) cap * i.bytes>2^48):=by omega
  have e3:¬(es.length+new.length<=cap):=by omega
  cases d1<;>first|exact absurd rfl (hd1 _) | (simp only[Builtin.append_,h0,List.getElem?_toArray,List.getElem?_cons_zero,List.getElem?_cons_succ,Sem.run_bind,aH hu,Result.andThen_ok,sizeOf,eM hi,Sem.run_pure,h1,aH hu1,Bool.false_eq_true,if_false,hlx,e3,e1,e2,false_and,hch,run_askRoom,hf,Bool.not_false,if_true,hfx,newRow,run_newObj,hzero,w1,w2,cells,rest])
 have hs1:cells.size=nc * i.size:=by
  simp only[cells,Array.size_append,List.size_toArray,rest,nO,hl1,hl2,hzs]
  rw[Nat.sub_mul]
  have:(es.length+new.length) * i.size<=nc * i.size:=Nat.mul_le_mul_right _ hnc
  rw[Nat.add_mul] at this ⊢
  omega
 have hthis:w2.heap[w.heap.size]?=some (.cells cells elem (0,0)):=by simp[w2,w1]
 obtain⟨K',le,s',hv⟩:=s.uB (w':=w2) hd (sz:=i.size) (es:=es++new) (cells:=cells) (e:=elem) (fz:=(0,0)) (cap:=nc)
  (fun r hm=>by rcases List.mem_append.1 hm with hm|hm;exact hr r hm;exact hrn r hm) (by rw[List.flatten_append,List.all_append,ha,han];rfl) (by
   have:cells.toList.take ((es++new).length * i.size)=dF++nv:=by
    rw[hlen]
    simp only[cells,Array.toList_append]
    rw[List.take_append_of_le_length (by simp)]
    exact List.take_of_length_le (by simp)
   rw[this,List.flatten_append]
   exact hvs.append hvn) rfl rfl rfl (by simp[w2,w1]) (fun k hk=>fe w _ hk) hthis (by rw[List.length_append];exact hnc) (by rw[hs1];exact Nat.le_refl _) (fun j _=>D6 j)
 rw[List.length_append] at hv
 exact⟨K',_,w2,le,s',hv,hrun⟩
theorem Fi(s:Sim K G ok w0 h w){ts:Array TypeId}{ty elem:TypeId}{kn:IntKind}{a x y:AV}{h':ae}(hu:(ts[0]?).bind P.underlying=some (.slice elem))(hu1:(ts[1]?).bind P.underlying=some (.int kn))
 (he:ua P h ts elem a x=some (y,h')) {c cx:Value} (ha:aI K a c) (hx:aI K x cx):
 ∃K' v w',K.Le K'/\Sim K' G ok w0 h' w'/\aI K' y v/\(Builtin.append_ ts ty #[c,cx]).run P w= .ok v w':=by
 unfold ua at he
 split at he
 ·rename_i sz kk n
  obtain⟨rfl,_⟩:=hx.bm
  split at he
  ·rename_i i zero hi hz
   obtain⟨z,hz1,hz2,hz3⟩:=kU (K:=K) hz w
   split at he
   ·rename_i hcond
    obtain⟨h0,h1,h2,h3,h5,h6⟩:=hcond
    injection he with he
    obtain⟨rfl,rfl⟩:=Prod.mk.inj he
    have hzero:i.zero=some z:=by
     simp only[zeroValue,Sem.run_bind,eM hi,Result.andThen_ok] at hz1
     cases hzz:i.zero with
     |none=>rw[hzz] at hz1;simp at hz1
     |some v=>rw[hzz] at hz1;simp at hz1;rw[hz1]
    have hzs:z.cells.size=i.size:=by rw[<-h6,hz2.length];simp
    obtain⟨m,rfl⟩:∃m:Nat,n=m:=⟨n.toNat,by omega⟩
    rw[Int.toNat_natCast]
    obtain⟨t0,t1,rfl⟩:∃t0 t1,ts=#[t0,t1]:=by
     obtain⟨l⟩:=ts
     match l,h0 with
     | [a,b],_=>exact⟨a,b,rfl⟩
    have hu:P.underlying t0=some (.slice elem):=hu
    have hu1:P.underlying t1=some (.int kn):=hu1
    have hm:m * i.bytes<=140737488355328:=by
     have:((m * i.bytes:Nat):Int)<=140737488355328:=by rw[Int.natCast_mul];exact h2
     omega
    have hrun:=Go.Lib.run_append_nil_zeros (P:=P) w t0 t1 ty elem i z kk kn hu hu1 hi hzero m (by omega) h5 (by omega) (by omega)
    have hge:=grownCap_ge w m 0 elem
    generalize grownCap w m 0 elem=gc at *
    have hc1:(Builtin.zeroCells z.cells m).toList=(List.replicate m z.cells.toList).flatten:=fG _ _
    have hl1:(List.replicate m z.cells.toList).flatten.length=(List.replicate m zero).flatten.length:=(hz2.eN m).length.symm
    have hl2:(List.replicate m zero).flatten.length=m * i.size:=a8 (sz:=i.size) (es:=List.replicate m zero) (fun r hr=>by rw[List.eq_of_mem_replicate hr];exact h6) |>.trans (by rw[List.length_replicate])
    have hsz:(Builtin.zeroCells z.cells m++Builtin.zeroCells z.cells (gc - m)).size=gc * i.size:=by
     rw[Array.size_append,<-Array.length_toList,<-Array.length_toList,hc1,hl1,hl2]
     have e2:(Builtin.zeroCells z.cells (gc - m)).toList=(List.replicate (gc - m) z.cells.toList).flatten:=fG _ _
     rw[e2,<-(hz2.eN (gc - m)).length]
     have e3:(List.replicate (gc - m) zero).flatten.length=(gc - m) * i.size:=a8 (sz:=i.size) (es:=List.replicate (gc - m) zero) (fun r hr=>by rw[List.eq_of_mem_replicate hr];exact h6) |>.trans (by rw[List.length_replicate])
     rw[e3,<-Nat.add_mul,Nat.add_sub_cancel' hge]
    obtain⟨q1,q2⟩:=(s.drew (w.drawn+1)).yl (cs:=(List.replicate m zero).flatten) (cells:=Builtin.zeroCells z.cells m++Builtin.zeroCells z.cells (gc - m)) elem (some (m,i.size,gc * i.size))
     (by
      rw[Array.toList_append,hc1,List.take_append_of_le_length (by rw[hl1];exact Nat.le_refl _),List.take_of_length_le (by rw[hl1];exact Nat.le_refl _)]
      exact hz2.eN m) (iD hz3 _)
     (fun N sz room q=>by
      injection q with q
      injection q with q1 q
      injection q with q2 q3
      subst q1 q2 q3
      exact .inr ⟨hl2,by rw[hsz];exact Nat.le_refl _⟩)
    have hlen:h.boxes.length=K.β.length:=s.js.symm
    cases ha with
    |nil=>
     cases q2 with
     |box _ _ _ hb=>
      exact⟨_,_,_,K.o5 _ _,q1,.arr _ _ _ _ _ _ _ hb (Nat.le_refl _) hge (.inl rfl) (.inr (.inr (.inr ⟨i.size,gc * i.size,by simp only[aB.nW,hlen,if_true],h5,Nat.le_refl _⟩))),hrun⟩
    |list _ _ _ _ _ _ _ _ _ _ _ _ ht _=>exact ht.2.elim
   ·cases he
  ·cases he
 ·cases he
set_option maxHeartbeats 1000000 in
theorem qn(s:Sim K G ok w0 h w){ts:Array TypeId}{ty:TypeId}{a x y:AV}{h':ae}(he:bP P h ts a x=some (y,h')){c cx:Value}(ha:aI K a c)(hx:aI K x cx):
 ∃K' v w',K.Le K'/\Sim K' G ok w0 h' w'/\aI K' y v/\(Builtin.append_ ts ty #[c,cx]).run P w= .ok v w':=by
 unfold bP at he
 split at he
 ·rename_i hu hu1;exact Fi s hu hu1 he ha hx
 ·rename_i elem d1 hnot hu hu1
  simp only[Option.bind_eq_some_iff] at hu hu1
  obtain⟨t0,h0,hu⟩:=hu
  obtain⟨t1,h1,hu1⟩:=hu1
  have hd1:∀k,d1≠ .int k:=fun k e=>hnot k e
  split at he
  ·cases he
  rename_i i hi
  split at he
  ·cases he
  rename_i new hnew
  split at he
  rotate_left
  ·cases he
  rename_i hz
  obtain⟨nv,n1,n2,n3,n4,n5,n6⟩:=jt (P:=P) s hnew hx
  obtain⟨nv',n1',n2',n3',n4',n5',n6'⟩:=jt (P:=P) (s.drew (w.drawn+1)) hnew hx
  split at he
  ·rename_i k sz es
   split at he
   rotate_left
   ·cases he
   rename_i hsz
   have hrows:rowsOf h i.size (.list k sz es)=some es:=by simp only[rowsOf];rw[if_pos hsz]
   obtain⟨b,cap,dF,rfl,r1,r2,r3,r4,r5,r6⟩:=ou (P:=P) (s.drew (w.drawn+1)) hrows ha
   have hf:(Builtin.firstCells i.size es.length (.slice b es.length cap)).run P {w with drawn:=w.drawn+1}= .ok dF.toArray {w with drawn:=w.drawn+1}:=by
    cases b with
    |none=>have:=r6 rfl;subst this;have:dF=[]:=by simpa using r4
           subst this;rfl
    |some b=>exact r5 b rfl
   split at he
   ·rename_i hnil
    injection he with he
    obtain⟨rfl,rfl⟩:=Prod.mk.inj he
    subst hnil
    have hnv:nv=[]:=by simpa using n5
    subst hnv
    refine⟨K,.slice b es.length cap,w,.refl K,s,ha,?_⟩
    have hcap:es.length<=cap:=by
     cases ha with
     |nil=>exact Nat.le_refl _
     |eK=>exact Nat.le_refl _
     |list _ _ _ _ _ _ _ _ _ _ _ _ ht _=>exact ht.1
    have n1:(Builtin.lenOf cx).run P w= .ok 0 w:=n1
    have n6:(Builtin.firstCells i.size 0 cx).run P w= .ok #[] w:=n6
    cases d1<;>first|exact absurd rfl (hd1 _) | (cases b<;>simp only[Builtin.append_,h0,List.getElem?_toArray,List.getElem?_cons_zero,List.getElem?_cons_succ,Sem.run_bind,aH hu,Result.andThen_ok,sizeOf,eM hi,Sem.run_pure,h1,aH hu1,Bool.false_eq_true,if_false,n1,Nat.add_zero,hcap,if_true,Bool.not_false,n6,storeCells])
   ·rename_i hnn
    have hnpos:0<new.length:=by cases new with|nil=>exact absurd rfl hnn|cons _ _=>simp
    split at he
    rotate_left
    ·cases he
    rename_i hb
    have grow:∀d:List Nat,(∀n∈h.dead,n∈d)->cap<es.length+new.length->
     ∃K' v w',K.Le K'/\Sim K' G ok w0 ({h with dead:=d}.fresh i.size (es++new)).2 w'/\aI K' ({h with dead:=d}.fresh i.size (es++new)).1 v/\(Builtin.append_ ts ty #[.slice b es.length cap,cx]).run P w= .ok v w':=
     fun d hd hcap=>HT s hd h0 hu h1 hu1 hd1 hi hz.2 rfl hcap r1 r3 r2 hf n1 n2 n3' n4 n6' hb.1 hb.2
    split at he
    ·injection he with he
     obtain⟨rfl,rfl⟩:=Prod.mk.inj he
     cases ha with
     |nil=>exact grow h.dead (fun _ hm=>hm) (by simpa using hnpos)
     |list _ _ _ _ _ _ _ _ _ _ _ _ ht _=>exact ht.2.elim
    ·injection he with he
     obtain⟨rfl,rfl⟩:=Prod.mk.inj he
     cases ha with
     |eK=>exact grow h.dead (fun _ hm=>hm) (by simpa using hnpos)
     |list _ _ _ _ _ _ _ _ _ _ _ _ ht _=>exact grow h.dead (fun _ hm=>hm) (by have:=ht.2;simp only at this;omega)
    ·rename_i n
     split at he
     rotate_left
     ·cases he
     rename_i hal0
     simp only[Bool.and_eq_true,decide_eq_true_eq] at hal0
     obtain⟨hal,hsi⟩:=hal0
     injection he with he
     obtain⟨rfl,rfl⟩:=Prod.mk.inj he
     rcases Nat.lt_or_ge cap (es.length+new.length) with hcap|hcap
     ·exact grow (n::h.dead) (fun _ hm=>List.mem_cons_of_mem _ hm) hcap
     ·cases ha with
      |list _ _ _ g off n' _ cells hn hr hvs hic ht hac=>
       obtain⟨t1',t2,t3,t4⟩:=ht.2
       obtain⟨k1,k2,k3,bc,be,bz,k4,k5,k6⟩:=s.tok n hal
       subst t2
       subst hsi
       have hbs:bc.size=(K.tk n).2.2:=k5
       have hfit:off+es.length * i.size+nv.length<=bc.size:=by
        have:(es.length+new.length) * i.size<=cap * i.size:=Nat.mul_le_mul_right _ hcap
        rw[Nat.add_mul] at this
        omega
       obtain⟨w',cells',q1,q2,q3⟩:=fZ (P:=P) (off+es.length * i.size) be bz nv 0 bc w k4 (by omega) (qN n3 n4) (fun j hj hj'=>by
        rw[<-ie k4]
        exact k6 j (by omega) (by omega))
       have hl3:cells'.size=bc.size:=by
        have h1:cells'.toList.length=bc.toList.length:=by
         rw[q3]
         simp only[List.length_append,List.length_take,List.length_drop,Array.length_toList,Nat.add_zero]
         omega
        simpa using h1
       have hget:∀j,j<off+es.length * i.size->cells'[j]?=bc[j]?:=fun j hj=>by
        rw[<-Array.getElem?_toList,q3,<-Array.getElem?_toList,List.append_assoc,List.getElem?_append_left (by simp;omega),List.getElem?_take,if_pos (by omega)]
       have hget2:∀j,j<nv.length->cells'[off+es.length * i.size+j]?=nv[j]?:=fun j hj=>by
        have hlt:(bc.toList.take (off+es.length * i.size+0)).length=off+es.length * i.size:=by simp;omega
        rw[<-Array.getElem?_toList,q3,List.append_assoc,List.getElem?_append_right (by omega),hlt,List.getElem?_append_left (by omega)]
        congr 1;omega
       have hrow:=s.row (h':=({h with dead:=n::h.dead}.fresh i.size (es++new)).2) (w':=w') (g:=(K.tk n).1) (off:=off+es.length * i.size) (m:=off+(es.length+new.length) * i.size) (cells:=cells') (e:=be) (fz:=bz) rfl rfl rfl
        (fun t ht=>(s9 (fun _ hm=>List.mem_cons_of_mem _ hm) ht).imp id fun hh=>⟨hh.1,fun heq=>hh.2 (by rw[s.oq t n hh.1 hal heq];exact List.mem_cons_self ..)⟩)
        k1 k2 (fun j hj=>k3 j (by omega)) (by rw[q2.size];exact Nat.le_refl _) q2.os q2.tape q2.output (fun k o hk ho=>(q2.other k hk).trans ho) q2.this (fun o ho=>by rw[k4] at ho;injection ho with ho;subst ho;exact⟨_,_,_,rfl⟩)
        (fun j c hc=>by
         have hj:j<off+es.length * i.size:=by
          rcases Nat.lt_or_ge j (off+es.length * i.size) with h|h
          ·exact h
          ·rw[k3 j (by omega)] at hc;cases hc
         rw[hget j hj,<-fO k4];exact s.ic _ _ _ hc)
        (by rw[Nat.add_mul];omega) (by rw[Nat.add_mul,hl3];omega) (fun j hj hl=>by rw[<-ie k4];rw[Nat.add_mul] at hj;exact k6 j (by omega) (by omega))
       have le:=aB.Ch (K:=K) (g:=(K.tk n).1) (off:=off+es.length * i.size) (m:=off+(es.length+new.length) * i.size) (size:=cells'.size) (cells:=fun j=>cells'[j]?) (fun j hj=>k3 j (by omega)) k1
       have hcl:cells.length=es.length * i.size:=by rw[<-hvs.length,a8 hr]
       refine⟨_,.slice (some ⟨(K.tk n).1,off,none⟩) (es.length+new.length) cap,w',le,hrow,?_,?_⟩
       ·refine .list (.free h.tn) i.size (es++new) (K.tk n).1 off _ cap (cells++nv) (by simp) (fun r hm=>by rcases List.mem_append.1 hm with hm|hm;exact hr r hm;exact n2 r hm) (by rw[List.flatten_append];exact(hvs.append n3).mono le) (fun j c hj=>?_) ⟨hcap,?_⟩ (by rw[List.flatten_append,List.all_append,hac,n4];rfl)
        ·rcases Nat.lt_or_ge j cells.length with hlt|hge
         ·rw[List.getElem?_append_left hlt] at hj
          exact le.ic _ _ _ (hic j c hj)
         ·rw[List.getElem?_append_right hge] at hj
          have hjl:j - cells.length<nv.length:=(List.getElem?_eq_some_iff.1 hj).1
          simp only[aB.row]
          rw[if_pos (by refine⟨trivial,by omega,by rw[Nat.add_mul];omega⟩)]
          have:=hget2 (j - cells.length) hjl
          rw[hj] at this
          rw[<-this];congr 1;omega
        ·simp only[aB.row,s.tn,if_true]
         refine⟨by omega,trivial,trivial,by omega⟩
       ·have hadd:(⟨(K.tk n).1,off,none⟩:Addr).add (es.length * i.size)=⟨(K.tk n).1,off+es.length * i.size,none⟩:=Addr.dh _ _ _
        cases d1<;>first|exact absurd rfl (hd1 _) | (simp only[Builtin.append_,h0,List.getElem?_toArray,List.getElem?_cons_zero,List.getElem?_cons_succ,Sem.run_bind,aH hu,Result.andThen_ok,sizeOf,eM hi,Sem.run_pure,h1,aH hu1,Bool.false_eq_true,if_false,n1,hcap,if_true,Bool.not_false,n6,hadd,q1])
    ·cases he
  ·rename_i b off len cap
   split at he
   ·rename_i cs hcs
    split at he
    ·rename_i hc
     injection he with he
     obtain⟨rfl,rfl⟩:=Prod.mk.inj he
     cases ha with
     |arr _ g _ _ _ off' cap' hb hl hcc hoo hrr=>
      obtain⟨k1,k2,ka,cells,e,k3,k4⟩:=s.box b g cs hb hcs
      have hsz2:cs.length<=cells.size:=k4.le
      have hm:(len+new.length) * i.size<=cap * i.size:=Nat.mul_le_mul_right _ hc.1
      rw[Nat.add_mul] at hm
      have hcc2:len+new.length<=cap':=by omega
      by_cases hz0:cap=0
      ·have hn0:new=[]:=by cases new with|nil=>rfl|cons _ _=>simp at hc;omega
       subst hn0
       have hnv:nv=[]:=by simpa using n5
       subst hnv
       have n1:(Builtin.lenOf cx).run P w= .ok 0 w:=n1
       have n6:(Builtin.firstCells i.size 0 cx).run P w= .ok #[] w:=n6
       have hset:h.boxes.set b (bI cs (off+len * i.size) ([]:List (List AV)).flatten)=h.boxes:=by
        rw[show bI cs (off+len * i.size) ([]:List (List AV)).flatten=cs by simp[bI]]
        apply List.ext_getElem?
        intro k
        rw[List.getElem?_set]
        split
        ·rename_i e;subst e
         rw[if_pos (List.getElem?_eq_some_iff.1 hcs).1,hcs]
        ·rfl
       rw[hset]
       refine⟨K,.slice (some ⟨g,off',none⟩) len cap',w,.refl K,s,.arr _ _ _ _ _ _ _ hb hl hcc hoo hrr,?_⟩
       have hlc:len<=cap':=by omega
       cases d1<;>first|exact absurd rfl (hd1 _) | (simp only[Builtin.append_,h0,List.getElem?_toArray,List.getElem?_cons_zero,List.getElem?_cons_succ,Sem.run_bind,aH hu,Result.andThen_ok,sizeOf,eM hi,Sem.run_pure,h1,aH hu1,Bool.false_eq_true,if_false,n1,Nat.add_zero,hlc,if_true,Bool.not_false,n6,storeCells])
      ·have hoe:off'=off:=by rcases hoo with p|p<;>omega
       obtain⟨w',cells',q1,q2,q3⟩:=fZ (P:=P) (off+len * i.size) e (0,0) nv 0 cells w k3 (by omega) (qN n3 n4) (fun j _ _=>D6 j)
       have hnl:new.flatten.length=new.length * i.size:=by rw[n3.length,n5]
       refine⟨K,.slice (some ⟨g,off',none⟩) (len+new.length) cap',w',.refl K,s.uz hb hcs (by rw[hnl];omega) k3 q2 q3 n3 n4,.arr _ _ _ _ _ _ _ hb hc.1 hcc hoo hrr,?_⟩
       have hadd:(⟨g,off,none⟩:Addr).add (len * i.size)=⟨g,off+len * i.size,none⟩:=Addr.dh _ _ _
       rw[hoe]
       cases d1<;>first|exact absurd rfl (hd1 _) | (simp only[Builtin.append_,h0,List.getElem?_toArray,List.getElem?_cons_zero,List.getElem?_cons_succ,Sem.run_bind,aH hu,Result.andThen_ok,sizeOf,eM hi,Sem.run_pure,h1,aH hu1,Bool.false_eq_true,if_false,n1,hcc2,if_true,Bool.not_false,n6,hadd,q1])
    ·cases he
   ·cases he
  ·cases he
 ·cases he
theorem HU{t0 t1 elem:TypeId}{ts:Array TypeId}{ty:TypeId}{i:TypeInfo}{d1:TypeDesc}(h0:ts[0]?=some t0)(hu:P.underlying t0=some (.slice elem))
 (h1:ts[1]?=some t1) (hu1:P.underlying t1=some d1) (hd1:∀k,d1≠ .int k) (hi:P.info? elem=some i) (hz:(i.zero.map fun z=>z.cells.size)=some i.size)
 {n m:Nat} {a:Option Addr} {cap:Nat} {cx:Value} (hcap:cap<n+m) {dF:List Value} (hvl:dF.length=n * i.size)
 (hf:(Builtin.firstCells i.size n (.slice a n cap)).run P {w with drawn:=w.drawn+1}= .ok dF.toArray {w with drawn:=w.drawn+1})
 {nv:List Value} (hlx:(Builtin.lenOf cx).run P w= .ok m w) (hnl:nv.length=m * i.size)
 (hfx:(Builtin.firstCells i.size m cx).run P {w with drawn:=w.drawn+1}= .ok nv.toArray {w with drawn:=w.drawn+1})
 (hb:(n+m) * i.bytes<=140737488355328) (hm:n+m<=9223372036854775807):
 ∃nc cells,n+m<=nc/\cells.size=nc * i.size/\cells.toList.take ((n+m) * i.size)=dF++nv/\
  (Builtin.append_ ts ty #[.slice a n cap,cx]).run P w= .ok (.slice (some ⟨w.heap.size,0,none⟩) (n+m) nc) {w with drawn:=w.drawn+1,heap:=w.heap.push (.cells cells elem)}:=by
 simp only[Option.map_eq_some_iff] at hz
 obtain⟨z,hz,hzs⟩:=hz
 have hq:∃nc,n+m<=nc/\(choose (.appendCap (n+m) cap elem)).run P w= .ok nc {w with drawn:=w.drawn+1}:=by
  refine⟨_,?_,by simp[Question.forced];rfl⟩
  simp[Question.cut]
 obtain⟨nc,hnc,hch⟩:=hq
 let rest:=Builtin.zeroCells z.cells (nc - (n+m))
 let cells:Array Value:=dF.toArray++nv.toArray++rest
 let w1:World:={w with drawn:=w.drawn+1}
 have hlen:(n+m) * i.size=(dF++nv).length:=by rw[List.length_append,hvl,hnl,Nat.add_mul]
 have hzero:(zeroValue elem).run P w1= .ok z w1:=by simp[zeroValue,eM hi,hz]
 have hfits:=growslice_fits (bytes:=i.bytes) hcap hb
 refine⟨nc,cells,hnc,?_,?_,?_⟩
 ·simp only[cells,Array.size_append,List.size_toArray,rest,nO,hvl,hnl,hzs]
  rw[Nat.sub_mul]
  have:(n+m) * i.size<=nc * i.size:=Nat.mul_le_mul_right _ hnc
  rw[Nat.add_mul] at this ⊢
  omega
 ·rw[hlen]
  simp only[cells,Array.toList_append]
  rw[List.take_append_of_le_length (by simp)]
  exact List.take_of_length_le (by simp)
 ·have e1:¬(((n+m:Nat):Int)>IntKind.i64.max):=by simp only[IntKind.max,IntKind.signed,IntKind.bits];simp;omega
  have e2:¬(Builtin.nextslicecap (n+m) cap * i.bytes>2^48):=by omega
  have e3:¬(n+m<=cap):=by omega
  cases d1<;>first|exact absurd rfl (hd1 _) | (simp only[Builtin.append_,h0,List.getElem?_toArray,List.getElem?_cons_zero,List.getElem?_cons_succ,Sem.run_bind,aH hu,Result.andThen_ok,sizeOf,eM hi,Sem.run_pure,h1,aH hu1,Bool.false_eq_true,if_false,hlx,e3,e1,e2,false_and,hch,run_askRoom,hf,Bool.not_false,if_true,hfx,newRow,run_newObj,hzero,w1,cells,rest])
set_option maxHeartbeats 2000000 in
theorem HV(s:Sim K G ok w0 h w){ts:Array TypeId}{ty:TypeId}{a x y:AV}{h':ae}(he:iX P h ts a x=some (y,h')){c cx:Value}(ha:aI K a c)(hx:aI K x cx):
 ∃K' v w',K.Le K'/\Sim K' G ok w0 h' w'/\aI K' y v/\(Builtin.append_ ts ty #[c,cx]).run P w= .ok v w':=by
 have he0:=he
 unfold iX at he
 split at he
 ·cases he
 ·rename_i elem d1 hnot hu0 hu01
  have hu:=hu0
  have hu1:=hu01
  simp only[Option.bind_eq_some_iff] at hu hu1
  obtain⟨t0,h0,hu⟩:=hu
  obtain⟨t1,h1,hu1⟩:=hu1
  have hd1:∀k,d1≠ .int k:=fun k e=>hnot k e
  split at he
  ·cases he
  rename_i i hi
  split at he
  ·cases he
  rename_i new hnew
  split at he
  rotate_left
  ·cases he
  rename_i hz
  obtain⟨nv,n1,n2,n3,n4,n5,n6⟩:=jt (P:=P) s hnew hx
  obtain⟨nv',n1',n2',n3',n4',n5',n6'⟩:=jt (P:=P) (s.drew (w.drawn+1)) hnew hx
  have fresh:∀{h0:ae} (s0:Sim K G ok w0 h0 w) {n cap:Nat} {ad:Option Addr} {cs:List AV} {dF:List Value},h0.boxes.length=h.boxes.length->cap<n+new.length->ao K cs dF->cs.all AV.bu=true->cs.length=n * i.size->
   (Builtin.firstCells i.size n (.slice ad n cap)).run P {w with drawn:=w.drawn+1}= .ok dF.toArray {w with drawn:=w.drawn+1}->(n+new.length) * i.bytes<=140737488355328->n+new.length<=9223372036854775807->
   ∃K' v w',K.Le K'/\Sim K' G ok w0 {h0 with boxes:=h0.boxes++[cs++new.flatten]} w'/\aI K' (.arr h.boxes.length 0 (n+new.length) (n+new.length)) v/\(Builtin.append_ ts ty #[.slice ad n cap,cx]).run P w= .ok v w':=by
   intro h0' s0 n cap ad cs dF hbl hcap hvs hac hcl hf hb hm
   have hnl:new.flatten.length=new.length * i.size:=a8 n2'
   obtain⟨nc,cells,g1,g2,g3,g4⟩:=HU (ty:=ty) h0 hu h1 hu1 hd1 hi hz.2 hcap (by rw[<-hvs.length,hcl]) hf n1 n5' n6' hb hm
   have hcl2:(cs++new.flatten).length=(n+new.length) * i.size:=by rw[List.length_append,hcl,hnl,Nat.add_mul]
   obtain⟨q1,q2⟩:=(s0.drew (w.drawn+1)).yl (cs:=cs++new.flatten) (cells:=cells) elem (some (n+new.length,i.size,nc * i.size)) (by rw[hcl2,g3];exact hvs.append n3') (by rw[List.all_append,hac,n4'];rfl)
    (fun N sz room q=>by
     injection q with q
     injection q with q1 q
     injection q with q2 q3
     subst q1 q2 q3
     exact .inr ⟨hcl2,by rw[g2];exact Nat.le_refl _⟩)
   cases q2 with
   |box _ _ _ hb2=>
    rw[hbl] at hb2
    refine⟨_,_,_,K.o5 _ _,q1,.arr _ _ _ _ _ _ _ hb2 (Nat.le_refl _) g1 (.inl rfl) (.inr (.inr (.inr ⟨i.size,nc * i.size,?_,hz.1,Nat.le_refl _⟩))),g4⟩
    have hlen:h.boxes.length=K.β.length:=by rw[s0.js,hbl]
    simp only[aB.nW,hlen,if_true]
  split at he
  ·rename_i k sz es
   split at he
   rotate_left
   ·cases he
   rename_i hsz
   split at he
   ·rename_i hnil
    refine qn s ?_ ha hx
    unfold bP
    rw[hu0,hu01]
    cases d1<;>first|exact absurd rfl (hd1 _) | (simp only[hi,hnew,if_pos hz,if_pos hsz,if_pos hnil];exact he)
   ·rename_i hnn
    split at he
    rotate_left
    ·cases he
    rename_i hb
    have hrows:rowsOf h i.size (.list k sz es)=some es:=by simp only[rowsOf];rw[if_pos hsz]
    obtain⟨b,cap,dF,rfl,r1,r2,r3,r4,r5,r6⟩:=ou (P:=P) (s.drew (w.drawn+1)) hrows ha
    have hf:(Builtin.firstCells i.size es.length (.slice b es.length cap)).run P {w with drawn:=w.drawn+1}= .ok dF.toArray {w with drawn:=w.drawn+1}:=by
     cases b with
     |none=>have:=r6 rfl;subst this;have:dF=[]:=by simpa using r4
            subst this;rfl
     |some b=>exact r5 b rfl
    have hnpos:0<new.length:=by cases new with|nil=>exact absurd rfl hnn|cons _ _=>simp
    have fin:cap<es.length+new.length->some (AV.arr h.boxes.length 0 (es.length+new.length) (es.length+new.length),({h with boxes:=h.boxes++[(es++new).flatten]}:ae))=some (y,h')->∃K' v w',K.Le K'/\Sim K' G ok w0 h' w'/\aI K' y v/\(Builtin.append_ ts ty #[.slice b es.length cap,cx]).run P w= .ok v w':=fun hcap hq=>by
     injection hq with hq
     obtain⟨rfl,rfl⟩:=Prod.mk.inj hq
     rw[List.flatten_append]
     exact fresh s rfl hcap r2 r3 (a8 r1) hf hb.1 hb.2
    split at he
    ·refine fin ?_ he
     cases ha with
     |nil=>simpa using hnpos
     |list _ _ _ _ _ _ _ _ _ _ _ _ ht _=>exact ht.2.elim
    ·refine fin ?_ he
     cases ha with
     |eK=>simpa using hnpos
     |list _ _ _ _ _ _ _ _ _ _ _ _ ht _=>have:=ht.2;simp only at this;omega
    ·cases he
  ·rename_i b off len cap
   split at he
   ·rename_i cs hcs
    split at he
    ·exact qn s he ha hx
    ·rename_i hgt
     split at he
     ·rename_i hc
      injection he with he
      obtain⟨rfl,rfl⟩:=Prod.mk.inj he
      obtain⟨c1,c2,c3,c4,c5,c6⟩:=hc
      subst c1
      subst c3
      cases ha with
      |arr _ g _ _ _ off' cap' hb hl hcc hoo hrr=>
       have hoe:off'=0:=by rcases hoo with p|p<;>omega
       subst hoe
       obtain⟨k1,k2,ka,cells,e,k3,k4⟩:=s.box b g cs hb hcs
       have hne:cs≠[]:=fun q=>by
        subst q
        have:=Nat.mul_pos c2 hz.1
        simp at c4;omega
       have hblt:=(List.getElem?_eq_some_iff.1 hcs).1
       have hdrop:=s.Lq b
       have hlen2:(h.boxes.set b []).length=h.boxes.length:=by simp
       rcases Nat.lt_or_ge cap' (len+new.length) with hcap|hcap
       ·refine fresh hdrop hlen2 hcap k4.1 ka c4.symm ?_ c5 c6
        have:=run_loadCells_list (P:=P) {w with drawn:=w.drawn+1} ⟨g,0,none⟩ (cells.toList.take cs.length) (fun j v hj=>by
         rw[Addr.dh,fO (w:={w with drawn:=w.drawn+1}) k3]
         simp only[List.getElem?_take] at hj
         split at hj
         ·simpa using hj
         ·cases hj)
        rw[<-k4.1.length,<-c4] at this
        rw[<-c4]
        exact this
       ·rcases hrr with r|r|r|⟨sz,room,r1,r2,r3⟩
        ·omega
        ·omega
        ·exact absurd rfl r
        ·rcases k4.2 _ _ _ r1 with q|⟨q1,q2⟩
         ·exact absurd q hne
         ·have hsz:i.size=sz:=Nat.eq_of_mul_eq_mul_left c2 (c4.trans q1)
          subst hsz
          have hle:=k4.le
          have hnl:new.flatten.length=new.length * i.size:=a8 n2
          have hroom:(len+new.length) * i.size<=cells.size:=Nat.le_trans (Nat.mul_le_mul_right _ hcap) (Nat.le_trans r3 q2)
          rw[Nat.add_mul] at hroom
          obtain⟨w',cells',w1,w2,w3⟩:=fZ (P:=P) (0+len * i.size) e (0,0) nv 0 cells w k3 (by omega) (qN n3 n4) (fun j _ _=>D6 j)
          have hclen:cells'.toList.length=cells.toList.length:=by
           rw[w3];exact qk (by simp only[Array.length_toList];omega)
          obtain⟨s3,hb3⟩:=hdrop.Ls (g:=g) (cs:=cs++new.flatten) (cells:=cells') (e:=e) k1 k2
           (fun b2 hb2=>by
            show(h.boxes.set b [])[b2]?=some []
            rw[List.getElem?_set]
            by_cases hbb:b=b2
            ·subst hbb;rw[if_pos rfl,if_pos hblt]
            ·rw[if_neg hbb]
             rcases s.βnd _ _ _ hb hb2 with p|p|p
             ·exact absurd p hbb
             ·rw[hcs] at p;injection p with p;exact absurd p hne
             ·exact p)
           (fun t ht hq=>by
            obtain⟨_,q,_⟩:=s.tok t ht
            exact q b (by rw[hq];exact hb)) k3 (some (len+new.length,i.size,cells.size))
           (fun N sz room q=>by
            injection q with q
            injection q with q1 q
            injection q with q2 q3
            subst q1 q2 q3
            refine .inr ⟨by rw[List.length_append,<-c4,hnl,Nat.add_mul],?_⟩
            simp only[Array.length_toList] at hclen
            omega) w2
           (by
            rw[List.length_append,hnl,w3]
            have e1:cs.length+new.length * i.size=0+len * i.size+0+nv.length:=by omega
            rw[e1,List.take_append_of_le_length (by simp only[List.length_append,List.length_take,Array.length_toList];omega),List.take_of_length_le (by simp only[List.length_append,List.length_take,Array.length_toList];omega)]
            have e2:0+len * i.size+0=cs.length:=by omega
            rw[e2]
            exact k4.1.append n3) (by rw[List.all_append,ka,n4];rfl)
          rw[hlen2] at hb3
          refine⟨_,.slice (some ⟨g,0,none⟩) (len+new.length) cap',w',K.o5 _ _,s3,.arr _ _ _ _ _ _ _ hb3 (Nat.le_refl _) hcap (.inl rfl) (.inr (.inr (.inr ⟨i.size,cells.size,?_,hz.1,Nat.le_trans r3 q2⟩))),?_⟩
          ·have hlen:h.boxes.length=K.β.length:=s.js.symm
           simp only[aB.nW,hlen,if_true]
          ·have hadd:(⟨g,0,none⟩:Addr).add (len * i.size)=⟨g,0+len * i.size,none⟩:=Addr.dh _ _ _
           cases d1<;>first|exact absurd rfl (hd1 _) | (simp only[Builtin.append_,h0,List.getElem?_toArray,List.getElem?_cons_zero,List.getElem?_cons_succ,Sem.run_bind,aH hu,Result.andThen_ok,sizeOf,eM hi,Sem.run_pure,h1,aH hu1,Bool.false_eq_true,if_false,n1,hcap,if_true,Bool.not_false,n6,hadd,w1])
     ·cases he
   ·cases he
  ·cases he
 ·cases he
theorem uC(s:Sim K G ok w0 h w){t:TypeId}{len:Nat}{parts:Array (Nat × Operand)}{ρ:Operand->AV}{ρ':Operand->Value}(hρ:∀x,aI K (ρ x) (ρ' x)){k:Tok}{sz:Nat}{es:List (List AV)}
 (he:aN P t len (parts.toList.map fun p=>(p.1,ρ p.2))=some (.list k sz es)):
 ∃K' v w',K.Le K'/\Sim K' G ok w0 (h.fresh sz es).2 w'/\aI K' (h.fresh sz es).1 v/\(Instr.buildSlice t len (parts.map fun p=>(p.1,ρ' p.2))).run P w= .ok v w':=by
 obtain⟨p1,p2⟩:=r8 hρ parts
 unfold aN at he
 split at he
 ·rename_i elem hu
  split at he
  ·rename_i size zero hs hz
   obtain⟨z,hz1,hz2,hz3⟩:=kU (K:=K) hz w
   split at he
   ·rename_i hc
    simp only[Option.map_eq_some_iff] at he
    obtain⟨out,ho,he⟩:=he
    injection he with _ e1 e2
    subst e1;subst e2
    obtain⟨f1,f2,f3⟩:=pU (fun r hr=>by rw[(List.mem_replicate.1 hr).2];exact hc.2.1) ho
    have hzs:z.cells.size=size:=by rw[<-hc.2.1,hz2.length];simp
    have hcells:((Array.range (len * size)).map (z.cells[·%z.cells.size]!)).toList=(List.replicate len z.cells.toList).flatten:=by rw[<-hzs];exact fG _ _
    obtain⟨out',q1,q2⟩:=qO (cells':=(Array.range (len * size)).map (z.cells[·%z.cells.size]!)) f1 (by rw[hcells];exact hz2.eN len) p1 p2
    have hol:out.length=len:=by rw[f3];simp
    have hsz2:out'.toList.length=len * size:=by rw[<-q2.length,a8 f2,hol]
    obtain⟨K',le,s',hv⟩:=s.uB (w':={w with heap:=w.heap.push (.cells out' elem)}) (d:=h.dead) (fun _ hm=>hm) (sz:=size) (es:=out) (cells:=out') (e:=elem) (fz:=(0,0)) (cap:=len)
     f2 (wS f1 (iD hz3 len)) (by rw[List.take_of_length_le (by rw[hsz2,hol];exact Nat.le_refl _)];exact q2) rfl rfl rfl (by simp) (fun k hk=>fe w _ hk) (by simp)
     (by omega) (by rw[<-hsz2];simp) (fun j hj=>by simp[frz])
    rw[hol] at hv
    refine⟨K',.slice (some ⟨w.heap.size,0,none⟩) len len,_,le,s',hv,?_⟩
    by_cases h0:len * size=0
    ·have h00:len=0:=by
      rcases Nat.mul_eq_zero.1 h0 with h|h
      ·exact h
      ·omega
     subst h00
     simp only[Nat.zero_mul] at q1
     have e1:(Array.range 0).map (fun x=>(#[]:Array Value)[x%(#[]:Array Value).size]!)=(Array.range 0).map (z.cells[·%z.cells.size]!):=by simp
     simp only[Instr.buildSlice,Sem.run_bind,aH hu,Result.andThen_ok,dw hs,Nat.zero_mul]
     simp only[Nat.not_lt_zero,gt_iff_lt,if_false,Nat.reducePow,if_true,Sem.run_pure,Result.andThen_ok,e1,q1,newRow,Sem.run_bind,run_newObj]
    ·simp only[Instr.buildSlice,Sem.run_bind,aH hu,Result.andThen_ok,dw hs]
     rw[if_neg (by omega),if_neg h0]
     simp only[Sem.run_pure,Sem.run_bind,hz1,Result.andThen_ok,q1,newRow,run_newObj]
   ·cases he
  ·cases he
 ·cases he
theorem Sim.kill(s:Sim K G ok w0 h w){t:Nat}(ha:alive h t=true)(n:Nat):Sim K G ok w0 {h with dead:=t::h.dead} (w.freeze ⟨(K.tk t).1,n,none⟩ 1):=by
 obtain⟨t1,t2,t3,c0,e0,z0,t4,t5,t6⟩:=s.tok t ha
 have hthis:∃z,(w.freeze ⟨(K.tk t).1,n,none⟩ 1).heap[(K.tk t).1]?=some (.cells c0 e0 z):=by
  simp only[World.freeze,Nat.one_ne_zero,if_false,Array.getElem?_modify,if_true,t4,Option.map_some]
  exact⟨_,rfl⟩
 obtain⟨z1,hthis⟩:=hthis
 have hother:∀k,k≠(K.tk t).1->(w.freeze ⟨(K.tk t).1,n,none⟩ 1).heap[k]?=w.heap[k]?:=fun k hk=>by
  simp only[World.freeze,Nat.one_ne_zero,if_false,Array.getElem?_modify]
  rw[if_neg (Ne.symm hk)]
 have hsz:(w.freeze ⟨(K.tk t).1,n,none⟩ 1).heap.size=w.heap.size:=by simp[World.freeze]
 have hal:∀t',alive {h with dead:=t::h.dead} t'=true->alive h t'=true/\t'≠t:=fun t' h'=>by
  unfold alive at h' ⊢
  simp only[List.contains_cons,Bool.and_eq_true,Bool.not_eq_true',Bool.or_eq_false_iff,decide_eq_true_eq] at h' ⊢
  exact⟨⟨h'.1,h'.2.2⟩,fun q=>by rw[q] at h';simp at h'⟩
 refine⟨?_,by rw[hsz];exact s.size,fun g j c hc=>?_,s.dW,s.js,s.βnd,fun b g cs hb hcs=>?_,s.mA,s.γnd,fun l g r hl hr=>?_,s.tn,fun t' ht'=>?_,fun t' u ht' hu=>s.oq t' u (hal t' ht').1 (hal u hu).1,fun r hr=>?_,s.all⟩
 ·refine s.old.trans ⟨rfl,rfl,rfl,by rw[hsz];exact Nat.le_refl _,fun k hk=>?_⟩
  have hkb:k<K.base:=hk
  exact hother k (by omega)
 ·have h1:=s.ic g j c hc
  by_cases hg:g=(K.tk t).1
  ·subst hg
   rw[fO t4] at h1
   rw[fO hthis];exact h1
  ·rw[<-h1]
   exact World.cell?_of_block (w:=w) (hother g hg)
 ·obtain⟨h1,h2,ha2,cells',e',h3,h4⟩:=s.box b g cs hb hcs
  exact⟨h1,h2,ha2,cells',e',by rw[hother g fun q=>t2 b (q ▸ hb)];exact h3,h4⟩
 ·obtain⟨h1,fn,tmps,d,h2,h3⟩:=s.loop l g r hl hr
  exact⟨h1,fn,tmps,d,by rw[hother g fun q=>by rw[q,t4] at h2;cases h2];exact h2,h3⟩
 ·obtain⟨ht1,hne⟩:=hal t' ht'
  obtain⟨h1,h2,h3,cells',e',fz',h4,h5,h6⟩:=s.tok t' ht1
  have hgg:(K.tk t').1≠(K.tk t).1:=fun q=>hne (s.oq t' t ht1 ha q)
  have h7:(w.freeze ⟨(K.tk t).1,n,none⟩ 1).heap[(K.tk t').1]?=some (.cells cells' e' fz'):=by rw[hother _ hgg];exact h4
  exact⟨h1,h2,h3,cells',e',fz',h7,h5,fun j hj hl=>by rw[<-h6 j hj hl,ie h4,ie h7]⟩
 ·obtain⟨h1,h2⟩:=s.md r hr
  exact⟨h1,by rw[hother r fun q=>by rw[q,t4] at h2;cases h2];exact h2⟩
theorem HX(s:Sim K G ok w0 h w){src dst:TypeId}{x y:AV}{h':ae}(he:fm P h src dst x=some (y,h')){c:Value}(hx:aI K x c):
 ∃K' v w',K.Le K'/\Sim K' G ok w0 h' w'/\aI K' y v/\(convert src dst c).run P w= .ok v w':=by
 unfold fm at he
 split at he
 ·rename_i e str hs hd
  obtain⟨rfl,_⟩:=hx.bm
  split at he
  ·rename_i i hu hi
   split at he
   ·injection he with he
    obtain⟨rfl,rfl⟩:=Prod.mk.inj he
    obtain⟨K',v,w',q1,q2,q3,q4⟩:=zT (P:=P) s (e:=e) (str:=str)
    exact⟨K',v,w',q1,q2,q3,by simp only[convert,Sem.run_bind,aH hs,aH hd,aH hu,Result.andThen_ok];exact q4⟩
   ·cases he
  ·cases he
 ·rename_i e hs hd
  split at he
  ·rename_i rows hu hrows
   simp only[Option.map_eq_some_iff] at he
   obtain⟨l,hl,he⟩:=he
   obtain⟨rfl,rfl⟩:=Prod.mk.inj he
   obtain⟨a,cap,dF,rfl,hr,hvs,ha,hlen,hload,hnil⟩:=ou (P:=P) s hrows hx
   obtain⟨ns,rfl,rfl⟩:=zU hl hvs
   refine⟨K,.string ⟨(ns.map fun n=>UInt8.ofNat n.toNat).toArray⟩,w,.refl K,s,.v _ rfl,?_⟩
   cases a with
   |none=>
    have:=hnil rfl
    subst this
    simp at hlen
    subst hlen
    simp only[convert,Sem.run_bind,aH hs,aH hd,aH hu,Result.andThen_ok,Conv.bytesToString]
    rfl
   |some b=>
    have hl2:=hload b rfl
    rw[Nat.mul_one] at hl2
    simp only[convert,Sem.run_bind,aH hs,aH hd,aH hu,Result.andThen_ok,Conv.bytesToString,hl2,List.forIn_toArray,Sem.run_pure]
    simp[foldl_push]
  ·cases he
 ·rename_i e e2 t sz es hs hd
  split at he
  ·rename_i hu
   split at he
   ·rename_i hc
    obtain⟨rfl,hal⟩:=hc
    injection he with he
    obtain⟨rfl,rfl⟩:=Prod.mk.inj he
    cases hx with
    |list _ _ _ g off n cap cells hn hr hv hic ht ha=>
     obtain⟨ht1,ht2,ht3,ht4,ht5⟩:=ht
     subst ht3
     obtain⟨t1,t2,t3,c0,e0,z0,t4,t5,t6⟩:=s.tok t hal
     refine⟨K,.slice (some ⟨(K.tk t).1,off,none⟩) n cap,_,.refl K,s.kill hal c0.size,.list .held sz es _ off n cap cells hn hr hv hic ⟨ht1,trivial⟩ ha,?_⟩
     have hsh:w.shape? (K.tk t).1=some (e0,c0.size):=by simp[World.shape?,t4]
     rw[hs] at hd
     injection hd with hd
     injection hd with hd
     subst hd
     simp only[convert,Sem.run_bind,aH hs,aH hu,Result.andThen_ok,beq_self_eq_true,markStringish,run_shape,hsh,run_freeze,Sem.run_pure]
   ·cases he
  ·cases he
 ·cases he
 ·rename_i d1 d2 p hs hd _ _ _ _
  simp only[Option.map_eq_some_iff,Option.bind_eq_some_iff] at he
  obtain⟨z,⟨q,h1,h2⟩,he⟩:=he
  obtain⟨rfl,rfl⟩:=Prod.mk.inj he
  obtain⟨rfl,_⟩:=hx.bm
  exact⟨K,q,w,.refl K,s,jr h2,jq h1 w⟩
 ·cases he
end
section
variable {P:Program} {K:aB} {G:Nat->Option (List AV)} {ok:FuncId->Nat->Code->Bool} {w0 w:World} {h:ae}
theorem HY(s:Sim K G ok w0 h w){ts:Array TypeId}{ty:TypeId}{a x y:AV}{h':ae}(he:oi P h ts a x=some (y,h')){c cx:Value}(ha:aI K a c)(hx:aI K x cx):
 ∃K' v w',K.Le K'/\Sim K' G ok w0 h' w'/\aI K' y v/\(Builtin.copy_ ts ty #[c,cx]).run P w= .ok v w':=by
 unfold oi at he
 split at he
 ·rename_i elem hu
  simp only[Option.bind_eq_some_iff] at hu
  obtain⟨t0,h0,hu⟩:=hu
  split at he
  ·rename_i i b off len cap hi
   split at he
   ·rename_i rows cs hrows hcs
    split at he
    ·rename_i hc
     injection he with he
     obtain⟨rfl,rfl⟩:=Prod.mk.inj he
     obtain⟨nv,n1,n2,n3,n4,n5,n6⟩:=jt (P:=P) s hrows hx
     cases ha with
     |arr _ g _ _ _ off' cap' hb hl hcc hoo hrr=>
      obtain⟨k1,k2,ka,cells,e,k3,k4⟩:=s.box b g cs hb hcs
      have hsz2:cs.length<=cells.size:=k4.le
      have hmin:Nat.min rows.length len<=rows.length:=Nat.min_le_left _ _
      have hmin2:Nat.min rows.length len<=len:=Nat.min_le_right _ _
      have hm:Nat.min rows.length len * i.size<=len * i.size:=Nat.mul_le_mul_right _ hmin2
      have hm1:Nat.min rows.length len * i.size<=rows.length * i.size:=Nat.mul_le_mul_right _ hmin
      have hfl:(rows.take (Nat.min rows.length len)).flatten=rows.flatten.take (Nat.min rows.length len * i.size):=ni n2 _
      have hv':ao K (rows.take (Nat.min rows.length len)).flatten (nv.take (Nat.min rows.length len * i.size)):=by rw[hfl];exact n3.take _
      have hc':(rows.take (Nat.min rows.length len)).flatten.all AV.bu=true:=by
       rw[hfl,List.all_eq_true]
       intro x hx
       exact List.all_eq_true.1 n4 x (List.mem_of_mem_take hx)
      have hlen:(nv.take (Nat.min rows.length len * i.size)).length=Nat.min rows.length len * i.size:=by simp only[List.length_take];omega
      obtain⟨w',cells',q1,q2,q3⟩:=ym (P:=P) hoo (vs:=nv.take (Nat.min rows.length len * i.size)) (fun hz=>by
       have:Nat.min rows.length len=0:=by omega
       rw[this];simp) k3 (by omega) (qN hv' hc')
      refine⟨K,.int .i64 (Nat.min rows.length len:Nat),w',.refl K,s.uz hb hcs (by rw[hv'.length];omega) k3 q2 q3 hv' hc',.v _ rfl,?_⟩
      ·-- the source's first cells, as many as are copied
       have hfirst:(Builtin.firstCells i.size (Nat.min rows.length len) cx).run P w= .ok (nv.take (Nat.min rows.length len * i.size)).toArray w:=by
        unfold eH at hrows
        split at hrows
        ·rename_i str
         split at hrows
         ·rename_i h1
          injection hrows with hrows;subst hrows
          obtain⟨rfl,_⟩:=hx.bm
          have hl2:(str.data.toList.map dp).length=str.size:=by rw[List.length_map];rfl
          have e2:nv=str.data.toList.map fun b=>Value.int .u8 b.toNat:=by
           have e3:(Builtin.firstCells i.size (str.data.toList.map dp).length (.string str)).run P w= .ok (str.data.toList.map fun b=>Value.int .u8 b.toNat).toArray w:=by
            rw[hl2]
            have:str.extract 0 str.size=str:=by simp
            have e4:str.data.map (fun b=>Value.int .u8 b.toNat)=(str.data.toList.map fun b=>Value.int .u8 b.toNat).toArray:=by apply Array.ext';simp
            simp only[Builtin.firstCells,this,Sem.run_pure,e4]
           rw[e3] at n6
           injection n6 with n6 _
           exact(List.toArray_inj n6).symm
          subst e2
          rw[h1,Nat.mul_one]
          simp only[Builtin.firstCells,Sem.run_pure]
          congr 1
          apply Array.ext'
          simp only[ByteArray.data_extract,Array.toList_map,Array.toList_extract,List.extract_eq_take_drop,List.drop_zero,Nat.sub_zero,List.map_take]
         ·cases hrows
        ·obtain⟨a,cap',dF,rfl,hr,hvs,hac,hlen',hload,hnil⟩:=ou (P:=P) s hrows hx
         cases a with
         |none=>
          have:=hnil rfl
          subst this
          have:nv=[]:=by simpa using n5
          subst this
          simp[Builtin.firstCells]
         |some ad=>
          simp only[Builtin.firstCells]
          have hl:=hload ad rfl
          have e5:dF=nv:=by
           simp only[Builtin.firstCells] at n6
           rw[hl] at n6
           injection n6 with n6 _
           exact List.toArray_inj n6
          subst e5
          have hcell:∀j v,dF[j]?=some v->w.cell? (ad.add j)=some v:=by
           unfold rowsOf at hrows
           split at hrows
           ·rename_i k sz es _
            split at hrows
            ·injection hrows with hrows;subst hrows
             cases hx with
             |eK=>
              cases hvs
              intro j v hj
              simp at hj
             |list _ _ _ g2 off2 n cap2 cells2 hn hr2 hvs2 hic2 ht2 ha2=>
              have hl2:=run_loadCells_list (P:=P) w ⟨g2,off2,none⟩ cells2 (fun j v hj=>by rw[Addr.dh];exact s.ic _ _ _ (hic2 j v hj))
              have hcl2:cells2.length=es.length * i.size:=by rw[<-hvs2.length,hvs.length,hlen']
              rw[hcl2] at hl2
              rw[hl2] at hl
              injection hl with hl _
              have:=List.toArray_inj hl
              subst this
              intro j v hj
              rw[Addr.dh];exact s.ic _ _ _ (hic2 j v hj)
            ·cases hrows
           ·rename_i b2 off2 Qg cap2 _
            split at hrows
            ·rename_i cs2 hcs2
             split at hrows
             ·rename_i hfit2
              injection hrows with hrows
              cases hx with
              |arr _ g2 _ _ _ off2' cap2' hb2 hl2 hcc2 hoo2 hrr2=>
               obtain⟨_,_,_,cells2,e2,k3',k4'⟩:=s.box b2 g2 cs2 hb2 hcs2
               have hcl:cs2.length<=cells2.toList.length:=by
                have:=k4'.le
                simpa using this
               rcases hoo2 with hoo2|hz2
               rotate_left 1
               ·intro j v hj
                have hr0:rows.length=0:=by omega
                rw[hr0] at hlen'
                have:dF=[]:=by simpa using hlen'
                subst this
                simp at hj
               rw[hoo2] at hl ⊢
               have hcl2:((cells2.toList.drop off2).take (rows.length * i.size)).length=rows.length * i.size:=by
                simp only[List.length_take,List.length_drop];omega
               have hl3:=run_loadCells_list (P:=P) w ⟨g2,off2,none⟩ ((cells2.toList.drop off2).take (rows.length * i.size)) (fun j v hj=>by
                rw[Addr.dh,fO k3']
                simp only[List.getElem?_take,List.getElem?_drop] at hj
                split at hj
                ·simpa using hj
                ·cases hj)
               rw[hcl2] at hl3
               rw[hl3] at hl
               injection hl with hl _
               have:=List.toArray_inj hl
               subst this
               intro j v hj
               rw[Addr.dh,fO k3']
               simp only[List.getElem?_take,List.getElem?_drop] at hj
               split at hj
               ·simpa using hj
               ·cases hj
             ·cases hrows
            ·cases hrows
           ·cases hrows
          have:=run_loadCells_list (P:=P) w ad (dF.take (Nat.min rows.length len * i.size)) (fun j v hj=>by
           simp only[List.getElem?_take] at hj
           split at hj
           ·exact hcell j v hj
           ·cases hj)
          rw[hlen] at this
          exact this
       simp only[Builtin.copy_,h0,List.getElem?_toArray,List.getElem?_cons_zero,List.getElem?_cons_succ,Sem.run_bind,aH hu,Result.andThen_ok,n1,sizeOf,eM hi,Sem.run_pure,hfirst,q1]
       rfl
    ·cases he
   ·cases he
  ·cases he
 ·cases he
theorem Lv{ts:Array TypeId}{ty t:TypeId}(h0:ts[0]?=some t){x y:AV}(he:cH P t x=some y){c:Value}(hx:aI K x c)(w:World):
 ∃v,(Builtin.len_ ts ty #[c]).run P w= .ok v w/\aI K y v:=by
 unfold cH at he
 split at he
 ·rename_i hu
  injection he with he;subst he
  obtain⟨rfl,_⟩:=hx.bm
  exact⟨_,by simp only[Builtin.len_,h0,List.getElem?_toArray,List.getElem?_cons_zero,Sem.run_bind,aH hu,Result.andThen_ok,Sem.run_pure,goInt],.v _ rfl⟩
 ·rename_i n e hu
  injection he with he;subst he
  exact⟨_,by simp only[Builtin.len_,h0,List.getElem?_toArray,List.getElem?_cons_zero,Sem.run_bind,aH hu,Result.andThen_ok,Sem.run_pure,goInt],.v _ rfl⟩
 ·rename_i a hu
  split at he
  ·rename_i n e hu2
   injection he with he;subst he
   exact⟨_,by simp only[Builtin.len_,h0,List.getElem?_toArray,List.getElem?_cons_zero,Sem.run_bind,aH hu,aH hu2,Result.andThen_ok,Sem.run_pure,goInt],.v _ rfl⟩
  ·cases he
 ·rename_i e k sz es hu
  injection he with he;subst he
  cases hx with
  |nil=>exact⟨.int .i64 0,by simp only[Builtin.len_,h0,List.getElem?_toArray,List.getElem?_cons_zero,Sem.run_bind,aH hu,Result.andThen_ok,Sem.run_pure,goInt];rfl,.v _ rfl⟩
  |eK=>exact⟨.int .i64 0,by simp only[Builtin.len_,h0,List.getElem?_toArray,List.getElem?_cons_zero,Sem.run_bind,aH hu,Result.andThen_ok,Sem.run_pure,goInt];rfl,.v _ rfl⟩
  |list _ _ _ g off n cap cells hn _ _ _ _ _=>
   subst hn
   exact⟨_,by simp only[Builtin.len_,h0,List.getElem?_toArray,List.getElem?_cons_zero,Sem.run_bind,aH hu,Result.andThen_ok,Sem.run_pure,goInt],.v _ rfl⟩
 ·rename_i e b off len cap hu
  injection he with he;subst he
  cases hx with
  |arr=>exact⟨_,by simp only[Builtin.len_,h0,List.getElem?_toArray,List.getElem?_cons_zero,Sem.run_bind,aH hu,Result.andThen_ok,Sem.run_pure,goInt],.v _ rfl⟩
 ·cases he
theorem Lw{ts:Array TypeId}{ty t:TypeId}(h0:ts[0]?=some t){x y:AV}(he:wQ P t x=some y){c:Value}(hx:aI K x c)(w:World):
 ∃v,(Builtin.cap_ ts ty #[c]).run P w= .ok v w/\aI K y v:=by
 unfold wQ at he
 split at he
 ·rename_i e sz es hu
  injection he with he;subst he
  cases hx with
  |eK=>exact⟨.int .i64 0,by simp only[Builtin.cap_,h0,List.getElem?_toArray,List.getElem?_cons_zero,Sem.run_bind,aH hu,Result.andThen_ok,Sem.run_pure,goInt];rfl,.v _ rfl⟩
  |list _ _ _ g off n cap cells hn _ _ _ ht _=>
   have:=ht.2
   simp only at this
   subst this
   subst hn
   exact⟨_,by simp only[Builtin.cap_,h0,List.getElem?_toArray,List.getElem?_cons_zero,Sem.run_bind,aH hu,Result.andThen_ok,Sem.run_pure,goInt],.v _ rfl⟩
 ·rename_i e sz es hu
  injection he with he;subst he
  cases hx with
  |nil=>exact⟨.int .i64 0,by simp only[Builtin.cap_,h0,List.getElem?_toArray,List.getElem?_cons_zero,Sem.run_bind,aH hu,Result.andThen_ok,Sem.run_pure,goInt];rfl,.v _ rfl⟩
  |list _ _ _ _ _ _ _ _ _ _ _ _ ht _=>exact ht.2.elim
 ·rename_i n e hu
  injection he with he;subst he
  exact⟨_,by simp only[Builtin.cap_,h0,List.getElem?_toArray,List.getElem?_cons_zero,Sem.run_bind,aH hu,Result.andThen_ok,Sem.run_pure,goInt],.v _ rfl⟩
 ·cases he
theorem td(s:Sim K G ok w0 h w){b:Builtin}{ts:Array TypeId}{ty:TypeId}{args:List AV}{y:AV}{h':ae}(he:bK P h b ts ty args=some (y,h')){vs:Array Value}(hx:ao K args vs.toList)(consts:Array Bool):
 ∃K' v w',K.Le K'/\Sim K' G ok w0 h' w'/\aI K' y v/\(builtin b ts ty consts vs).run P w= .ok (.value v) w':=by
 unfold bK at he
 obtain⟨vs⟩:=vs
 simp only at hx
 split at he
 ·cases hx with|cons _ c _ _ hx hs=>cases hs with|nil=>
  split at he
  ·rename_i t h0
   simp only[Option.map_eq_some_iff] at he
   obtain⟨z,hz,he⟩:=he
   obtain⟨rfl,rfl⟩:=Prod.mk.inj he
   obtain⟨v,q1,q2⟩:=Lv (ty:=ty) h0 hz hx w
   exact⟨K,v,w,.refl K,s,q2,by simp only[builtin,Sem.run_bind,q1,Result.andThen_ok,Sem.run_pure]⟩
  ·cases he
 ·cases hx with|cons _ c _ _ hx hs=>cases hs with|nil=>
  split at he
  ·rename_i t h0
   simp only[Option.map_eq_some_iff] at he
   obtain⟨z,hz,he⟩:=he
   obtain⟨rfl,rfl⟩:=Prod.mk.inj he
   obtain⟨v,q1,q2⟩:=Lw (ty:=ty) h0 hz hx w
   exact⟨K,v,w,.refl K,s,q2,by simp only[builtin,Sem.run_bind,q1,Result.andThen_ok,Sem.run_pure]⟩
  ·cases he
 ·cases hx with|cons _ c _ _ hx hs=>cases hs with|cons _ c2 _ _ hx2 hs=>cases hs with|nil=>
  obtain⟨K',v,w',q1,q2,q3,q4⟩:=qn (ty:=ty) s he hx hx2
  exact⟨K',v,w',q1,q2,q3,by simp only[builtin,Sem.run_bind,q4,Result.andThen_ok,Sem.run_pure]⟩
 ·cases hx with|cons _ c _ _ hx hs=>cases hs with|cons _ c2 _ _ hx2 hs=>cases hs with|nil=>
  obtain⟨K',v,w',q1,q2,q3,q4⟩:=HY (ty:=ty) s he hx hx2
  exact⟨K',v,w',q1,q2,q3,by simp only[builtin,Sem.run_bind,q4,Result.andThen_ok,Sem.run_pure]⟩
 ·split at he
  ·rename_i l hl
   simp only[Option.map_eq_some_iff,Option.bind_eq_some_iff] at he
   obtain⟨z,⟨q,h1,h2⟩,he⟩:=he
   obtain⟨rfl,rfl⟩:=Prod.mk.inj he
   have:=om hl hx
   subst this
   exact⟨K,q,w,.refl K,s,jr h2,by simp only[builtin,Sem.run_bind,jq h1 w,Result.andThen_ok,Sem.run_pure]⟩
  ·cases he
 ·split at he
  ·rename_i l hl
   simp only[Option.map_eq_some_iff,Option.bind_eq_some_iff] at he
   obtain⟨z,⟨q,h1,h2⟩,he⟩:=he
   obtain⟨rfl,rfl⟩:=Prod.mk.inj he
   have:=om hl hx
   subst this
   exact⟨K,q,w,.refl K,s,jr h2,by simp only[builtin,Sem.run_bind,jq h1 w,Result.andThen_ok,Sem.run_pure]⟩
  ·cases he
 ·cases he
theorem yn(s:Sim K G ok w0 h w){d:Option Tmp}{b:Builtin}{ts:Array TypeId}{ty:TypeId}{args:List AV}{y:AV}{h':ae}(he:eV P G d h b ts ty args=some (y,h')){vs:Array Value}(hx:ao K args vs.toList)(consts:Array Bool):
 ∃K' v w',K.Le K'/\Sim K' G ok w0 h' w'/\aI K' y v/\(builtin b ts ty consts vs).run P w= .ok (.value v) w':=by
 unfold eV at he
 split at he
 ·split at he
  ·obtain⟨vs⟩:=vs
   simp only at hx
   cases hx with|cons _ c _ _ hx hs=>cases hs with|cons _ c2 _ _ hx2 hs=>cases hs with|nil=>
   obtain⟨K',v,w',q1,q2,q3,q4⟩:=HV (ty:=ty) s he hx hx2
   exact⟨K',v,w',q1,q2,q3,by simp only[builtin,Sem.run_bind,q4,Result.andThen_ok,Sem.run_pure]⟩
  ·exact td s (b:= .append) (ts:=ts) (ty:=ty) (args:=[_,_]) (show bK P h .append ts ty [_,_]=_ from he) hx consts
 ·exact td s he hx consts
theorem HZ{c a b y:AV}(he:yj c a b=some y){vc va vb:Value}(hc:aI K c vc)(ha:aI K a va)(hb:aI K b vb):
 ∃t v,vc= .bool t/\v=(if t then va else vb)/\aI K y v:=by
 unfold yj at he
 split at he
 ·rename_i t
  injection he with he;subst he
  obtain⟨rfl,_⟩:=hc.bm
  refine⟨t,_,rfl,rfl,?_⟩
  cases t
  ·exact hb
  ·exact ha
 ·cases he
theorem Fj(s:Sim K G ok w0 h w){ρ:Operand->AV}{ρ':Operand->Value}(hρ:∀x,aI K (ρ x) (ρ' x)){o:Oper}{x:AV}{h':ae}(he:aO P G ρ h o.op=some (x,h')):
 Yields K G ok w0 x h' ((execOp ρ' o).run P w):=by
 unfold execOp
 cases hop:o.op<;>rw[hop] at he<;>simp only[aO] at he
 case move a=>injection he with he;obtain⟨rfl,rfl⟩:=Prod.mk.inj he;exact .dT s (hρ a) rfl
 case assign a=>injection he with he;obtain⟨rfl,rfl⟩:=Prod.mk.inj he;exact .dT s (hρ a) rfl
 case pick c a b=>
  simp only[Option.map_eq_some_iff] at he
  obtain⟨y,hy,he⟩:=he
  obtain⟨rfl,rfl⟩:=Prod.mk.inj he
  obtain⟨t,v,q1,rfl,q3⟩:=HZ hy (hρ c) (hρ a) (hρ b)
  refine .dT s q3 ?_
  simp only[q1,asBool,Sem.run_bind,Sem.run_pure,Result.andThen_ok]
 case alloc t=>
  simp only[Option.map_eq_some_iff] at he
  obtain⟨cs,hcs,he⟩:=he
  obtain⟨K',v,w',q1,q2,q3,q4⟩:=Ff (P:=P) s hcs
  rw[he] at q2 q3
  exact⟨K',v,w',q1,q2,q3,.inl (by simp only[Sem.run_bind,q4,Result.andThen_ok,Sem.run_pure])⟩
 case box t a=>
  simp only[Option.map_eq_some_iff] at he
  obtain⟨cs,hcs,he⟩:=he
  obtain⟨K',v,w',q1,q2,q3,q4⟩:=Lt (P:=P) (t:=t) s hcs (hρ a)
  rw[he] at q2 q3
  exact⟨K',v,w',q1,q2,q3,.inl (by simp only[Sem.run_bind,q4,Result.andThen_ok,Sem.run_pure])⟩
 case build t parts=>
  simp only[Option.map_eq_some_iff] at he
  obtain⟨y,hy,he⟩:=he
  obtain⟨rfl,rfl⟩:=Prod.mk.inj he
  obtain⟨v,q1,q2⟩:=Fe hρ hy w
  exact .dT s q2 (by simp only[Sem.run_bind,q1,Result.andThen_ok,Sem.run_pure])
 case buildSlice t len parts=>
  split at he
  ·simp only[Option.map_eq_some_iff] at he
   obtain⟨y,hy,he⟩:=he
   obtain⟨rfl,rfl⟩:=Prod.mk.inj he
   obtain⟨K',v,w',q1,q2,q3,q4⟩:=uA s hρ hy
   exact⟨K',v,w',q1,q2,q3,.inl (by simp only[Sem.run_bind,q4,Result.andThen_ok,Sem.run_pure])⟩
  ·split at he
   ·rename_i k sz es hy
    injection he with he
    obtain⟨K',v,w',q1,q2,q3,q4⟩:=uC s hρ hy
    rw[he] at q2 q3
    exact⟨K',v,w',q1,q2,q3,.inl (by simp only[Sem.run_bind,q4,Result.andThen_ok,Sem.run_pure])⟩
   ·cases he
 case load t a=>
  simp only[Option.map_eq_some_iff] at he
  obtain⟨y,hy,he⟩:=he
  obtain⟨rfl,rfl⟩:=Prod.mk.inj he
  obtain⟨g,p,v,q1,q2,q3⟩:=zQ s hy (hρ a)
  exact .dT s q3 (by simp only[q1,Instr.loadAt,Instr.sureAddr,Sem.run_bind,q2,Result.andThen_ok,Sem.run_pure])
 case store t a y=>
  simp only[Option.map_eq_some_iff] at he
  obtain⟨h2,hy,he⟩:=he
  obtain⟨rfl,rfl⟩:=Prod.mk.inj he
  obtain⟨w',q1,q2⟩:=Fb s hy (hρ a) (hρ y)
  exact⟨K,undef,w',.refl K,q2,.tuple _ _ .nil,.inr ⟨by simp only[Sem.run_bind,q1,Result.andThen_ok,Sem.run_pure],rfl⟩⟩
 case nilCheck a=>
  simp only[Option.map_eq_some_iff] at he
  obtain⟨y,hy,he⟩:=he
  obtain⟨rfl,rfl⟩:=Prod.mk.inj he
  have ha:=hρ a
  generalize ρ a=xa at ha hy
  generalize hq:ρ' a=ca at ha
  unfold qi at hy
  split at hy
  ·injection hy with hy;subst hy
   cases ha with
   |box _ _ _ hb=>exact .dT s (.box _ _ _ hb) (by simp only[hq,Sem.run_pure])
   |dW _ _=>exact .dT s (.dW _ _) (by simp only[hq,Sem.run_pure])
  ·injection hy with hy;subst hy
   cases ha with
   |elem _ _ _ _ g o p cells hr hv hc hi hp hac=>exact .dT s (.elem _ _ _ _ g o p cells hr hv hc hi hp hac) (by simp only[hq,Sem.run_pure])
  ·injection hy with hy;subst hy
   cases ha with
   |func _ _ _ fs cs h1 h2=>exact .dT s (.func _ _ _ fs cs h1 h2) (by simp only[hq,Sem.run_pure])
  ·injection hy with hy;subst hy
   cases ha with
   |yield _ g hl=>exact .dT s (.yield _ g hl) (by simp only[hq,Sem.run_pure])
  ·injection hy with hy;subst hy
   cases ha with
   |iface _ _ c hx=>exact .dT s (.iface _ _ c hx) (by simp only[hq,Sem.run_pure])
  ·cases hy
 case binOp op t a b yt=>
  simp only[Option.map_eq_some_iff] at he
  obtain⟨y,hy,he⟩:=he
  obtain⟨rfl,rfl⟩:=Prod.mk.inj he
  obtain⟨v,q1,q2⟩:=Lu hy (hρ a) (hρ b) w
  exact .dT s q2 (by rw[Sem.run_bind,q1];rfl)
 case unOp op t a=>
  simp only[Option.map_eq_some_iff] at he
  obtain⟨y,hy,he⟩:=he
  obtain⟨rfl,rfl⟩:=Prod.mk.inj he
  obtain⟨v,q1,q2⟩:=N7 hy (hρ a) w
  exact .dT s q2 (by simp only[Sem.run_bind,q1,Result.andThen_ok,Sem.run_pure])
 case convert sr ds a=>
  obtain⟨K',v,w',q1,q2,q3,q4⟩:=HX s he (hρ a)
  exact⟨K',v,w',q1,q2,q3,.inl (by simp only[Sem.run_bind,q4,Result.andThen_ok,Sem.run_pure])⟩
 case makeInterface t a=>
  split at he
  ·rename_i hif
   injection he with he;obtain⟨rfl,rfl⟩:=Prod.mk.inj he
   obtain⟨d,hu,hd⟩:=mh hif
   refine .dT s (.iface t _ _ (hρ a)) ?_
   simp only[Instr.makeInterface,Sem.run_bind,aH hu,Result.andThen_ok]
   cases d<;>first|exact absurd rfl (hd _) |rfl
  ·cases he
 case makeFunc fn first cap=>
  injection he with he;obtain⟨rfl,rfl⟩:=Prod.mk.inj he
  refine .dT s (.func fn _ _ _ _ (by rw[Array.toList_map];exact ao.map_mk fun x _=>hρ x) (by rw[Array.toList_map];exact ao.map_mk fun x _=>hρ x)) rfl
 case makeSlice t l c=>
  obtain⟨K',v,w',q1,q2,q3,q4⟩:=v9 s he (hρ l) (hρ c)
  exact⟨K',v,w',q1,q2,q3,.inl (by simp only[Sem.run_bind,q4,Result.andThen_ok,Sem.run_pure])⟩
 case slice t a lo hi mx=>
  simp only[Option.map_eq_some_iff] at he
  obtain⟨y,hy,he⟩:=he
  obtain⟨rfl,rfl⟩:=Prod.mk.inj he
  obtain⟨v,q1,q2⟩:=Fg hρ hy (hρ a) w
  exact .dT s q2 (by simp only[Sem.run_bind,q1,Result.andThen_ok,Sem.run_pure])
 case fieldAddr t a f=>
  simp only[Option.map_eq_some_iff] at he
  obtain⟨y,hy,he⟩:=he
  obtain⟨rfl,rfl⟩:=Prod.mk.inj he
  obtain⟨v,q1,q2⟩:=wc hy (hρ a) w
  exact .dT s q2 (by simp only[Sem.run_bind,q1,Result.andThen_ok,Sem.run_pure])
 case field t a f=>
  have ha:=hρ a
  generalize ρ a=xa at ha he
  generalize hq:ρ' a=ca at ha
  split at he
  ·rename_i fields cs hu
   split at he
   ·rename_i fd hf
    simp only[Option.map_eq_some_iff] at he
    obtain⟨y,hy,he⟩:=he
    obtain⟨rfl,rfl⟩:=Prod.mk.inj he
    cases ha with
    |agg _ vs hvs=>
     obtain⟨v,q1,q2⟩:=zS hy hvs w
     exact .dT s q2 (by simp only[Instr.field,Sem.run_bind,aH hu,Result.andThen_ok,hf,hq,asAgg,Sem.run_pure,q1])
   ·cases he
  ·cases he
 case indexAddr t a i=>
  simp only[Option.map_eq_some_iff] at he
  obtain⟨y,hy,he⟩:=he
  obtain⟨rfl,rfl⟩:=Prod.mk.inj he
  obtain⟨v,q1,q2⟩:=we hy (hρ a) (hρ i) w
  exact .dT s q2 (by simp only[Sem.run_bind,q1,Result.andThen_ok,Sem.run_pure])
 case index t a i=>
  simp only[Option.map_eq_some_iff] at he
  obtain⟨y,hy,he⟩:=he
  obtain⟨rfl,rfl⟩:=Prod.mk.inj he
  obtain⟨v,q1,q2⟩:=Fh hy (hρ a) (hρ i) w
  exact .dT s q2 (by simp only[Sem.run_bind,q1,Result.andThen_ok,Sem.run_pure])
 case typeAssert a xt t okk=>
  simp only[Option.map_eq_some_iff] at he
  obtain⟨y,hy,he⟩:=he
  obtain⟨rfl,rfl⟩:=Prod.mk.inj he
  obtain⟨v,q1,q2⟩:=Ck (xt:=xt) hy (hρ a) w
  exact .dT s q2 (by simp only[Sem.run_bind,q1,Result.andThen_ok,Sem.run_pure])
 case extract a i=>
  have ha:=hρ a
  generalize ρ a=xa at ha he
  generalize hq:ρ' a=ca at ha
  split at he
  ·rename_i vs
   simp only[Option.map_eq_some_iff] at he
   obtain⟨y,hy,he⟩:=he
   obtain⟨rfl,rfl⟩:=Prod.mk.inj he
   cases ha with
   |tuple _ cvs hvs=>
    obtain⟨c,hc,hr⟩:=hvs.get hy
    have:cvs[i]?=some c:=by simpa using hc
    exact .dT s hr (by simp only[Instr.extract,hq,this,Sem.run_bind,Sem.run_pure,Result.andThen_ok])
  ·cases he
 all_goals cases he
end
def wT(n:Nat)(ops:Array Oper):Bool:=ops.all fun o=>match o.dst with|some d=>decide (d<n) |none=>true
def codeOk(n:Nat):Code->Bool
 | .region _ ops _=>wT n ops
 | .seq a b=>codeOk n a&&codeOk n b
 | .cond _ a b=>codeOk n a&&codeOk n b
 | .block _ c=>codeOk n c
 | .loop c=>codeOk n c
 | .scope c=>codeOk n c
 | .rangeFunc _ ps a b=>ps.all (fun p=>decide (p<n))&&codeOk n a&&codeOk n b
 |_=>true
def Fk(P:Program)(fn:FuncId)(n:Nat)(c:Code):Bool:=codeOk n c&&(P.funcs[fn]?).isSome
inductive gT (K:aB):List (FuncId × List AV)->List Deferred->List Nat->Prop
 |nil:gT K [] [] []
 |call (g:FuncId) (args:List AV) (vs cap:Array Value) (ds cds ms) (hv:ao K args (vs++cap).toList) (h:gT K ds cds ms):
  gT K ((g,args)::ds) ({target:= .fn (.func g) cap,args:=vs}::cds) ms
 |mark (r:Nat) (ds cds ms) (hr:r∈K.md) (hn:r∉ms) (h:gT K ds cds ms):gT K ds ({target:= .collected r,args:=#[]}::cds) (r::ms)
theorem gT.mono{K K':aB}(le:K.Le K'){ds cds ms}(h:gT K ds cds ms):gT K' ds cds ms:=by
 induction h with
 |nil=>exact .nil
 |call g args vs cap ds cds ms hv _ ih=>exact .call g args vs cap ds cds ms (hv.mono le) ih
 |mark r ds cds ms hr hn _ ih=>exact .mark r ds cds ms (le.md r hr) hn ih
structure ev(P:Program)(K:aB)(e:Env)(a:Act)(B:Frame)(ms:List Nat):Prop where
 dY:dg K e.tmps a.tmps
 defers:gT K e.defers a.defers ms
 round:match e.round with
  |none=>B.roundOf=none
  |some l=>∃g,K.γ[l]?=some g/\B.roundOf=some g/\B.kind= .normal/\a.defers=[]/\ms=[]/\e.defers=[]
 fn:(P.funcs[B.fn]?).isSome=true
theorem ev.mono{P:Program}{K K':aB}(le:K.Le K'){e:Env}{a:Act}{B:Frame}{ms:List Nat}(h:ev P K e a B ms):ev P K' e a B ms:=by
 refine⟨h.dY.mono le,h.defers.mono le,?_,h.fn⟩
 have:=h.round
 cases hr:e.round with
 |none=>rw[hr] at this;exact this
 |some l=>
  rw[hr] at this
  obtain⟨g,h1,h2⟩:=this
  exact⟨g,le.γ _ _ h1,h2⟩
inductive CS (K:aB) (kind:CallKind) (base:List Frame):Option (AV × Bool)->List Frame->Prop
 |normal (h:kind= .normal):CS K kind base none base
 |ret (c0:Frame) (rest:List Frame) (hk:kind= .deferred) (hb:base=c0::rest) (hm:c0.mode= .returning):CS K kind base none base
 |pan (c0:Frame) (rest:List Frame) (x:AV) (v:Value) (r:Bool) (hk:kind= .deferred) (hb:base=c0::rest) (hx:aI K x v):
  CS K kind base (some (x,r)) ({c0 with mode:= .panicking [{v,recovered:=r}]}::rest)
theorem CS.mono{K K':aB}(le:K.Le K'){kind base p cs}(h:CS K kind base p cs):CS K' kind base p cs:=by
 cases h with
 |normal h=>exact .normal h
 |ret c0 rest hk hb hm=>exact .ret c0 rest hk hb hm
 |pan c0 rest x v r hk hb hx=>exact .pan c0 rest x v r hk hb (hx.mono le)
theorem mB(s:iU)(d t:Nat)(x:AV):(s.set d x).get t=if d=t then x else s.get t:=by
 simp only[iU.set,iU.get,look]
 by_cases h:d=t
 ·subst h
  have:Nat.beq d d=true:=Nat.beq_refl d
  rw[this,if_pos rfl];rfl
 ·have:Nat.beq d t=false:=by
   cases hb:Nat.beq d t with
   |false=>rfl
   |true=>exact absurd (Nat.eq_of_beq_eq_true hb) h
  rw[this,if_neg h];rfl
section
variable {P:Program} {K:aB} {G:Nat->Option (List AV)} {w0 w:World} {h:ae}
theorem dg.set{s:iU}{tmps:Array Value}(hs:dg K s tmps){d:Nat}(hd:d<tmps.size){x:AV}{v:Value}(hx:aI K x v):dg K (s.set d x) (tmps.setIfInBounds d v):=by
 intro t
 rw[mB]
 by_cases ht:d=t
 ·subst ht
  rw[if_pos rfl]
  simp[Array.getElem?_setIfInBounds,hd]
  exact hx
 ·rw[if_neg ht]
  have:(tmps.setIfInBounds d v).getD t undef=tmps.getD t undef:=by
   simp[Array.getElem?_setIfInBounds,ht]
  rw[this]
  exact hs t
theorem ju{e:Env}{a:Act}(hs:dg K e.tmps a.tmps)(x:Operand):aI K (e.eval x) (a.eval x):=by
 cases x with
 |tmp t=>exact hs t
 |const v=>exact oZ v
 |global g=>exact .dW g 0
 |func f=>exact .func (.func f) [] [] #[] #[] .nil .nil
theorem ev.put{e:Env}{a:Act}{B:Frame}{ms:List Nat}(hf:ev P K e a B ms){dst:Option Tmp}(hd:∀d,dst=some d->d<a.tmps.size){x:AV}{v:Value}(hx:aI K x v):
 ev P K (e.put dst x) (a.put dst v) B ms:=by
 cases dst with
 |none=>exact hf
 |some d=>exact⟨hf.dY.set (hd d rfl) hx,hf.defers,hf.round,hf.fn⟩
theorem qR(a:Act)(dst:Option Tmp)(v:Value):(a.put dst v).tmps.size=a.tmps.size:=by
 cases dst<;>simp[Act.put]
section steps
variable {B:Frame} {a:Act} {k:List Item} {cs:List Frame} {ops:Array Oper} {i:Nat} {rest:List Nat} {o:Oper} {w':World}
theorem qo(ho:ops[i]?=some o)(v:Value):(B.atR a (.inRegion ops (i::rest)::k)).finish v=B.atR (a.put o.dst v) (.inRegion ops rest::k):=by
 rw[Frame.finish_atR,ho];rfl
theorem uD(ho:ops[i]?=some o)(hw:Region.wanted o (yielded ops a.tmps)=true){v:Value}(hr:(o.semAt B.roundOf a.eval).run P w= .ok (.value v) w'):
 step P (lone (B.atR a (.inRegion ops (i::rest)::k)) cs w)= .next (lone (B.atR (a.put o.dst v) (.inRegion ops rest::k)) cs w'):=by
 refine step_lone_go ?_
 rw[stepGR_op ho hw,<-qo ho]
 simp[stepG.apply,hr,Sem.runT_eq]
theorem Cm(ho:ops[i]?=some o)(hw:Region.wanted o (yielded ops a.tmps)=true)(hr:(o.semAt B.roundOf a.eval).run P w= .ok .skip w'):
 step P (lone (B.atR a (.inRegion ops (i::rest)::k)) cs w)= .next (lone (B.atR (a.put o.dst undef) (.inRegion ops rest::k)) cs w'):=by
 refine step_lone_go ?_
 rw[stepGR_op ho hw,<-qo ho]
 simp[stepG.apply,hr,Sem.runT_eq]
theorem Cn(ho:ops[i]?=some o)(hw:Region.wanted o (yielded ops a.tmps)=true){f:FuncId}{args:Array Value}(hr:(o.semAt B.roundOf a.eval).run P w= .ok (.enter f args) w'):
 step P (lone (B.atR a (.inRegion ops (i::rest)::k)) cs w)= .next (lone (Frame.enter P f args .normal) (B.atR a (.inRegion ops (i::rest)::k)::cs) w'):=by
 refine step_lone_go ?_
 rw[stepGR_op ho hw]
 simp[stepG.apply,hr,Sem.runT_eq,Frame.atR]
theorem zV(ho:ops[i]?=some o)(hw:Region.wanted o (yielded ops a.tmps)=true){l:Nat}{f:FuncId}{tmps:Array Value}{assign body:Code}(hr:(o.semAt B.roundOf a.eval).run P w= .ok (.round l f tmps assign body) w'):
 step P (lone (B.atR a (.inRegion ops (i::rest)::k)) cs w)= .next (lone (Frame.round l f tmps assign body .normal) (B.atR a (.inRegion ops (i::rest)::k)::cs) w'):=by
 refine step_lone_go ?_
 rw[stepGR_op ho hw]
 simp[stepG.apply,hr,Sem.runT_eq,Frame.atR]
theorem zW(ho:ops[i]?=some o)(hw:Region.wanted o (yielded ops a.tmps)=true){d:Deferred}(hr:(o.semAt B.roundOf a.eval).run P w= .ok (.defer d) w'):
 step P (lone (B.atR a (.inRegion ops (i::rest)::k)) cs w)= .next (lone (B.atR ({a with defers:=d::a.defers}.put o.dst undef) (.inRegion ops rest::k)) cs w'):=by
 refine step_lone_go ?_
 rw[stepGR_op ho hw,<-qo (B:=B) (k:=k) (rest:=rest) (a:={a with defers:=d::a.defers}) ho]
 simp[stepG.apply,hr,Sem.runT_eq,Frame.atR]
theorem tf(ho:ops[i]?=some o)(hw:Region.wanted o (yielded ops a.tmps)=true){v:Value}(hr:(o.semAt B.roundOf a.eval).run P w= .halt (.panic v) w'):
 step P (lone (B.atR a (.inRegion ops (i::rest)::k)) cs w)= .next (lone {B.atR a (.inRegion ops (i::rest)::k) with mode:= .panicking [{v,recovered:=false}]} cs w'):=by
 refine step_lone_go ?_
 rw[stepGR_op ho hw,<-Frame.raise_atR]
 simp[stepG.apply,hr,Sem.runT_eq]
theorem qS(ho:ops[i]?=some o)(hw:Region.wanted o (yielded ops a.tmps)=true)(hro:B.roundOf=none)(hr:(o.semAt B.roundOf a.eval).run P w= .ok .recover w')
 (ht:tryRecover (B.atR a (.inRegion ops (i::rest)::k)) cs=none):
 step P (lone (B.atR a (.inRegion ops (i::rest)::k)) cs w)= .next (lone (B.atR (a.put o.dst .nilIface) (.inRegion ops rest::k)) cs w'):=by
 refine step_lone_go ?_
 have hro':(B.atR a (.inRegion ops (i::rest)::k)).roundOf=none:=hro
 rw[stepGR_op ho hw,<-qo ho]
 simp[stepG.apply,hr,Sem.runT_eq,hro',ht]
theorem qT(ho:ops[i]?=some o)(hw:Region.wanted o (yielded ops a.tmps)=true)(hro:B.roundOf=none)(hr:(o.semAt B.roundOf a.eval).run P w= .ok .recover w')
 {v:Value} {cs':List Frame} (ht:tryRecover (B.atR a (.inRegion ops (i::rest)::k)) cs=some (v,cs')):
 step P (lone (B.atR a (.inRegion ops (i::rest)::k)) cs w)= .next (lone (B.atR (a.put o.dst v) (.inRegion ops rest::k)) cs' w'):=by
 refine step_lone_go ?_
 have hro':(B.atR a (.inRegion ops (i::rest)::k)).roundOf=none:=hro
 rw[stepGR_op ho hw,<-qo ho]
 simp[stepG.apply,hr,Sem.runT_eq,hro',ht]
end steps
end
end Go.AE
end
