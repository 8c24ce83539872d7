/-
  The engine, part 15a: operations, one after the other.
-/
import Derived.Test.YtnfciiiohoafaaaGreatDoorPC
set_option linter.unusedSimpArgs false
set_option linter.unusedVariables false
set_option linter.constructorNameAsVariable false
section
namespace Go.AE
open Go.RowKit (Below)
section
variable {P:Program} {G:Nat->Option (List AV)} {w0:World} {R:Rec}
theorem Steps.tail{m m1 m2:Machine}(h:step P m= .next m1)(hs:Steps P m m2)(hne:m≠m2):Steps P m1 m2:=by
 obtain⟨n,hn⟩:=hs
 cases n with
 |zero=>simp[runN] at hn;exact absurd hn hne
 |succ n=>simp only[runN,h] at hn;exact⟨n,hn⟩
theorem qW{fr fr':Frame}{cs cs':List Frame}{w w':World}(h:lone fr cs w=lone fr' cs' w'):fr=fr':=by
 unfold lone at h
 simp only[Machine.mk.injEq,Array.mk.injEq,List.cons.injEq,Goroutine.mk.injEq] at h
 exact h.2.1.1.1
theorem Arr.swap{K:aB}{m m1 m':Machine}{B:Frame}{k:List Item}{c:Code}{cs cs0:List Frame}{x:Xt}{a a0:Act}{w wz:World}(hc:∀id,c≠ .exit id)(hc2:c≠ .ret)(hm:m=lone (B.atR a0 (.code c::k)) cs0 wz)
 (h1:step P m= .next m1) (h2:step P m'= .next m1) (h:Arr P K m B k cs x a w):Arr P K m' B k cs x a w:=by
 refine Arr.of_steps (.one h2) ?_
 cases x with
 |normal=>
  refine Steps.tail h1 h ?_
  rw[hm]
  intro hq
  have:=congrArg Frame.todo (qW hq)
  simp only[Frame.atR] at this
  exact absurd (congrArg List.length this) (by simp)
 |exit id=>
  obtain⟨t,e1,e2⟩:=h
  refine⟨t,e1,Steps.tail h1 e2 ?_⟩
  rw[hm]
  intro hq
  have:=congrArg Frame.todo (qW hq)
  simp only[Frame.atR,List.cons.injEq,Item.code.injEq] at this
  exact hc id this.1
 |ret=>
  obtain⟨t,e2⟩:=h
  refine⟨t,Steps.tail h1 e2 ?_⟩
  rw[hm]
  intro hq
  have:=congrArg Frame.todo (qW hq)
  simp only[Frame.atR,List.cons.injEq,Item.code.injEq] at this
  exact hc2 this.1
 |panic x=>
  obtain⟨t,v,e1,e2⟩:=h
  refine⟨t,v,e1,Steps.tail h1 e2 ?_⟩
  rw[hm]
  intro hq
  have:=congrArg Frame.mode (qW hq)
  simp[Frame.atR] at this
theorem Left.refl{K:aB}{w:World}{a:Act}{B:Frame}{ms:List Nat}{base cs:List Frame}{k:List Item}{m:Machine}{out:Xt}{e:Env}{h:ae}(hf:ev P K e a B ms)(hcs:CS K B.kind base e.pan cs)(hs:jv P G w0 K h w)(ha:Arr P K m B k cs out a w):
 Left P G w0 K ms B base m k a.tmps.size out e h K w a cs ms:=
 ⟨.refl K,hs,hf,hcs,rfl,fun _ hr=> .inl hr,ha⟩
theorem Left.of_steps{K K':aB}{w':World}{a':Act}{B:Frame}{ms ms':List Nat}{base cs':List Frame}{k:List Item}{m m1:Machine}{out:Xt}{e':Env}{h':ae}{n:Nat}(hs:Steps P m m1)(L:Left P G w0 K ms B base m1 k n out e' h' K' w' a' cs' ms'):
 Left P G w0 K ms B base m k n out e' h' K' w' a' cs' ms':=
 ⟨L.le,L.sim,L.frame,L.cs,L.size,L.marks,L.arr.of_steps hs⟩
theorem yr(hn:iZ P)(hR:mi P G w0 R){ops:Array Oper}:∀(l:List Nat) (e:Env) (h:ae) (out:Xt) (e':Env) (h':ae),br P G R ops l e h=some (out,e',h')->
 ∀(K:aB) (w:World) (a:Act) (B:Frame) (k:List Item) (base cs:List Frame) (ms:List Nat),ev P K e a B ms->CS K B.kind base e.pan cs->jv P G w0 K h w->wT a.tmps.size ops=true->
 ∃K' w' a' cs',Left P G w0 K ms B base (lone (B.atR a (.inRegion ops l::k)) cs w) k a.tmps.size out e' h' K' w' a' cs' ms:=by
 intro l
 induction l with
 |nil=>
  intro e h out e' h' he K w a B k base cs ms hf hcs hs hops
  simp only[br,Option.some.injEq,Prod.mk.injEq] at he
  obtain⟨rfl,rfl,rfl⟩:=he
  exact⟨K,w,a,cs,.refl hf hcs hs (.one stepR_region_end)⟩
 |cons i rest ih=>
  intro e h out e' h' he K w a B k base cs ms hf hcs hs hops
  simp only[br] at he
  cases ho:ops[i]? with
  |none=>rw[ho] at he;cases he
  |some o=>
   rw[ho] at he
   simp only at he
   have hdst:=wU hops ho
   cases hw:bg ops e o with
   |none=>rw[hw] at he;cases he
   |some b=>
    rw[hw] at he
    have hwm:=Cp hf.dY hops hw
    cases b with
    |false=>
     simp only at he
     have hstep:=stepR_op_skip (P:=P) (b:=B) (a:=a) (k:=k) (cs:=cs) (w:=w) (ops:=ops) (i:=i) (rest:=rest) (by rw[ho];simpa using hwm)
     have hb:(ops[i]?).bind (·.dst)=o.dst:=by rw[ho];rfl
     rw[hb] at hstep
     obtain⟨K',w',a',cs',L⟩:=ih _ _ _ _ _ he K w (a.put o.dst undef) B k base cs ms (hf.put hdst (.tuple [] #[] .nil)) (by cases o.dst<;>exact hcs) hs (by rw[qR];exact hops)
     rw[qR] at L
     exact⟨K',w',a',cs',.of_steps (.one hstep) L⟩
    |true=>
     simp only at he
     cases hop:dC P G R e h o with
     |none=>rw[hop] at he;cases he
     |some q=>
      obtain⟨r,e1,h1⟩:=q
      rw[hop] at he
      obtain⟨K1,w1,a1,cs1,le1,s1,f1,c1,z1,hres⟩:=N8 (i:=i) (rest:=rest) hn hR hop hf hcs hs ho hwm k
      cases r with
      |ret x=>
       obtain⟨v,hx,hst⟩:=hres
       simp only at he
       obtain⟨K',w',a',cs',L⟩:=ih _ _ _ _ _ he K1 w1 (a1.put o.dst v) B k base cs1 ms (f1.put (by rw[z1];exact hdst) hx) (by cases o.dst<;>exact c1) s1 (by rw[qR,z1];exact hops)
       rw[qR,z1] at L
       refine⟨K',w',a',cs',le1.trans L.le,L.sim,L.frame,L.cs,L.size,fun r hr=> .inl hr,L.arr.of_steps hst⟩
      |panic x=>
       obtain⟨v,todo,hx,hst⟩:=hres
       simp only[Option.some.injEq,Prod.mk.injEq] at he
       obtain⟨rfl,rfl,rfl⟩:=he
       exact⟨K1,w1,a1,cs1,le1,s1,f1,c1,z1,fun r hr=> .inl hr,todo,v,hx,hst⟩
theorem ev.same{K:aB}{e e2:Env}{a:Act}{B:Frame}{ms:List Nat}(hf:ev P K e a B ms)(hs:nX e e2):ev P K e2 a B ms:=by
 refine⟨fun t=>?_,hs.defers ▸ hf.defers,?_,hf.fn⟩
 ·have:=hs.dY t
  unfold Env.get at this
  rw[<-this];exact hf.dY t
 ·have:=hf.round
  rw[hs.round,hs.defers] at this
  exact this
theorem Aa{n:Nat}{ps:Array Tmp}(h:(ps.all fun p=>decide (p<n))=true):∀p∈ps.toList,p<n:=by
 intro p hp
 rw[Array.all_eq_true'] at h
 simpa using h p (Array.mem_toList_iff.1 hp)
end
end Go.AE
end
section
namespace Go.AE
section
variable {P:Program} {G:Nat->Option (List AV)} {R:Rec} {ops:Array Oper} {i:Nat}
end
end Go.AE
end
section
namespace Go.AE
section
variable {K:aB} {G:Nat->Option (List AV)} {ok:FuncId->Nat->Code->Bool} {w0 w:World} {h:ae}
end
end Go.AE
end
section
namespace Go.AE
open Go.RowKit (Below)
section
variable {P:Program} {G:Nat->Option (List AV)} {w0:World} {R:Rec}
structure But(d:Tmp)(e eh:Env):Prop where
 dY:∀t,t≠d->e.get t=eh.get t
 defers:e.defers=eh.defers
 pan:e.pan=eh.pan
 round:e.round=eh.round
theorem But.eval{d:Tmp}{e eh:Env}(b:But d e eh){x:Operand}(hx:x≠ .tmp d):e.eval x=eh.eval x:=by
 cases x with
 |tmp t=>exact b.dY t fun q=>hx (by rw[q])
 |_=>rfl
end
end Go.AE
end
section
namespace Go.AE
section
variable {ops:Array Oper} {i:Nat}
theorem ready_mono{S S':Nat->Bool}{k:Nat}(hr:iV ops S k)(h:∀j,S j=true->S' j=true):iV ops S' k:=fun o ho ed hed hb=>h _ (hr o ho ed hed hb)
theorem uM(S:Nat->Bool)(a b:Nat):aR (aR S a) b=aR (aR S b) a:=by
 funext j
 unfold aR
 by_cases h1:j=a<;>by_cases h2:j=b<;>simp[h1,h2]
structure Qd(ops:Array Oper)(i:Nat)(d2:Tmp):Prop where
 lt:i+1<ops.size
 no:yk ops i (i+1)=false
 all:∀k,k<ops.size->k≠i->k≠i+1->yk ops (i+1) k=true∨yk ops k i=true∨(Qe ops d2 k=true/\yk ops k (i+1)=false)
variable {d2:Tmp}
variable {P:Program} {G:Nat->Option (List AV)} {w0:World} {R:Rec}
end
end Go.AE
end
section
namespace Go.AE
section
variable {ops:Array Oper} {i j:Nat} {P:Program} {G:Nat->Option (List AV)} {R:Rec}
theorem dK:(dE ops i j).size=ops.size:=by simp[dE]
theorem ki(k:Nat):(dE ops i j)[k]?=(ops[k]?).map fun o=>if k=j then {o with after:=o.after.push {on:=i,ground:= .data}} else o:=by
 unfold dE
 simp only[List.getElem?_toArray,List.getElem?_mapIdx,Array.getElem?_toList]
theorem wY(k:Nat):((dE ops i j)[k]?).bind (·.dst)=(ops[k]?).bind (·.dst):=by
 rw[ki]
 cases ops[k]? with
 |none=>rfl
 |some o=>simp only[Option.map_some,Option.bind_some];split<;>rfl
theorem yu(e:Env)(o:Oper):bg (dE ops i j) e o=bg ops e o:=by
 unfold bg
 cases o.guard with
 |none=>rfl
 |some g=>simp only[wY]
theorem gf:∀(L:List Nat) (e:Env) (h:ae),br P G R (dE ops i j) L e h=br P G R ops L e h:=by
 intro L
 induction L with
 |nil=>intro e h;rfl
 |cons k L ih=>
  intro e h
  unfold br
  rw[ki]
  cases ho:ops[k]? with
  |none=>rfl
  |some o=>
   simp only[Option.map_some]
   have e1:∀o':Oper,o'.op=o.op->o'.type=o.type->o'.guard=o.guard->o'.dst=o.dst->(bg (dE ops i j) e o'=bg ops e o/\dC P G R e h o'=dC P G R e h o):=by
    intro o' q1 q2 q3 q4
    refine⟨by rw[yu];unfold bg;rw[q3],?_⟩
    unfold dC
    rw[q1,q2,q4]
   by_cases hk:k=j
   ·rw[if_pos hk]
    obtain⟨q1,q2⟩:=e1 {o with after:=o.after.push {on:=i,ground:= .data}} rfl rfl rfl rfl
    rw[q1,q2]
    simp only[ih]
   ·rw[if_neg hk]
    obtain⟨q1,q2⟩:=e1 o rfl rfl rfl rfl
    rw[q1]
    simp only[ih]
theorem eY{S:Nat->Bool}{k:Nat}(hr:iV ops S k)(hk:k=j->S i=true):iV (dE ops i j) S k:=by
 intro o ho ed hed hb
 rw[ki] at ho
 cases hq:ops[k]? with
 |none=>rw[hq] at ho;cases ho
 |some o0=>
  rw[hq] at ho
  simp only[Option.map_some,Option.some.injEq] at ho
  split at ho
  ·rename_i hk'
   subst ho
   rcases Array.mem_push.1 hed with q|q
   ·exact hr o0 hq ed q hb
   ·subst q;exact hk hk'
  ·subst ho;exact hr o0 hq ed hed hb
theorem Ab:∀(L:List Nat) (S:Nat->Bool),S i=true->iF ops S L->iF (dE ops i j) S L:=by
 intro L
 induction L with
 |nil=>intro S _ h k hk;exact h k (by rw[dK] at hk;exact hk)
 |cons k L ih=>
  intro S hS h
  obtain⟨h1,h2,h3,h4⟩:=h
  refine⟨by rw[dK];exact h1,h2,eY h3 fun _=>hS,ih _ ?_ h4⟩
  unfold aR
  split
  ·rfl
  ·exact hS
theorem Cv(h:zZ (dE ops i j)):zZ ops:=by
 intro k o ho ed hed hb
 have hg:(dE ops i j)[k]?=some (if k=j then {o with after:=o.after.push {on:=i,ground:= .data}} else o):=by rw[ki,ho];rfl
 refine h k _ hg ed ?_ hb
 split
 ·exact Array.mem_push.2 (.inl hed)
 ·exact hed
def sn(ops:Array Oper)(S:Nat->Bool):Prop:=∀(k:Nat) (o:Oper),ops[k]?=some o->S k=true->∀ed∈o.after,Region.binds .any ed=true->S ed.on=true
theorem sn.one{S:Nat->Bool}{k:Nat}(c:sn ops S)(hr:iV ops S k):sn ops (aR S k):=by
 intro m o ho hS ed hed hb
 unfold aR at hS ⊢
 split
 ·rfl
 ·split at hS
  ·rename_i q;subst q;exact hr o ho ed hed hb
  ·exact c m o ho hS ed hed hb
theorem wg{S:Nat->Bool}(hB:kQ ops (Region.before ops)=true)(c:sn ops S){k:Nat}:∀(m:Nat),m<ops.size->iV ops S m->((Region.before ops).getD m 0).testBit k=true->k<ops.size->S k=true:=by
 intro m
 induction m using Nat.strongRecOn with
 |_ m ih=>
  intro hm hr hb hk
  unfold kQ at hB
  rw[List.all_eq_true] at hB
  have:=hB m (List.mem_range.2 hm)
  have ho:ops[m]?=some ops[m]:=Array.getElem?_eq_getElem hm
  rw[ho] at this
  simp only[Bool.and_eq_true,List.all_eq_true,Array.all_eq_true'] at this
  obtain⟨h1,h2⟩:=this
  have h3:=h2 k (List.mem_range.2 hk)
  rw[hb] at h3
  simp only[Bool.not_true,Bool.false_or,Array.any_eq_true',Bool.and_eq_true,Bool.or_eq_true] at h3
  obtain⟨ed,hed,hbd,hq⟩:=h3
  have hs:=hr _ ho ed hed hbd
  rcases hq with hq|hq
  ·rw[<-Nat.eq_of_beq_eq_true hq];exact hs
  ·have hlt:ed.on<m:=by
    have:=h1 ed hed
    rw[hbd] at this
    simpa using this
   exact ih ed.on hlt (by omega) (fun o ho' ed' hed' hb'=>c _ o ho' hs ed' hed' hb') hq hk
theorem Fq{n:Nat}(hB:zZ ops)(hn:n+1=ops.size):∀(L:List Nat) (S:Nat->Bool),S n=false->S i=true->iV ops S n->iF ops (aR S n) L->iF (dE ops i n) S (L++[n]):=by
 intro L
 induction L with
 |nil=>
  intro S hS hi hr h
  refine⟨by rw[dK];omega,hS,eY hr fun _=>hi,fun k hk=>?_⟩
  exact h k (by rw[dK] at hk;exact hk)
 |cons k L ih=>
  intro S hS hi hr h
  obtain⟨h1,h2,h3,h4⟩:=h
  unfold aR at h2
  split at h2
  ·cases h2
  ·rename_i hkn
   have hr2:iV ops S k:=by
    intro o ho ed hed hb
    have:=h3 o ho ed hed hb
    unfold aR at this
    split at this
    ·rename_i q
     have:=hB k o ho ed hed hb
     omega
    ·exact this
   refine⟨by rw[dK];exact h1,h2,eY hr2 (fun q=>absurd q hkn),ih (aR S k) ?_ ?_ ?_ ?_⟩
   ·unfold aR;rw[if_neg (Ne.symm hkn)];exact hS
   ·unfold aR;split;rfl;exact hi
   ·exact ready_mono hr fun j hj=>by unfold aR;split;rfl;exact hj
   ·rw[uM];exact h4
theorem Fs{n:Nat}(hB:zZ ops)(hn:n+1=ops.size)(hin:i<n):∀(L:List Nat) (S:Nat->Bool),S n=false->S i=false->iV ops S n->iF ops (aR S n) L->
 ∃M1 M2,L=M1++i::M2/\(∀k∈M1,k<ops.size/\k≠i/\k≠n/\S k=false)/\(∀k∈M2,k<ops.size/\k≠i/\k≠n/\S k=false)/\iF (dE ops i n) S (M1++i::(M2++[n])):=by
 intro L
 induction L with
 |nil=>
  intro S hS hi hr h
  have:=h i (by omega)
  unfold aR at this
  rw[if_neg (by omega),hi] at this
  cases this
 |cons k L ih=>
  intro S hS hi hr h
  obtain⟨h1,h2,h3,h4⟩:=h
  unfold aR at h2
  split at h2
  ·cases h2
  ·rename_i hkn
   have hr2:iV ops S k:=by
    intro o ho ed hed hb
    have:=h3 o ho ed hed hb
    unfold aR at this
    split at this
    ·rename_i q
     have:=hB k o ho ed hed hb
     omega
    ·exact this
   have hr3:iV ops (aR S k) n:=ready_mono hr fun j hj=>by unfold aR;split;rfl;exact hj
   by_cases hki:k=i
   ·subst hki
    have mem2:∀(L:List Nat) (S:Nat->Bool),iF ops S L->∀m∈L,m<ops.size/\S m=false:=by
     intro L
     induction L with
     |nil=>intro S _ m hm;cases hm
     |cons a L ih2=>
      intro S hL m hm
      obtain⟨q1,q2,q3,q4⟩:=hL
      rcases List.mem_cons.1 hm with rfl|hm
      ·exact⟨q1,q2⟩
      ·obtain⟨p1,p2⟩:=ih2 _ q4 m hm
       unfold aR at p2
       split at p2
       ·cases p2
       ·exact⟨p1,p2⟩
    refine⟨[],L,rfl,fun m hm=>(nomatch hm),fun m hm=>?_,?_⟩
    ·obtain⟨p1,p2⟩:=mem2 L _ h4 m hm
     unfold aR at p2
     split at p2
     ·cases p2
     ·rename_i q1
      split at p2
      ·cases p2
      ·rename_i q2
       exact⟨p1,q1,q2,p2⟩
    ·refine⟨by rw[dK];exact h1,hi,eY hr2 (fun q=>absurd q hkn),?_⟩
     refine Fq hB hn L _ ?_ ?_ hr3 ?_
     ·unfold aR;rw[if_neg (Ne.symm hkn)];exact hS
     ·unfold aR;rw[if_pos rfl]
     ·rw[uM];exact h4
   ·rw[uM] at h4
    obtain⟨M1,M2,e1,e2,e3,e4⟩:=ih (aR S k) (by unfold aR;rw[if_neg (Ne.symm hkn)];exact hS) (by unfold aR;rw[if_neg (Ne.symm hki)];exact hi) hr3 h4
    have tS:∀m,aR S k m=false->S m=false:=fun m q=>by
     unfold aR at q
     split at q
     ·cases q
     ·exact q
    refine⟨k::M1,M2,by rw[e1];rfl,fun m hm=>?_,fun m hm=>?_,by rw[dK];exact h1,h2,eY hr2 (fun q=>absurd q hkn),e4⟩
    ·rcases List.mem_cons.1 hm with rfl|hm
     ·exact⟨h1,hki,hkn,h2⟩
     ·obtain⟨p1,p2,p3,p4⟩:=e2 m hm
      exact⟨p1,p2,p3,tS m p4⟩
    ·obtain⟨p1,p2,p3,p4⟩:=e3 m hm
     exact⟨p1,p2,p3,tS m p4⟩
theorem Cw{n:Nat}(hB:zZ ops)(hn:n+1=ops.size)(hin:i<n):∀(L:List Nat) (S:Nat->Bool),S n=false->S i=false->sn ops S->iF ops S L->
 iF (dE ops i n) S L∨∃pre M1 M2 S',L=pre++(n::(M1++i::M2))/\S' i=false/\iV ops S' n/\sn ops S'/\(∀k∈M1,k<ops.size/\k≠i/\k≠n/\S' k=false)/\(∀k∈M2,k<ops.size/\k≠i/\k≠n/\S' k=false)/\iF (dE ops i n) S (pre++(M1++i::(M2++[n]))):=by
 intro L
 induction L with
 |nil=>
  intro S h1 h2 _ h
  have:=h i (by omega)
  rw[h2] at this;cases this
 |cons k L ih=>
  intro S hS hi hc h
  obtain⟨h1,h2,h3,h4⟩:=h
  by_cases hki:k=i
  ·subst hki
   exact .inl ⟨by rw[dK];exact h1,h2,eY h3 (fun q=>by omega),Ab L _ (by unfold aR;rw[if_pos rfl]) h4⟩
  ·by_cases hkn:k=n
   ·subst hkn
    obtain⟨M1,M2,e1,e2,e3,e4⟩:=Fs hB hn hin L S hS hi h3 h4
    exact .inr ⟨[],M1,M2,S,by rw[e1];rfl,hi,h3,hc,e2,e3,e4⟩
   ·rcases ih (aR S k) (by unfold aR;rw[if_neg (Ne.symm hkn)];exact hS) (by unfold aR;rw[if_neg (Ne.symm hki)];exact hi) (hc.one h3) h4 with q|⟨pre,M1,M2,S',e1,e0,e2,e3,e4,e5,e6⟩
    ·exact .inl ⟨by rw[dK];exact h1,h2,eY h3 (fun q=>absurd q hkn),q⟩
    ·exact .inr ⟨k::pre,M1,M2,S',by rw[e1];rfl,e0,e2,e3,e4,e5,by rw[dK];exact h1,h2,eY h3 (fun q=>absurd q hkn),e6⟩
def ae.qX(h:ae)(c:Nat)(xs:List AV):ae:={h with boxes:=h.boxes.set c xs}
theorem uN{h:ae}{a c:Nat}{xs:List AV}(hne:a≠c):(h.qX c xs).boxes[a]?=h.boxes[a]?:=by
 unfold ae.qX
 simp only[List.getElem?_set]
 rw[if_neg (fun q=>hne q.symm)]
variable {e e':Env} {h h':ae} {b:Array Nat}
theorem tj(N:br P G R ops (List.range ops.size) e h=some (.normal,e',h'))(F:Fits P G R ops e h b):∀(A B:List Nat) (S:Nat->Bool) (e1:Env) (h1:ae),Inv P G R ops e h b S e1 h1->iF ops S (A++B)->
 ∃S2 e2 h2,br P G R ops A e1 h1=some (.normal,e2,h2)/\Inv P G R ops e h b S2 e2 h2/\iF ops S2 B:=by
 intro A
 induction A with
 |nil=>intro B S e1 h1 I hL;exact⟨S,e1,h1,rfl,I,hL⟩
 |cons k A ih=>
  intro B S e1 h1 I hL
  obtain⟨hk,hu,hr,hL⟩:=hL
  obtain⟨x,e2,h2,hs,I'⟩:=next N F I hk hu hr
  obtain⟨S2,e3,h3,hgo,I3,L3⟩:=ih B _ _ _ I' hL
  exact⟨S2,e3,h3,dn.2 ⟨x,e2,h2,hs,hgo⟩,I3,L3⟩
theorem wZ(N:br P G R ops (List.range ops.size) e h=some (.normal,e',h'))(F:Fits P G R ops e h b){S:Nat->Bool}{e1:Env}{h1:ae}(I:Inv P G R ops e h b S e1 h1){k:Nat}(hk:k<ops.size)
 (hu:S k=false) (hr:iV ops S k):∀o,ops[k]?=some o->Alike ops (cK P G R ops e h k).1 e1 o:=by
 have ho:ops[k]?=some ops[k]:=Array.getElem?_eq_getElem hk
 have ahead:∀i,i<ops.size->Ord b i k->S i=true:=by
  intro i hi hik
  obtain⟨ed,hed,hbd,hq⟩:=F.bits k i _ ho hi hik
  have hs:=hr _ ho ed hed hbd
  have hlt:=F.Lz k _ ho ed hed hbd
  rcases hq with rfl|hq
  ·exact hs
  ·exact I.closed i ed.on hi (Nat.lt_trans hlt hk) hs hq
 intro o ho' t ht
 rw[ho] at ho';injection ho' with ho';subst ho'
 rw[I.dY t,uH N t k (Nat.le_of_lt hk),qV (k:=k) ops.size (Nat.le_of_lt hk)]
 ·refine val_congr k fun w hw hd=>?_
  have hx:ops[w]?=some ops[w]:=Array.getElem?_eq_getElem (Nat.lt_trans hw hk)
  rw[qs hx] at hd
  exact(ahead w (Nat.lt_trans hw hk) (F.looks hw hk hx ho (.inl ⟨hd,ht⟩))).symm
 ·intro w hkw hw hd
  rcases Nat.lt_or_ge k w with hlt|hge
  ·cases hq:S w with
   |false=>rfl
   |true=>
    have hx:ops[w]?=some ops[w]:=Array.getElem?_eq_getElem hw
    rw[qs hx] at hd
    have:=I.closed k w hk hw hq (F.looks hlt hw ho hx (.inr ⟨hd,ht⟩))
    rw[hu] at this;cases this
  ·rw[Nat.le_antisymm hge hkw,hu]
theorem ja{k:Nat}{x:AV}{e1:Env}{h1:ae}(hs:jR ops k=true)(st:dR P G R ops k e h=some (x,e1,h1)):
 x= .tuple []/\e1=e/\gE ops k=none/\∃(o:Oper) (t:TypeId) (a v:Operand) (c off n:Nat) (cs old:List AV),ops[k]?=some o/\o.op= .store t a v/\o.guard=none/\e.eval a= .ptr (.box c) off/\(e.eval v).aC=some cs/\bF P t=some n/\h.boxes[c]?=some old/\cs.length=n/\off+n<=old.length/\h1=h.qX c (bI old off cs):=by
 unfold jR at hs
 unfold dR at st
 cases ho:ops[k]? with
 |none=>rw[ho] at hs;cases hs
 |some o=>
  rw[ho] at hs st
  simp only[Bool.and_eq_true,Option.isNone_iff_eq_none] at hs
  obtain⟨q1,q2,q3⟩:=hs
  cases hop:o.op<;>rw[hop] at q1<;>try (cases q1;done)
  rename_i t a v
  have hw:bg ops e o=some true:=by unfold bg;rw[q2]
  simp only[hw] at st
  have hev:dC P G R e h o=(aO P G e.eval h (.store t a v)).map fun(x,h)=>(.ret x,e,h):=by
   unfold dC
   rw[hop]
  rw[hev] at st
  simp only[aO] at st
  cases hst:aA P h t (e.eval a) (e.eval v) with
  |none=>rw[hst] at st;simp at st
  |some hh=>
   rw[hst] at st
   simp only[Option.map_some,Option.some.injEq,Prod.mk.injEq] at st
   obtain⟨rfl,rfl,rfl⟩:=st
   unfold aA at hst
   split at hst
   ·rename_i c off cs n h1 h2 h3
    split at hst
    ·rename_i old hold
     split at hst
     ·rename_i hle
      injection hst with hst
      exact⟨rfl,rfl,by simp[gE,ho,q3],o,t,a,v,c,off,n,cs,old,rfl,hop,q2,h1,h2,h3,hold,hle.1,hle.2,hst.symm⟩
     ·cases hst
    ·cases hst
   ·cases hst
theorem oy{k:Nat}{o:Oper}{t:TypeId}{a v:Operand}{c off n:Nat}{cs old:List AV}(ho:ops[k]?=some o)(hop:o.op= .store t a v)(hg:o.guard=none)(ha:e.eval a= .ptr (.box c) off)(hv:(e.eval v).aC=some cs)(hz:bF P t=some n)(hb:h.boxes[c]?=some old)(hl:cs.length=n)(hle:off+n<=old.length):
 dR P G R ops k e h=some (.tuple [],e,h.qX c (bI old off cs)):=by
 unfold dR
 simp only[ho]
 have hw:bg ops e o=some true:=by unfold bg;rw[hg]
 simp only[hw]
 have hev:dC P G R e h o=(aO P G e.eval h (.store t a v)).map fun(x,h)=>(.ret x,e,h):=by
  unfold dC
  rw[hop]
 rw[hev]
 simp only[aO]
 have:aA P h t (e.eval a) (e.eval v)=some (h.qX c (bI old off cs)):=by
  unfold aA
  simp only[ha,hv,hz,hb]
  rw[if_pos ⟨hl,hle⟩];rfl
 rw[this];rfl
theorem w7{n:Nat}(hn:jR ops n=true):∀(M:List Nat) {e e':Env} {h h':ae},(∀k∈M,k<ops.size/\jw ops k= .pure/\eW ops k n=true)->∀rest,br P G R ops (M++n::rest) e h=some (.normal,e',h')->br P G R ops (n::(M++rest)) e h=some (.normal,e',h'):=by
 intro M
 induction M with
 |nil=>intro e e' h h' _ rest hr;exact hr
 |cons k M ih=>
  intro e e' h h' hM rest hr
  rw[List.cons_append,dn] at hr
  obtain⟨x,e1,h1,hs,hr⟩:=hr
  obtain⟨hk,hp,hap⟩:=hM k List.mem_cons_self
  have hr:=ih (fun m hm=>hM m (List.mem_cons_of_mem _ hm)) rest hr
  obtain⟨rfl,rfl,hany⟩:=sf hp hs
  rw[dn] at hr ⊢
  obtain⟨x2,e2,h2,hs2,hr⟩:=hr
  obtain⟨rfl,rfl,hd,o,t,a,v,c,off,m,cs,old,g1,g2,g3,g4,g5,g6,g7,g8,g9,rfl⟩:=ja hn hs2
  have hal:∀z∈o.op.operands,(e1.put (gE ops k) x).eval z=e1.eval z:=by
   intro z hz
   cases z with
   |tmp s=>
    show(e1.put (gE ops k) x).get s=e1.get s
    rw[yo]
    split
    ·rename_i hq
     exfalso
     unfold eW at hap
     have hok:ops[k]?=some ops[k]:=Array.getElem?_eq_getElem hk
     rw[hok,g1] at hap
     simp only[Bool.and_eq_true] at hap
     rw[qs hok] at hq
     have hlook:s∈o.looksAt ops:=by
      unfold Oper.looksAt
      exact List.mem_append_left _ (List.mem_filterMap.2 ⟨.tmp s,by simpa using hz,rfl⟩)
     have h1:=hap.1
     unfold Oper.apart at h1
     rw[hq] at h1
     simp[hlook] at h1
    ·rfl
   |_=>rfl
  rw[hal a (by rw[g2];simp[Op.operands])] at g4
  rw[hal v (by rw[g2];simp[Op.operands])] at g5
  refine⟨_,e1,_,oy g1 g2 g3 g4 g5 g6 g7 g8 g9,?_⟩
  rw[hd] at hr ⊢
  show br P G R ops (k::(M++rest)) e1 _=_
  rw[dn]
  exact⟨x,e1,_,hany e1 _ (fun o ho t ht=>rfl),hr⟩
theorem Ac{n:Nat}(hi:jR ops i=true)(hn:jR ops n=true){e e':Env}{h h':ae}{bi bn:Nat}(h1:gP ops i e=some bi)(h2:gP ops n e=some bn)(hne:bi≠bn)(rest:List Nat)(hr:br P G R ops (i::n::rest) e h=some (.normal,e',h')):br P G R ops (n::i::rest) e h=some (.normal,e',h'):=by
 rw[dn] at hr
 obtain⟨x,e1,hh1,hs,hr⟩:=hr
 obtain⟨rfl,rfl,hd,o,t,a,v,c,off,m,cs,old,g1,g2,g3,g4,g5,g6,g7,g8,g9,rfl⟩:=ja hi hs
 rw[hd] at hr
 replace hr:br P G R ops (n::rest) e1 (h.qX c (bI old off cs))=some (.normal,e',h'):=hr
 rw[dn] at hr
 obtain⟨x2,e2,hh2,hs2,hr⟩:=hr
 obtain⟨rfl,rfl,hd2,o2,t2,a2,v2,c2,off2,m2,cs2,old2,k1,k2,k3,k4,k5,k6,k7,k8,k9,rfl⟩:=ja hn hs2
 have q1:bi=c:=by
  unfold gP at h1
  rw[g1] at h1
  simp only[g2,g4] at h1
  injection h1 with h1;exact h1.symm
 have q2:bn=c2:=by
  unfold gP at h2
  rw[k1] at h2
  simp only[k2,k4] at h2
  injection h2 with h2;exact h2.symm
 subst q1;subst q2
 have k7':h.boxes[bn]?=some old2:=by rw[<-k7];exact(uN (fun q=>hne q.symm)).symm
 have g7':(h.qX bn (bI old2 off2 cs2)).boxes[bi]?=some old:=by rw[uN hne];exact g7
 rw[dn]
 refine⟨_,e2,_,oy k1 k2 k3 k4 k5 k6 k7' k8 k9,?_⟩
 rw[hd2]
 show br P G R ops (i::rest) e2 _=_
 rw[dn]
 refine⟨_,e2,_,oy g1 g2 g3 g4 g5 g6 g7' g8 g9,?_⟩
 rw[hd]
 rw[hd2] at hr
 have hcomm:(h.qX bn (bI old2 off2 cs2)).qX bi (bI old off cs)=(h.qX bi (bI old off cs)).qX bn (bI old2 off2 cs2):=by
  unfold ae.qX
  simp only[List.set_comm _ _ hne]
 rw[hcomm]
 exact hr
theorem Ft(hok:rY ops i=true)(hat:iA P G R ops e h i=true)(hf:df P G R (dE ops i (ops.size - 1)) e h=true)(he:br P G R ops (List.range ops.size) e h=some (.normal,e',h'))(tp:Nat):
 ∃e2,br P G R ops (Region.linearise .any ops tp) e h=some (.normal,e2,h')/\nX e2 e':=by
 unfold rY at hok
 simp only[Bool.and_eq_true,decide_eq_true_eq,List.all_eq_true,List.mem_range,Bool.or_eq_true] at hok
 obtain⟨k0,k1,k2,k3,k4⟩:=hok
 obtain⟨n,hn1⟩:∃n,ops.size - 1=n:=⟨_,rfl⟩
 have hn:n+1=ops.size:=by omega
 simp only[hn1] at hf k3 k4
 have hE:br P G R (dE ops i n) (List.range (dE ops i n).size) e h=some (.normal,e',h'):=by rw[dK,gf];exact he
 have hBk:=Cv (wX hf)
 have hL:=nP hBk tp
 rcases Cw (i:=i) hBk hn (by omega) _ (fun _=>false) rfl rfl (fun k o ho hS=>by cases hS) hL with q|⟨pre,M1,M2,S',q1,q7,q2,q3,q4,q5,q6⟩
 ·obtain⟨e2,hev,hsame⟩:=uJ hE (jS hf) _ _ _ _ (si hE) q
  rw[gf] at hev
  exact⟨e2,hev,hsame⟩
 ·have good:∀k,k<ops.size/\k≠i/\k≠n/\S' k=false->k<ops.size/\jw ops k= .pure/\eW ops k n=true:=by
   rintro k ⟨p1,p2,p3,p4⟩
   rcases k4 k (by omega) with w|w|w
   ·exact absurd (Nat.eq_of_beq_eq_true w) p2
   ·have:=wg k0 q3 n (by omega) q2 w p1
    rw[p4] at this;cases this
   ·refine⟨p1,?_,w.2⟩
    have w1:=w.1
    unfold Nn at w1
    cases ho:ops[k]? with
    |none=>rw[ho] at w1;cases w1
    |some o=>
     rw[ho] at w1
     simpa [jw,ho] using w1
  rw[<-List.append_assoc] at q6
  obtain⟨S2,em,hm,ev1,I1,L1⟩:=tj hE (jS hf) (pre++M1) (i::(M2++[n])) _ _ _ (si hE) q6
  obtain⟨l1,l2,l3,l4⟩:=L1
  have al1:=wZ hE (jS hf) I1 l1 l2 l3
  obtain⟨x,e2,h2,hs,I2⟩:=next hE (jS hf) I1 l1 l2 l3
  have hs':dR P G R ops i em hm=some (x,e2,h2):=by
   have:=gf (P:=P) (G:=G) (R:=R) (ops:=ops) (i:=i) (j:=n) [i] em hm
   have h3:br P G R (dE ops i n) [i] em hm=some (.normal,e2.put (gE (dE ops i n) i) x,h2):=dn.2 ⟨x,e2,h2,hs,rfl⟩
   rw[this] at h3
   obtain⟨x',e3,h4,hs3,hr3⟩:=dn.1 h3
   obtain⟨rfl,rfl,hd3,o3,t3,a3,v3,c3,off3,m3,cs3,old3,z1,z2,z3,z4,z5,z6,z7,z8,z9,rfl⟩:=ja k2 hs3
   rw[hd3] at hr3
   simp only[br,Option.some.injEq,Prod.mk.injEq,true_and] at hr3
   obtain⟨r1,r2⟩:=hr3
   have hx:x= .tuple []/\e2=e3:=by
    have hgE:(dE ops i n)[i]?=some o3:=by
     rw[ki,z1,Option.map_some,if_neg (by omega)]
    have hSt:jR (dE ops i n) i=true:=by
     unfold jR at k2 ⊢
     rw[hgE]
     rw[z1] at k2
     exact k2
    obtain⟨y1,y2,-⟩:=ja hSt hs
    exact⟨y1,y2⟩
   rw[hx.1,hx.2,<-r2]
   exact hs3
  obtain⟨rfl,rfl,hd,o,t,a,v,c,off,m,cs,old,g1,g2,g3,g4,g5,g6,g7,g8,g9,rfl⟩:=ja k2 hs'
  have hdE:gE (dE ops i n) i=none:=by
   unfold gE at hd ⊢
   rw[wY];exact hd
  rw[hdE] at I2
  replace I2:Inv P G R (dE ops i n) e h (Region.before (dE ops i n)) (aR S2 i) e2 (hm.qX c (bI old off cs)):=I2
  obtain⟨Sn,en,hhn,ev2,I3,L3⟩:=tj hE (jS hf) M2 [n] _ _ _ I2 l4
  obtain⟨e5,hev5,hsame⟩:=uJ hE (jS hf) _ _ _ _ I3 L3
  have hnS2:S2 n=false/\iV ops S2 n:=by
   refine⟨?_,?_⟩
   ·have:∀(L:List Nat) (S:Nat->Bool),iF (dE ops i n) S L->∀m∈L,S m=false:=by
     intro L
     induction L with
     |nil=>intro S _ m hm;cases hm
     |cons a L ih2=>
      intro S hL m hm
      obtain⟨u1,u2,u3,u4⟩:=hL
      rcases List.mem_cons.1 hm with rfl|hm
      ·exact u2
      ·have p2:=ih2 _ u4 m hm
       unfold aR at p2
       split at p2
       ·cases p2
       ·exact p2
    have:=this _ _ l4 n (by simp)
    unfold aR at this
    rw[if_neg (by omega)] at this
    exact this
   ·intro o' ho' ed hed hb
    have hS:S' ed.on=true:=q2 o' ho' ed hed hb
    have hlt:ed.on<n:=hBk n o' ho' ed hed hb
    cases hq:S2 ed.on with
    |true=>rfl
    |false=>
     exfalso
     have mem:∀(L:List Nat) (S:Nat->Bool),iF (dE ops i n) S L->∀m,m<ops.size->S m=false->m∈L:=by
      intro L
      induction L with
      |nil=>
       intro S hL m hm hSm
       have:=hL m (by rw[dK];exact hm)
       rw[hSm] at this;cases this
      |cons a L ih2=>
       intro S hL m hm hSm
       obtain⟨u1,u2,u3,u4⟩:=hL
       by_cases hma:m=a
       ·subst hma;exact List.mem_cons_self
       ·exact List.mem_cons_of_mem _ (ih2 _ u4 m hm (by unfold aR;rw[if_neg hma];exact hSm))
     have hm1:=mem (i::(M2++[n])) S2 ⟨l1,l2,l3,l4⟩ ed.on (by omega) hq
     rcases List.mem_cons.1 hm1 with w|w
     ·rw[w,q7] at hS;cases hS
     ·rcases List.mem_append.1 w with w|w
      ·have:=(q5 _ w).2.2.2
       rw[hS] at this;cases this
      ·rw[List.mem_singleton] at w;omega
  have hrn:iV (dE ops i n) (aR S2 i) n:=eY (ready_mono hnS2.2 fun j hj=>by unfold aR;split;rfl;exact hj) fun _=>by unfold aR;rw[if_pos rfl]
  have al2:=wZ hE (jS hf) I2 (k:=n) (by rw[dK];omega) (by unfold aR;rw[if_neg (by omega)];exact hnS2.1) hrn
  have stE:∀k,cK P G R (dE ops i n) e h k=cK P G R ops e h k:=fun k=>by unfold cK;rw[gf]
  have put_congr:∀(k:Nat) (ea eb:Env),(∀o,(dE ops i n)[k]?=some o->Alike (dE ops i n) ea eb o)->gP ops k ea=gP ops k eb:=by
   intro k ea eb hal
   unfold gP
   cases ho:ops[k]? with
   |none=>rfl
   |some o'=>
    have hg:(dE ops i n)[k]?=some (if k=n then {o' with after:=o'.after.push {on:=i,ground:= .data}} else o'):=by rw[ki,ho];rfl
    have hz:=lj (hal _ hg)
    have hz2:∀z∈o'.op.operands,ea.eval z=eb.eval z:=by
     intro z hzm
     refine hz z ?_
     split<;>exact hzm
    show(match o'.op with| .store _ a _=>(match ea.eval a with| .ptr (.box b) _=>some b|_=>none) |_=>none)=(match o'.op with| .store _ a _=>(match eb.eval a with| .ptr (.box b) _=>some b|_=>none) |_=>none)
    revert hz2
    generalize o'.op=op
    intro hz2
    cases op with
    |store t' a' v'=>
     have:ea.eval a'=eb.eval a':=hz2 a' (by simp[Op.operands])
     simp only[this]
    |_=>rfl
  have hb:∃bi bn,gP ops i e2=some bi/\gP ops n e2=some bn/\bi≠bn:=by
   unfold iA at hat
   rw[hn1] at hat
   split at hat
   ·rename_i ei _ en _ r1 r2
    have s1:(cK P G R ops e h i).1=ei:=by unfold cK;rw[r1]
    have s2:(cK P G R ops e h n).1=en:=by unfold cK;rw[r2]
    split at hat
    ·rename_i bi bn u1 u2
     refine⟨bi,bn,?_,?_,?_⟩
     ·rw[<-u1,<-s1,<-stE];exact(put_congr i _ _ al1).symm
     ·rw[<-u2,<-s2,<-stE];exact(put_congr n _ _ al2).symm
     ·rintro rfl;rw[Nat.beq_refl] at hat;cases hat
    ·cases hat
   ·cases hat
  obtain⟨bi,bn,b1,b2,b3⟩:=hb
  have t1:br P G R ops (M2++n::[]) e2 (hm.qX c (bI old off cs))=some (.normal,e5,h'):=by
   rw[iE]
   rw[gf] at ev2 hev5
   exact⟨_,_,ev2,hev5⟩
  have t2:=w7 k3 M2 (fun k hk=>good k (q5 k hk)) [] t1
  rw[List.append_nil] at t2
  have t3:br P G R ops (i::n::M2) e2 hm=some (.normal,e5,h'):=by
   rw[dn]
   refine⟨_,_,_,hs',?_⟩
   rw[hd]
   exact t2
  have t4:=Ac k2 k3 b1 b2 b3 M2 t3
  rw[gf,iE] at ev1
  obtain⟨e0,h0,v1,v2⟩:=ev1
  have t5:br P G R ops (M1++n::(i::M2)) e0 h0=some (.normal,e5,h'):=iE.2 ⟨_,_,v2,t4⟩
  have t6:=w7 k3 M1 (fun k hk=>good k (q4 k hk)) _ t5
  refine⟨e5,?_,hsame⟩
  rw[q1]
  exact iE.2 ⟨_,_,v1,t6⟩
theorem stores_cases{e:Env}{h:ae}(hb:gu P G R ops e h=true):∃i,i<ops.size/\rY ops i=true/\iA P G R ops e h i=true/\df P G R (dE ops i (ops.size - 1)) e h=true:=by
 unfold gu at hb
 simp only[List.any_eq_true,List.mem_range,Bool.and_eq_true] at hb
 exact hb
theorem stores_of{e:Env}{h:ae}{i:Nat}(h1:i<ops.size)(h2:rY ops i=true)(h3:iA P G R ops e h i=true)(h4:df P G R (dE ops i (ops.size - 1)) e h=true):gu P G R ops e h=true:=by
 unfold gu
 simp only[List.any_eq_true,List.mem_range,Bool.and_eq_true]
 exact⟨i,h1,h2,h3,h4⟩
end
end Go.AE
end
section
namespace Go.AE
open Go.RowKit (Below)
section
variable {P:Program} {G:Nat->Option (List AV)} {w0:World} {R:Rec}
theorem Ad{b:Frame}{a:Act}{k:List Item}{cs:List Frame}{w:World}{c:Code}:step P (lone (b.atR a (.code (.scope c)::k)) cs w)= .next (lone (b.atR a (.code c:: .inScope c::k)) cs w):=by
 rfl
theorem wh{b:Frame}{a:Act}{k:List Item}{cs:List Frame}{w:World}{c:Code}:step P (lone (b.atR a (.inScope c::k)) cs w)= .next (lone (b.atR a k) cs w):=by
 rfl
theorem Arr.Fu{K:aB}{m:Machine}{B:Frame}{c:Code}{k:List Item}{cs:List Frame}{x:Xt}{a:Act}{w:World}(hn:x≠ .normal)
 (h:Arr P K m B (.inScope c::k) cs x a w):Arr P K m B k cs x a w:=by
 cases x with
 |normal=>exact absurd rfl hn
 |exit id=>
  obtain⟨t,h1,h2⟩:=h
  exact⟨t,h1.trans rfl,h2⟩
 |ret=>exact h
 |panic x=>exact h
theorem Ia(hn:iZ P)(hmix:P.follows .mixedOrders=true)(hR:mi P G w0 R):D7 P G w0 (b7 P G R):=by
 intro c e h out e' h' he K w a B k base cs ms hf hcs hs hok
 cases c with
 |skip=>
  simp only[b7,Option.some.injEq,Prod.mk.injEq] at he
  obtain⟨rfl,rfl,rfl⟩:=he
  exact⟨K,w,a,cs,ms,.refl hf hcs hs (.one stepR_skip)⟩
 |label l=>
  simp only[b7,Option.some.injEq,Prod.mk.injEq] at he
  obtain⟨rfl,rfl,rfl⟩:=he
  exact⟨K,w,a,cs,ms,.refl hf hcs hs (.one stepR_label)⟩
 |region id ops draw=>
  simp only[codeOk] at hok
  cases draw with
  |false=>
   simp only[b7,Bool.false_eq_true,if_false] at he
   obtain⟨K',w',a',cs',L⟩:=yr hn hR _ _ _ _ _ _ he K w a B k base cs ms hf hcs hs hok
   exact⟨K',w',a',cs',ms,.of_steps (.one stepR_region) L⟩
  |true=>
   simp only[b7,if_true] at he
   split at he
   ·rename_i hfit
    split at he
    ·rename_i e1 h1 hev
     simp only[Option.some.injEq,Prod.mk.injEq] at he
     obtain⟨rfl,rfl,rfl⟩:=he
     have hstep:=stepR_region_draw (P:=P) (b:=B) (a:=a) (k:=k) (cs:=cs) (w:=w) (ops:=ops) (id:=id)
     have hsch:Region.schedule (P.follows .mixedOrders) ops (w.tape w.drawn (.order B.fn id))=Region.linearise .any ops (w.tape w.drawn (.order B.fn id)):=by
      simp only[Region.schedule,hmix,Bool.true_or,if_true]
     rw[hsch] at hstep
     rcases (Bool.or_eq_true _ _).mp hfit with hfit|hst
     ·obtain⟨e2,hev2,hsame⟩:=LF hev hfit (w.tape w.drawn (.order B.fn id))
      obtain⟨K',w',a',cs',L⟩:=yr hn hR _ _ _ _ _ _ hev2 K {w with drawn:=w.drawn+1} a B k base cs ms hf hcs (hs.drew _) hok
      exact⟨K',w',a',cs',ms,L.le,L.sim,L.frame.same hsame,hsame.pan ▸ L.cs,L.size,L.marks,L.arr.of_steps (.one hstep)⟩
     ·obtain⟨i,-,hi1,hi2,hi3⟩:=stores_cases hst
      obtain⟨e2,hev2,hsame⟩:=Ft hi1 hi2 hi3 hev (w.tape w.drawn (.order B.fn id))
      obtain⟨K',w',a',cs',L⟩:=yr hn hR _ _ _ _ _ _ hev2 K {w with drawn:=w.drawn+1} a B k base cs ms hf hcs (hs.drew _) hok
      exact⟨K',w',a',cs',ms,L.le,L.sim,L.frame.same hsame,hsame.pan ▸ L.cs,L.size,L.marks,L.arr.of_steps (.one hstep)⟩
    ·cases he
   ·cases he
 |seq x y=>
  simp only[codeOk,Bool.and_eq_true] at hok
  simp only[b7] at he
  cases hx:R.code x e h with
  |none=>rw[hx] at he;cases he
  |some q=>
   obtain⟨o1,e1,h1⟩:=q
   rw[hx] at he
   obtain⟨K1,w1,a1,cs1,ms1,L1⟩:=hR.code x e h _ _ _ hx K w a B (.code y::k) base cs ms hf hcs hs hok.1
   have start:=Steps.one (stepR_seq (P:=P) (b:=B) (a:=a) (k:=k) (cs:=cs) (w:=w) (x:=x) (y:=y))
   by_cases hnorm:o1= .normal
   ·subst hnorm
    simp only at he
    obtain⟨K2,w2,a2,cs2,ms2,L2⟩:=hR.code y e1 h1 _ _ _ he K1 w1 a1 B k base cs1 ms1 L1.frame L1.cs L1.sim (by rw[L1.size];exact hok.2)
    refine⟨K2,w2,a2,cs2,ms2,L1.le.trans L2.le,L2.sim,L2.frame,L2.cs,L2.size.trans L1.size,fun r hr=>?_,(L2.arr.of_steps L1.arr).of_steps start⟩
    rcases L2.marks r hr with hq|hq
    ·exact L1.marks r hq
    ·exact .inr fun hm=>hq (L1.le.md r hm)
   ·have he:some (o1,e1,h1)=some (out,e',h'):=by
     cases o1<;>first|exact absurd rfl hnorm|exact he
    simp only[Option.some.injEq,Prod.mk.injEq] at he
    obtain⟨rfl,rfl,rfl⟩:=he
    exact⟨K1,w1,a1,cs1,ms1,L1.le,L1.sim,L1.frame,L1.cs,L1.size,L1.marks,(L1.arr.pass rfl hnorm).of_steps start⟩
 |cond q x y=>
  simp only[codeOk,Bool.and_eq_true] at hok
  simp only[b7] at he
  have hv:=ju hf.dY q
  split at he
  ·rename_i hq
   rw[hq] at hv
   obtain⟨K1,w1,a1,cs1,ms1,L1⟩:=hR.code x e h _ _ _ he K w a B k base cs ms hf hcs hs hok.1
   exact⟨K1,w1,a1,cs1,ms1,L1.of_steps (.one (by
    have:=stepR_cond (P:=P) (b:=B) (k:=k) (cs:=cs) (w:=w) (x:=x) (y:=y) hv.bm.1
    simpa using this))⟩
  ·rename_i hq
   rw[hq] at hv
   obtain⟨K1,w1,a1,cs1,ms1,L1⟩:=hR.code y e h _ _ _ he K w a B k base cs ms hf hcs hs hok.2
   exact⟨K1,w1,a1,cs1,ms1,L1.of_steps (.one (by
    have:=stepR_cond (P:=P) (b:=B) (k:=k) (cs:=cs) (w:=w) (x:=x) (y:=y) hv.bm.1
    simpa using this))⟩
  ·cases he
 |block id x=>
  simp only[codeOk] at hok
  simp only[b7] at he
  cases hx:R.code x e h with
  |none=>rw[hx] at he;cases he
  |some q=>
   obtain⟨o1,e1,h1⟩:=q
   rw[hx] at he
   obtain⟨K1,w1,a1,cs1,ms1,L1⟩:=hR.code x e h _ _ _ hx K w a B (.inBlock id::k) base cs ms hf hcs hs hok
   have start:=Steps.one (stepR_block (P:=P) (b:=B) (a:=a) (k:=k) (cs:=cs) (w:=w) (id:=id) (c:=x))
   have fin:∀{o:Xt},Arr P K1 (lone (B.atR a (.code x:: .inBlock id::k)) cs w) B k cs1 o a1 w1->Left P G w0 K ms B base (lone (B.atR a (.code (.block id x)::k)) cs w) k a.tmps.size o e1 h1 K1 w1 a1 cs1 ms1:=fun ha=>
    ⟨L1.le,L1.sim,L1.frame,L1.cs,L1.size,L1.marks,ha.of_steps start⟩
   cases o1 with
   |normal=>
    simp only[Option.some.injEq,Prod.mk.injEq] at he
    obtain⟨rfl,rfl,rfl⟩:=he
    exact⟨K1,w1,a1,cs1,ms1,fin (L1.arr.trans (.one stepR_inBlock))⟩
   |exit id'=>
    simp only at he
    obtain⟨t,h2,h3⟩:=L1.arr
    split at he
    ·rename_i hid
     subst hid
     simp only[Option.some.injEq,Prod.mk.injEq] at he
     obtain⟨rfl,rfl,rfl⟩:=he
     refine⟨K1,w1,a1,cs1,ms1,fin (h3.trans (.one (stepR_exit (h2.trans ?_))))⟩
     simp[exitTo]
    ·rename_i hid
     simp only[Option.some.injEq,Prod.mk.injEq] at he
     obtain⟨rfl,rfl,rfl⟩:=he
     refine⟨K1,w1,a1,cs1,ms1,fin ⟨t,h2.trans ?_,h3⟩⟩
     simp[exitTo,Ne.symm hid]
   |ret=>
    simp only[Option.some.injEq,Prod.mk.injEq] at he
    obtain⟨rfl,rfl,rfl⟩:=he
    obtain⟨t,h3⟩:=L1.arr
    exact⟨K1,w1,a1,cs1,ms1,fin ⟨t,h3⟩⟩
   |panic x=>
    simp only[Option.some.injEq,Prod.mk.injEq] at he
    obtain⟨rfl,rfl,rfl⟩:=he
    obtain⟨t,v,h2,h3⟩:=L1.arr
    exact⟨K1,w1,a1,cs1,ms1,fin ⟨t,v,h2,h3⟩⟩
 |loop x=>
  have hok':codeOk a.tmps.size x=true:=by simpa only[codeOk] using hok
  simp only[b7] at he
  cases hx:R.code x e h with
  |none=>rw[hx] at he;cases he
  |some q=>
   obtain⟨o1,e1,h1⟩:=q
   rw[hx] at he
   obtain⟨K1,w1,a1,cs1,ms1,L1⟩:=hR.code x e h _ _ _ hx K w a B (.inLoop x::k) base cs ms hf hcs hs hok'
   have start:=Steps.one (stepR_loop (P:=P) (b:=B) (a:=a) (k:=k) (cs:=cs) (w:=w) (c:=x))
   by_cases hnorm:o1= .normal
   ·subst hnorm
    simp only at he
    obtain⟨K2,w2,a2,cs2,ms2,L2⟩:=hR.code (.loop x) e1 h1 _ _ _ he K1 w1 a1 B k base cs1 ms1 L1.frame L1.cs L1.sim (by rw[L1.size];simpa only[codeOk] using hok')
    have harr:=Arr.swap (c:= .loop x) (m':=lone (B.atR a1 (.inLoop x::k)) cs1 w1) (fun _=>by simp) (by simp) rfl stepR_loop stepR_inLoop L2.arr
    refine⟨K2,w2,a2,cs2,ms2,L1.le.trans L2.le,L2.sim,L2.frame,L2.cs,L2.size.trans L1.size,fun r hr=>?_,(harr.of_steps L1.arr).of_steps start⟩
    rcases L2.marks r hr with hq|hq
    ·exact L1.marks r hq
    ·exact .inr fun hm=>hq (L1.le.md r hm)
   ·have he:some (o1,e1,h1)=some (out,e',h'):=by
     cases o1<;>first|exact absurd rfl hnorm|exact he
    simp only[Option.some.injEq,Prod.mk.injEq] at he
    obtain⟨rfl,rfl,rfl⟩:=he
    exact⟨K1,w1,a1,cs1,ms1,L1.le,L1.sim,L1.frame,L1.cs,L1.size,L1.marks,(L1.arr.pass rfl hnorm).of_steps start⟩
 |scope x=>
  simp only[codeOk] at hok
  simp only[b7] at he
  obtain⟨K1,w1,a1,cs1,ms1,L1⟩:=hR.code x e h _ _ _ he K w a B (.inScope x::k) base cs ms hf hcs hs hok
  have start:=Steps.one (Ad (P:=P) (b:=B) (a:=a) (k:=k) (cs:=cs) (w:=w) (c:=x))
  by_cases hnorm:out= .normal
  ·subst hnorm
   exact⟨K1,w1,a1,cs1,ms1,L1.le,L1.sim,L1.frame,L1.cs,L1.size,L1.marks,(show Arr P K1 _ B k cs1 .normal a1 w1 from L1.arr.trans (.one wh)).of_steps start⟩
  ·exact⟨K1,w1,a1,cs1,ms1,L1.le,L1.sim,L1.frame,L1.cs,L1.size,L1.marks,(L1.arr.Fu hnorm).of_steps start⟩
 |exit id=>
  simp only[b7,Option.some.injEq,Prod.mk.injEq] at he
  obtain⟨rfl,rfl,rfl⟩:=he
  exact⟨K,w,a,cs,ms,.refl hf hcs hs ⟨k,rfl,.refl P _⟩⟩
 |ret=>
  simp only[b7,Option.some.injEq,Prod.mk.injEq] at he
  obtain⟨rfl,rfl,rfl⟩:=he
  exact⟨K,w,a,cs,ms,.refl hf hcs hs ⟨k,.refl P _⟩⟩
 |rangeFunc f ps assign body=>
  simp only[codeOk,Bool.and_eq_true] at hok
  obtain⟨⟨hps,hoka⟩,hokb⟩:=hok
  have hps:=Aa hps
  simp only[b7] at he
  split at he
  ·rename_i g first cap hev
   have hvf:=ju hf.dY f
   rw[hev] at hvf
   have enter:∃(lg:Nat) (mark:List Deferred) (K1:aB) (w1:World) (ms1:List Nat),(Instr.enterLoop B.fn a.tmps ps assign body B.roundOf).run P w= .ok (lg,mark) w1/\K.Le K1/\
    jv P G w0 K1 {h with loops:=h.loops++[{tmps:=e.tmps,params:=ps,assign,body,state:= .ready,pending:=none}]} w1/\K1.γ[h.loops.length]?=some lg/\
    ev P K1 e {a with defers:=mark++a.defers} B ms1/\∀r∈ms1,r∈ms∨r∉K.md:=by
    have hokA:∀c,codeOk a.tmps.size c=true->Fk P B.fn a.tmps.size c=true:=fun c hc=>by
     unfold Fk;rw[hc,hf.fn];rfl
    have hround:=hf.round
    cases hro:e.round with
    |none=>
     rw[hro] at hround
     simp only at hround
     have hnot:w.heap.size∉K.md:=fun hq=>absurd (cV (hs.md _ hq).2) (Nat.lt_irrefl _)
     have s1:=hs.LG
     have le1:=K.Ea w.heap.size
     obtain⟨s2,hγ⟩:=s1.Eb (r:={tmps:=e.tmps,params:=ps,assign,body,state:= .ready,pending:=none}) (fn:=B.fn) w.heap.size (hf.dY.mono le1) (hokA _ hoka) (hokA _ hokb) hps
     have le2:=(K.mark w.heap.size).yq (w.alloc (.deferred (some []))).heap.size
     refine⟨_,_,_,_,w.heap.size::ms,by rw[hround];exact run_enterLoop_outer _ _ _ _ _,le1.trans le2,s2,?_,?_,?_⟩
     ·rw[hγ,World.size_alloc]
     ·have hf2:=hf.mono (le1.trans le2)
      refine⟨hf2.dY,?_,?_,hf.fn⟩
      ·refine .mark _ _ _ _ (by simp[aB.loop,aB.mark]) (fun hq=>hnot (hf.defers.sub _ hq)) hf2.defers
      ·rw[hro];exact hround
     ·intro r hr
      rcases List.mem_cons.1 hr with rfl|hr
      ·exact .inr hnot
      ·exact .inl hr
    |some l=>
     rw[hro] at hround
     obtain⟨lg,hl,hb,hkind,hd,hm,hed⟩:=hround
     have hll:l<h.loops.length:=by rw[<-hs.mA];exact(List.getElem?_eq_some_iff.1 hl).1
     obtain⟨k1,fn,tmps,d,k2,-⟩:=hs.loop l lg _ hl (List.getElem?_eq_getElem hll)
     obtain⟨s2,hγ⟩:=hs.Eb (r:={tmps:=e.tmps,params:=ps,assign,body,state:= .ready,pending:=none}) (fn:=B.fn) d hf.dY (hokA _ hoka) (hokA _ hokb) hps
     have le2:=K.yq w.heap.size
     refine⟨_,[],_,_,ms,?_,le2,s2,hγ,?_,fun r hr=> .inl hr⟩
     ·rw[hb]
      unfold Instr.enterLoop
      simp only[Sem.run_bind,run_getLoop k2,run_newObj_alloc,Result.andThen,Sem.run_pure]
     ·have hf2:=hf.mono le2
      exact⟨hf2.dY,hf2.defers,by rw[hro];exact⟨lg,le2.γ _ _ hl,hb,hkind,hd,hm,hed⟩,hf.fn⟩
   obtain⟨lg,mark,K1,w1,ms1,hent,le1,s1,hγ,f1,hms1⟩:=enter
   generalize hqv:a.eval f=qv at hvf
   cases hvf with
   |func _ _ _ fs cs' g1 g2=>
    cases hcall:R.call g (first++[.yield h.loops.length]++cap) {h with loops:=h.loops++[{tmps:=e.tmps,params:=ps,assign,body,state:= .ready,pending:=none}]} with
    |none=>rw[hcall] at he;cases he
    |some q=>
     obtain⟨r,h2⟩:=q
     rw[hcall] at he
     obtain⟨⟨fnn,hfn,hbody⟩,hc⟩:=hR.call _ _ _ _ _ hcall
     have hvs:ao K1 (first++[.yield h.loops.length]++cap) (fs++#[Value.func (.yield lg) #[] #[]]++cs').toList:=by
      simp only[Array.toList_append]
      exact((g1.mono le1).append (.cons _ _ _ _ (.yield _ _ hγ) .nil)).append (g2.mono le1)
     obtain⟨K2,w2,fr,le2,s2,hst,-,hl⟩:=hc K1 w1 _ hvs s1 (B.atR {a with defers:=mark++a.defers} (.inRangeFunc lg::k)::cs)
     have hstart:=stepR_rangeFunc (P:=P) (b:=B) (a:=a) (k:=k) (cs:=cs) (w:=w) (g:=f) (ps:=ps) (assign:=assign) (body:=body) (l:=lg) (mark:=mark) (w₁:=w1) (w₁':=w1) (w₂:=w1) (d:={target:= .fn (.func g) cs',args:=fs++#[Value.func (.yield lg) #[] #[]]}) (f:=g) (args:=fs++#[Value.func (.yield lg) #[] #[]]++cs') hent
      (by
       have hcst:∀v,a.eval (.const v)=v:=fun _=>rfl
       simp[resolve,rangeCall,hqv,Deferred.ofValue,hcst]) (by simp only[invoke];exact nm hn hfn hbody _ _)
     have start:=Steps.head hstart hst
     have f2:=f1.mono le2
     have c2:CS K2 B.kind base e.pan cs:=hcs.mono (le1.trans le2)
     cases r with
     |panic x=>
      simp only[Option.some.injEq,Prod.mk.injEq] at he
      obtain⟨rfl,rfl,rfl⟩:=he
      obtain⟨v,hx,hl⟩:=hl
      refine⟨K2,w2,_,cs,ms1,le1.trans le2,s2,f2,c2,rfl,hms1,.inRangeFunc lg::k,v,hx,start.trans (.one ?_)⟩
      rw[step_leave_panicked hl,Frame.raise_atR]
     |ret x=>
      obtain⟨v,hx,hl⟩:=hl
      have back:=start.trans (.one (step_leave_returned hl))
      rw[finish_atR_inRangeFunc] at back
      simp only at he
      split at he
      ·rename_i r hr
       split at he
       ·cases he
       ·rename_i hbusy
        obtain⟨mm,m1,m2,m3,-,-,-,-,-,-,-,s3⟩:=s2.bh (le2.γ _ _ hγ) hr .exhausted r.pending
        have hend:=run_endLoop (P:=P) m1 (by rw[m2];exact hbusy)
        have heq:({mm with state:= .exhausted,pending:=r.pending}:Loop)={mm with state:= .exhausted}:=by rw[<-m3]
        rw[heq] at s3
        have hend2:(Instr.endLoop lg).run P w2= .ok r.pending (w2.putObj lg (.loop {mm with state:= .exhausted})):=by rw[<-m3];exact hend
        have back2:=back.trans (.one (stepR_endRangeFunc hend2))
        cases hp:r.pending with
        |none=>
         rw[hp] at he back2 s3
         simp only[Option.some.injEq,Prod.mk.injEq] at he
         obtain⟨rfl,rfl,rfl⟩:=he
         exact⟨K2,_,_,cs,ms1,le1.trans le2,s3,f2,c2,rfl,hms1,back2⟩
        |some code=>
         rw[hp] at he back2 s3
         cases code with
         |ret=>
          simp only[Option.some.injEq,Prod.mk.injEq] at he
          obtain⟨rfl,rfl,rfl⟩:=he
          exact⟨K2,_,_,cs,ms1,le1.trans le2,s3,f2,c2,rfl,hms1,k,back2⟩
         |exit id=>
          simp only[Option.some.injEq,Prod.mk.injEq] at he
          obtain⟨rfl,rfl,rfl⟩:=he
          exact⟨K2,_,_,cs,ms1,le1.trans le2,s3,f2,c2,rfl,hms1,k,rfl,back2⟩
         |_=>cases he
      ·cases he
  ·cases he
 |_=>simp[b7] at he
end
section
variable {P:Program} {G:Nat->Option (List AV)} {w0:World} {R:Rec}
def Ec(tmps:Array Value):ResultVar->Sem Value
 | .tmp t=>pure (tmps.getD t undef)
 | .cell a t=>do loadVar t (<-asAddr (tmps.getD a undef))
theorem uO{K:aB}{e:Env}{h:ae}{w:World}(s:jv P G w0 K h w){tmps:Array Value}(hs:dg K e.tmps tmps):∀{rs:List ResultVar} {l:List AV},dJ P G e h rs=some l->
 ∃vs:List Value,ao K l vs/\(rs.mapM (Ec tmps)).run P w= .ok vs w:=by
 intro rs
 induction rs with
 |nil=>intro l hl;simp only[dJ,Option.some.injEq] at hl;subst hl;exact⟨[],.nil,by simp⟩
 |cons r rs ih=>
  intro l hl
  cases r with
  |tmp t=>
   simp only[dJ,Option.map_eq_some_iff] at hl
   obtain⟨l',hl',rfl⟩:=hl
   obtain⟨vs,h1,h2⟩:=ih hl'
   exact⟨_::vs,.cons _ _ _ _ (hs t) h1,by simp[List.mapM_cons,h2,Ec]⟩
  |cell a t=>
   simp only[dJ] at hl
   split at hl
   ·rename_i x l' hx hl'
    injection hl with hl;subst hl
    obtain⟨vs,h1,h2⟩:=ih hl'
    obtain⟨g,p,v,hp,hload,hv⟩:=zQ s hx (hs a)
    refine⟨v::vs,.cons _ _ _ _ hv h1,?_⟩
    rw[List.mapM_cons]
    simp only[Ec,hp,asAddr,Sem.run_bind,Sem.run_pure,Result.andThen_ok,hload,h2]
   ·cases hl
theorem Ae{K:aB}{fn:Func}{e:Env}{h:ae}{w:World}(s:jv P G w0 K h w){tmps:Array Value}(hs:dg K e.tmps tmps){x:AV}(he:mz P G fn e h=some x):
 ∃v,aI K x v/\(results fn tmps).run P w= .ok v w:=by
 unfold mz at he
 have key:∀l,dJ P G e h fn.results.toList=some l->∃vs:List Value,ao K l vs/\(results fn tmps).run P w= .ok (if hh:vs.toArray.size=1 then vs.toArray[0] else .tuple vs.toArray) w:=by
  intro l hl
  obtain⟨vs,h1,h2⟩:=uO s hs hl
  refine⟨vs,h1,?_⟩
  have hres:results fn tmps=(do let vs <-fn.results.mapM (Ec tmps);pure (if h:vs.size=1 then vs[0] else .tuple vs)):=by
   unfold results
   congr 2
  rw[hres,Array.mapM_eq_mapM_toList]
  simp only[Sem.run_bind,Sem.run_map,h2,Result.andThen_ok,Sem.run_pure]
 split at he
 ·rename_i x' hl
  injection he with he;subst he
  obtain⟨vs,h1,h2⟩:=key _ hl
  cases h1 with
  |cons _ c _ cs h3 h4=>cases h4;exact⟨c,h3,h2⟩
 ·rename_i l hne hl
  injection he with he;subst he
  obtain⟨vs,h1,h2⟩:=key _ hl
  refine⟨.tuple vs.toArray,.tuple _ _ (by simpa using h1),?_⟩
  rw[h2]
  have hlen:vs.length≠1:=by
   rw[<-h1.length]
   intro hq
   obtain⟨y,rfl⟩:=List.length_eq_one_iff.1 hq
   exact hne y rfl
  simp[hlen]
 ·cases he
def fP(K:aB):Option (AV × Bool)->FrameMode->Prop
 |none,u=>u= .returning
 |some (x,r),u=>r=false/\∃v,aI K x v/\u= .panicking [{v,recovered:=false}]
theorem fP.run{K:aB}{m u}(h:fP K m u):u≠ .run:=by
 cases m with
 |none=>simp only[fP] at h;rw[h];simp
 |some p=>obtain⟨x,r⟩:=p;obtain⟨_,v,_,h⟩:=h;rw[h];simp
theorem fP.un{K:aB}{r:Nat}{m u}(h:fP K m u):fP (K.un r) m u:=by
 cases m with
 |none=>exact h
 |some p=>obtain⟨x,r⟩:=p;obtain⟨h1,v,h2,h⟩:=h;exact⟨h1,v,aI.un h2,h⟩
theorem fP.mono{K K':aB}(le:K.Le K'){m u}(h:fP K m u):fP K' m u:=by
 cases m with
 |none=>exact h
 |some p=>obtain⟨x,r⟩:=p;obtain⟨h1,v,h2,h⟩:=h;exact⟨h1,v,h2.mono le,h⟩
theorem dg.un{K:aB}{r:Nat}{s tmps}(h:dg K s tmps):dg (K.un r) s tmps:=fun t=>aI.un (h t)
theorem Fv{fr:Frame}{cs:List Frame}{w:World}{r:Nat}{args:Array Value}{ds:List Deferred}(hm:fr.mode≠ .run)(hd:fr.defers={target:= .collected r,args}::ds)(hr:w.heap[r]?=some (.deferred (some []))):
 step P (lone fr cs w)= .next (lone {fr with defers:=ds} cs (w.putObj r (.deferred none))):=by
 refine step_lone_go ?_
 have ht:=run_takeDeferred (P:=P) hr
 cases hmode:fr.mode with
 |run=>exact absurd hmode hm
 |returning=>simp[stepG,unwind,hmode,hd,Sem.runT_eq,ht]
 |panicking chain=>simp[stepG,unwind,hmode,hd,Sem.runT_eq,ht]
def settled:Option (AV × Bool)->Option (AV × Bool)
 |some (_,true)=>none
 |q=>q
def Ib(P:Program)(K:aB)(fn:Func)(fr:Frame)(w:World):Res->Prop
 | .ret x=>fr.mode= .returning/\∃v,aI K x v/\(results fn fr.tmps).run P w= .ok v w
 | .panic x=>∃v,aI K x v/\fr.mode= .panicking [{v,recovered:=false}]
theorem Cx(hR:mi P G w0 R)(hn:iZ P){g:FuncId}{fn:Func}(hfn:P.funcs[g]?=some fn){K0:aB}{e:Env}:∀(cds:List Deferred) (ds:List (FuncId × List AV)) (ms:List Nat) (m:Option (AV × Bool)) (h:ae) (res:Res) (h':ae),
 bD P G R fn e ds m h=some (res,h')->∀(K:aB) (w:World) (fr:Frame) (cs:List Frame),fr.fn=g->fr.defers=cds->gT K ds cds ms->dg K e.tmps fr.tmps->fP K m fr.mode->jv P G w0 K h w->K0.Le K->
 (∀r∈ms,r∉K0.md)->
 ∃K' w' fr',K0.Le K'/\jv P G w0 K' h' w'/\Steps P (lone fr cs w) (lone fr' cs w')/\fr'.kind=fr.kind/\fr'.defers=[]/\fr'.fn=g/\Ib P K' fn fr' w' res/\(∀kind base p cs,CS K kind base p cs->CS K' kind base p cs):=by
 intro cds
 induction cds with
 |nil=>
  intro ds ms m h res h' he K w fr cs hg hd hdr hsl hmode hs hle hms
  generalize hq:([]:List Deferred)=q at hdr
  cases hdr with
  |call=>cases hq
  |mark=>cases hq
  |nil=>
   cases m with
   |none=>
    simp only[bD,Option.map_eq_some_iff,Prod.mk.injEq] at he
    obtain⟨x,hx,rfl,rfl⟩:=he
    obtain⟨v,h1,h2⟩:=Ae hs hsl hx
    exact⟨K,w,fr,hle,hs,.refl P _,rfl,hd,hg,⟨hmode,v,h1,h2⟩,fun _ _ _ _ h=>h⟩
   |some p=>
    obtain⟨x,r⟩:=p
    simp only[bD,Option.some.injEq,Prod.mk.injEq] at he
    obtain⟨rfl,rfl⟩:=he
    obtain⟨-,v,h1,h2⟩:=hmode
    exact⟨K,w,fr,hle,hs,.refl P _,rfl,hd,hg,⟨v,h1,h2⟩,fun _ _ _ _ h=>h⟩
 |cons d cds ih=>
  intro ds ms m h res h' he K w fr cs hg hd hdr hsl hmode hs hle hms
  generalize hq:d::cds=q at hdr
  cases hdr with
  |nil=>cases hq
  |mark r ds' cds' ms' hr hnr hrest=>
   injection hq with hq1 hq2
   subst hq1;subst hq2
   have hmd:=hs.md r hr
   have hstep:=Fv (P:=P) (cs:=cs) hmode.run hd hmd.2
   have hr0:r∉K0.md:=hms r List.mem_cons_self
   obtain⟨K',w',fr',g1,g2,g3,g4,g5,g6,g7,g8⟩:=ih _ ms' m h res h' he (K.un r) _ {fr with defers:=cds} cs hg rfl (hrest.un hnr) hsl.un hmode.un (hs.drop hr (.deferred none) (by intro _ _ _ hq;cases hq)) (Qh hle hr0) (fun r' hr'=>hms r' (List.mem_cons_of_mem _ hr'))
   exact⟨K',w',fr',g1,g2,.head hstep g3,g4,g5,g6,g7,fun _ _ _ _ hc=>g8 _ _ _ _ hc.un⟩
  |call f args vs cap ds' cds' _ hv hrest=>
   injection hq with hq1 hq2
   subst hq1;subst hq2
   simp only[bD] at he
   cases hcall:R.fg f args m h with
   |none=>rw[hcall] at he;cases he
   |some q=>
    obtain⟨rr,m1,h1⟩:=q
    rw[hcall] at he
    cases rr with
    |panic x=>simp at he
    |ret x=>
     obtain⟨⟨fnn,hfnn,hbody⟩,hc⟩:=hR.fg _ _ _ _ _ _ _ hcall
     have hinv:(invoke (.fn (.func f) cap) vs).run P w= .ok (.enter f (vs++cap)) w:=by
      simp only[invoke];exact nm hn hfnn hbody _ _
     have hstep:=step_defer (P:=P) (cs:=cs) (d:={target:= .fn (.func f) cap,args:=vs}) hmode.run hd rfl hinv
     have hcs:CS K .deferred ({fr with defers:=cds,mode:= .returning}::cs) m ({fr with defers:=cds}::cs):=by
      cases m with
      |none=>
       have:({fr with defers:=cds}:Frame)={fr with defers:=cds,mode:= .returning}:=by rw[<-show fr.mode= .returning from hmode]
       rw[this]
       exact .ret _ _ rfl rfl rfl
      |some p=>
       obtain⟨y,r⟩:=p
       obtain⟨rfl,v,hv1,hv2⟩:=hmode
       have:({fr with defers:=cds}:Frame)={({fr with defers:=cds,mode:= .returning}:Frame) with mode:= .panicking [{v,recovered:=false}]}:=by rw[<-hv2]
       rw[this]
       exact .pan _ _ y v false rfl rfl hv1
     obtain⟨K1,w1,fr1,cs1,v1,le1,s1,c1,hst,hk1,hgo⟩:=hc K w (vs++cap) _ _ hv hcs hs
     have hm1:∃u,cs1={fr with defers:=cds,mode:=u}::cs/\fP K1 (settled m1) (settle u):=by
      generalize hbase:({fr with defers:=cds,mode:= .returning}:Frame)::cs=base at c1
      cases c1 with
      |normal hh=>cases hh
      |ret c0 rest _ hb hm=>
       refine⟨.returning,hbase.symm,?_⟩
       simp[fP,settle,settled]
      |pan c0 rest y v r _ hb hx=>
       rw[hb] at hbase
       injection hbase with hb1 hb2
       subst hb1;subst hb2
       refine⟨.panicking [{v,recovered:=r}],rfl,?_⟩
       cases r with
       |true=>simp[fP,settle,settled]
       |false=>exact⟨rfl,v,hx,rfl⟩
     obtain⟨u,rfl,hm1⟩:=hm1
     have hback:=step_going_returned (c:={fr with defers:=cds,mode:=u}) (cs:=cs) hk1 hgo
     have he':bD P G R fn e ds' (settled m1) h1=some (res,h'):=by
      rcases m1 with _|⟨y,r⟩
      ·exact he
      ·cases r<;>exact he
     obtain⟨K',w',fr',g1,g2,g3,g4,g5,g6,g7,g8⟩:=ih _ ms _ h1 res h' he' K1 w1 {fr with defers:=cds,mode:=settle u} cs hg rfl (hrest.mono le1) (hsl.mono le1) hm1 s1 (hle.trans le1) hms
     exact⟨K',w',fr',g1,g2,.head hstep (hst.trans (.head hback g3)),g4,g5,g6,g7,fun _ _ _ _ hq=>g8 _ _ _ _ (hq.mono le1)⟩
theorem Af{n n':Nat}(h:n<=n'):∀{c:Code},codeOk n c=true->codeOk n' c=true:=by
 intro c
 induction c with
 |region id ops draw=>
  simp only[codeOk,wT,Array.all_eq_true]
  intro hq i hi
  have:=hq i hi
  revert this
  cases ops[i].dst with
  |none=>intro _;rfl
  |some d=>simp only[decide_eq_true_eq];intro hd;exact Nat.lt_of_lt_of_le hd h
 |seq a b iha ihb=>simp only[codeOk,Bool.and_eq_true];exact fun hq=>⟨iha hq.1,ihb hq.2⟩
 |cond q a b iha ihb=>simp only[codeOk,Bool.and_eq_true];exact fun hq=>⟨iha hq.1,ihb hq.2⟩
 |block id c ih=>simp only[codeOk];exact ih
 |loop c ih=>simp only[codeOk];exact ih
 |scope c ih=>simp only[codeOk];exact ih
 |rangeFunc f ps a b iha ihb=>
  simp only[codeOk,Bool.and_eq_true,Array.all_eq_true,decide_eq_true_eq]
  exact fun hq=>⟨⟨fun i hi=>Nat.lt_of_lt_of_le (hq.1.1 i hi) h,iha hq.1.2⟩,ihb hq.2⟩
 |_=>intro hq;exact hq
structure Prog(P:Program):Prop where
 names:iZ P
 mixed:P.follows .mixedOrders=true
 code:∀(g:FuncId) (fn:Func) (c:Code),P.funcs[g]?=some fn->fn.body=some c->codeOk fn.ntmps c=true
theorem Ag{K:aB}{args:List AV}{vargs:Array Value}(hv:ao K args vargs.toList)(n:Nat):dg K {ch:=[],base:=args} (vargs++Array.replicate n undef):=by
 intro t
 simp only[iU.get,look]
 have hlen:=hv.length
 rcases Nat.lt_or_ge t args.length with hlt|hge
 ·obtain⟨c,h1,h2⟩:=hv.get (List.getElem?_eq_getElem hlt)
  have hb:args.getD t (.tuple [])=args[t]:=by simp[hlt]
  rw[hb]
  have hc:(vargs++Array.replicate n undef).getD t undef=c:=by
   have hlt':t<vargs.size:=by simpa [hlen] using hlt
   rw[Array.getD_eq_getD_getElem?,Array.getElem?_append_left hlt',<-Array.getElem?_toList,h1];rfl
  rw[hc];exact h2
 ·have hb:args.getD t (.tuple [])= .tuple []:=by simp[List.getElem?_eq_none hge]
  rw[hb]
  have hc:(vargs++Array.replicate n undef).getD t undef=undef:=by
   have hge':vargs.size<=t:=by simpa [hlen] using hge
   rw[Array.getD_eq_getD_getElem?,Array.getElem?_append_right hge',Array.getElem?_replicate]
   split<;>rfl
  rw[hc]
  exact .tuple [] #[] .nil
theorem Ah(hp:Prog P)(hR:mi P G w0 R){g:FuncId}{args:List AV}{m m':Option (AV × Bool)}{h h':ae}{res:Res}(he:iB P G R g args m h=some (res,m',h')):
 (∃fn,P.funcs[g]?=some fn/\fn.body.isSome=true)/\∀(K:aB) (w:World) (vargs:Array Value) (kind:CallKind) (base cs:List Frame),ao K args vargs.toList->CS K kind base m cs->jv P G w0 K h w->
 ∃K' w' fr cs' fn,P.funcs[g]?=some fn/\K.Le K'/\jv P G w0 K' h' w'/\CS K' kind base m' cs'/\Steps P (lone (Frame.enter P g vargs kind) cs w) (lone fr cs' w')/\fr.kind=kind/\fr.defers=[]/\fr.fn=g/\Ib P K' fn fr w' res:=by
 unfold iB at he
 split at he
 ·cases he
 ·rename_i fn hfn
  split at he
  ·cases he
  ·rename_i body hbody
   refine⟨⟨fn,hfn,by rw[hbody];rfl⟩,fun K w vargs kind base cs hv hcs hs=>?_⟩
   let b:Frame:={(default:Frame) with fn:=g,kind:=kind}
   let a:Act:={tmps:=vargs++Array.replicate (fn.ntmps - vargs.size) undef,defers:=[]}
   have hb:b.roundOf=none:=rfl
   have henter:Frame.enter P g vargs kind=b.atR a [.code body]:=by
    unfold Frame.enter Frame.atR
    simp only[hfn,hbody,b,a,Option.map_some,Option.getD_some,Option.bind_some]
    rfl
   have hf0:ev P K {tmps:={ch:=[],base:=args},defers:=[],pan:=m,round:=none} a b []:=
    ⟨Ag hv _,.nil,rfl,by show(P.funcs[g]?).isSome=true;rw[hfn];rfl⟩
   have hok:codeOk a.tmps.size body=true:=Af (by simp[a];omega) (hp.code g fn body hfn hbody)
   have finish:∀(out:Xt) (e:Env) (h1:ae) (m0:Option (AV × Bool)),R.code body {tmps:={ch:=[],base:=args},defers:=[],pan:=m,round:=none} h=some (out,e,h1)->
    (out= .normal/\m0=none∨out= .ret/\m0=none∨∃x,out= .panic x/\m0=some (x,false))->(bD P G R fn e e.defers m0 h1).map (fun(r,h)=>(r,e.pan,h))=some (res,m',h')->
    ∃K' w' fr cs' fn,P.funcs[g]?=some fn/\K.Le K'/\jv P G w0 K' h' w'/\CS K' kind base m' cs'/\Steps P (lone (Frame.enter P g vargs kind) cs w) (lone fr cs' w')/\fr.kind=kind/\fr.defers=[]/\fr.fn=g/\Ib P K' fn fr w' res:=by
    intro out e h1 m0 hcode hout hun
    obtain⟨K1,w1,a1,cs1,ms1,L⟩:=hR.code _ _ _ _ _ _ hcode K w a b [] base cs [] hf0 hcs hs hok
    simp only[Option.map_eq_some_iff,Prod.mk.injEq] at hun
    obtain⟨⟨r,hh⟩,hun,rfl,rfl,rfl⟩:=hun
    have harr:∃(todo:List Item) (u:FrameMode),fP K1 m0 u/\Steps P (lone (Frame.enter P g vargs kind) cs w) (lone {b.atR a1 todo with mode:=u} cs1 w1):=by
     rw[henter]
     rcases hout with⟨rfl,rfl⟩|⟨rfl,rfl⟩|⟨x,rfl,rfl⟩
     ·exact⟨[],.returning,rfl,Steps.trans L.arr (.one (stepR_end hb))⟩
     ·obtain⟨todo,hst⟩:=L.arr
      exact⟨_,.returning,rfl,Steps.trans hst (.one (stepR_ret hb))⟩
     ·obtain⟨todo,v,hx,hst⟩:=L.arr
      exact⟨todo,_,⟨rfl,v,hx,rfl⟩,hst⟩
    obtain⟨todo,u,hmode,hst⟩:=harr
    obtain⟨K2,w2,fr,g1,g2,g3,g4,g5,g6,g7,g8⟩:=Cx hR hp.names hfn a1.defers e.defers ms1 m0 h1 r hh hun K1 w1 {b.atR a1 todo with mode:=u} cs1 rfl rfl L.frame.defers L.frame.dY hmode L.sim L.le
     (fun r hr=>(L.marks r hr).resolve_left (by simp))
    exact⟨K2,w2,fr,cs1,fn,hfn,g1,g2,g8 _ _ _ _ L.cs,hst.trans g3,g4,g5,g6,g7⟩
   split at he
   ·rename_i e1 h1 hc;exact finish _ _ _ _ hc (.inl ⟨rfl,rfl⟩) he
   ·rename_i e1 h1 hc;exact finish _ _ _ _ hc (.inr (.inl ⟨rfl,rfl⟩)) he
   ·rename_i x e1 h1 hc;exact finish _ _ _ _ hc (.inr (.inr ⟨x,rfl,rfl⟩)) he
   ·cases he
theorem Ib.Qj{K:aB}{fn:Func}{fr:Frame}{w:World}{res:Res}(hg:Ib P K fn fr w res)(hf:P.funcs[fr.fn]?=some fn)(hk:fr.kind= .normal)(hd:fr.defers=[]):Np P K fr w res:=by
 cases res with
 |ret x=>obtain⟨h1,v,h2,h3⟩:=hg;exact⟨v,h2,h1,hd,hk,fn,hf,h3⟩
 |panic x=>obtain⟨v,h2,h3⟩:=hg;exact⟨v,h2,h3,hd,fn,hf⟩
def jb(P:Program)(G:Nat->Option (List AV))(w0:World)(g:FuncId)(p:List AV->ae->Option (AV × ae)):Prop:=
 (∃fn,P.funcs[g]?=some fn/\fn.body.isSome=true)/\
 ∀args h x h',p args h=some (x,h')->∀(K:aB) (w:World) (vargs:Array Value),ao K args vargs.toList->jv P G w0 K h w->
  Calls P g vargs w fun e w'=>∃v K',e= .returned v/\K.Le K'/\aI K' x v/\jv P G w0 K' h' w'
theorem Ic(hp:Prog P){prims:FuncId->Option (List AV->ae->Option (AV × ae))}(hprim:∀g p,prims g=some p->jb P G w0 g p)(hR:mi P G w0 R):D8 P G w0 (gQ P G R prims):=by
 intro g args h r h' he
 unfold gQ at he
 split at he
 ·rename_i p hpp
  simp only[Option.map_eq_some_iff,Prod.mk.injEq] at he
  obtain⟨⟨x,hh⟩,hx,rfl,rfl⟩:=he
  obtain⟨hfn,hcalls⟩:=hprim g p hpp
  refine⟨hfn,fun K w vargs hv hs cs=>?_⟩
  obtain⟨e,w',fr,⟨v,K',rfl,le,hx',s'⟩,hc,hfr,hl⟩:=hcalls args h x hh hx K w vargs hv hs cs
  exact⟨K',w',fr,le,s',hc,hfr,v,hx',hl⟩
 ·simp only[Option.map_eq_some_iff,Prod.mk.injEq] at he
  obtain⟨⟨r',m',hh⟩,hx,rfl,rfl⟩:=he
  obtain⟨hfn,hb⟩:=Ah hp hR hx
  refine⟨hfn,fun K w vargs hv hs cs=>?_⟩
  obtain⟨K',w',fr,cs',fn,hf,le,s',c',hst,hk,hd,hg,hgone⟩:=hb K w vargs .normal cs cs hv (.normal rfl) hs
  have:cs'=cs:=by
   generalize hq:CallKind.normal=q at c'
   cases c' with
   |normal=>rfl
   |ret c0 rest h1=>exact absurd (hq.trans h1) (by simp)
   |pan c0 rest x v r h1=>exact absurd (hq.trans h1) (by simp)
  subst this
  exact⟨K',w',fr,le,s',hst,hg,hgone.Qj (by rw[hg];exact hf) hk hd⟩
theorem Fw(hp:Prog P)(hR:mi P G w0 R):zX P G w0 (iB P G R):=by
 intro g args m h x m' h' he
 obtain⟨hfn,hb⟩:=Ah hp hR he
 refine⟨hfn,fun K w vargs base cs hv hcs hs=>?_⟩
 obtain⟨K',w',fr,cs',fn,hf,le,s',c',hst,hk,hd,hg,hgone⟩:=hb K w vargs .deferred base cs hv hcs hs
 obtain⟨h1,v,h2,h3⟩:=hgone
 exact⟨K',w',fr,cs',v,le,s',c',hst,hk,h1,hd,fn,by rw[hg];exact hf,h3⟩
theorem wj{K:aB}:∀{ps:List Tmp} {args:List AV} {vargs:List Value} {s:iU} {tmps:Array Value},ao K args vargs->dg K s tmps->(∀p∈ps,p<tmps.size)->
 dg K (j9 ps args s) ((ps.zip vargs).foldl (fun ts p=>ts.setIfInBounds p.1 p.2) tmps)/\((ps.zip vargs).foldl (fun ts p=>ts.setIfInBounds p.1 p.2) tmps).size=tmps.size:=by
 intro ps
 induction ps with
 |nil=>intro args vargs s tmps hv hs hp;exact⟨hs,rfl⟩
 |cons p ps ih=>
  intro args vargs s tmps hv hs hp
  cases hv with
  |nil=>exact⟨hs,rfl⟩
  |cons x c xs cs hx hxs=>
   have h1:=dg.set hs (hp p List.mem_cons_self) hx
   obtain⟨i1,i2⟩:=ih (s:=s.set p x) (tmps:=tmps.setIfInBounds p c) hxs h1 (fun q hq=>by simpa using hp q (List.mem_cons_of_mem _ hq))
   refine⟨?_,?_⟩
   ·simpa [j9] using i1
   ·simpa using i2
theorem Fx(hR:mi P G w0 R):zY P G w0 (iC R):=by
 intro l args h r h' he K w vargs lg hγ hv hs caller cs
 unfold iC at he
 split at he
 ·cases he
 ·rename_i rec hrec
  split at he
  ·rename_i hsize
   obtain⟨mm,m1,m2,m3,m4,m5,m6,m7,m8,m9,m10,-⟩:=hs.bh hγ hrec rec.state rec.pending
   have hargs:vargs.size=mm.params.size:=by
    rw[m4,hsize,hv.length];simp
   have hy:=run_yield (P:=P) m1 hargs
   split at he
   ·rename_i e1 h1 hassign
    split at he
    ·rename_i r1 hr1
     split at he
     ·rename_i hready
      obtain⟨sp1,sp2⟩:=wj (ps:=rec.params.toList) hv m7 m10
      have hfold:(mm.params.zip vargs).foldl (fun tmps (x:Tmp × Value)=>tmps.setIfInBounds x.1 x.2) mm.tmps=(rec.params.toList.zip vargs.toList).foldl (fun ts p=>ts.setIfInBounds p.1 p.2) mm.tmps:=by
       rw[<-Array.foldl_toList,Array.toList_zip,m4]
      let b:Frame:={(default:Frame) with fn:=mm.fn,kind:= .normal,roundOf:=some lg}
      let a:Act:={tmps:=(rec.params.toList.zip vargs.toList).foldl (fun ts p=>ts.setIfInBounds p.1 p.2) mm.tmps,defers:=[]}
      have hfnok:(P.funcs[mm.fn]?).isSome=true:=by
       have:=m8
       unfold Fk at this
       rw[Bool.and_eq_true] at this
       exact this.2
      have hf0:ev P K {tmps:=j9 rec.params.toList args rec.tmps,defers:=[],pan:=none,round:=some l} a b []:=
       ⟨sp1,.nil,⟨lg,hγ,rfl,rfl,rfl,rfl,rfl⟩,hfnok⟩
      have hok1:codeOk a.tmps.size rec.assign=true:=by
       have:=m8;unfold Fk at this;rw[Bool.and_eq_true] at this
       show codeOk (Array.size _) _=true
       rw[sp2];exact this.1
      have hok2:codeOk a.tmps.size rec.body=true:=by
       have:=m9;unfold Fk at this;rw[Bool.and_eq_true] at this
       show codeOk (Array.size _) _=true
       rw[sp2];exact this.1
      have hstart:Frame.round lg mm.fn ((mm.params.zip vargs).foldl (fun tmps (x:Tmp × Value)=>tmps.setIfInBounds x.1 x.2) mm.tmps) mm.assign mm.body .normal=b.atR a [.code rec.assign,.beginRound,.code rec.body]:=by
       simp only[Frame.round,Frame.atR,b,a,hfold,m5,m6]
      have nocs:∀{K:aB} {p:Option (AV × Bool)} {base cs':List Frame},CS K .normal base p cs'->cs'=base:=by
       intro K p base cs' c
       generalize hq:CallKind.normal=q at c
       cases c with
       |normal=>rfl
       |ret c0 rest h1=>exact absurd (hq.trans h1) (by simp)
       |pan c0 rest x v r h1=>exact absurd (hq.trans h1) (by simp)
      obtain⟨K1,w1,a1,cs1,ms1,L1⟩:=hR.code _ _ _ _ _ _ hassign K w a b [.beginRound,.code rec.body] (caller::cs) (caller::cs) [] hf0 (.normal rfl) hs hok1
      have hcs1:=nocs L1.cs
      subst hcs1
      obtain⟨nn,n1,n2,n3,n4,n5,n6,n7,n8,n9,n10,sbusy⟩:=L1.sim.bh (L1.le.γ _ _ hγ) hr1 .busy r1.pending
      have hbegin:=run_beginRound (P:=P) n1 (n2.trans hready)
      have heqb:({nn with state:= .busy,pending:=r1.pending}:Loop)={nn with state:= .busy}:=by rw[<-n3]
      rw[heqb] at sbusy
      have hmid:Steps P (lone (Frame.round lg mm.fn ((mm.params.zip vargs).foldl (fun tmps (x:Tmp × Value)=>tmps.setIfInBounds x.1 x.2) mm.tmps) mm.assign mm.body .normal) (caller::cs) w)
       (lone (b.atR a1 [.code rec.body]) (caller::cs) (w1.putObj lg (.loop {nn with state:= .busy}))):=by
       rw[hstart]
       exact Steps.trans L1.arr (.one (stepR_beginRound rfl hbegin))
      have hmdd:∀r∈ms1,r∉K.md:=fun r hr=>(L1.marks r hr).resolve_left (by simp)
      have body:∀(out:Xt) (e2:Env) (h2:ae),R.code rec.body e1 {h1 with loops:=h1.loops.set l {r1 with state:= .busy}}=some (out,e2,h2)->
       ∃K2 w2 a2 ms2,K.Le K2/\jv P G w0 K2 h2 w2/\ev P K2 e2 a2 b ms2/\Arr P K2 (lone (b.atR a1 [.code rec.body]) (caller::cs) (w1.putObj lg (.loop {nn with state:= .busy}))) b [] (caller::cs) out a2 w2:=by
       intro out e2 h2 hcode
       obtain⟨K2,w2,a2,cs2,ms2,L2⟩:=hR.code _ _ _ _ _ _ hcode K1 _ a1 b [] (caller::cs) (caller::cs) ms1 L1.frame L1.cs sbusy (by rw[L1.size];exact hok2)
       have hcs2:=nocs L2.cs
       subst hcs2
       exact⟨K2,w2,a2,ms2,L1.le.trans L2.le,L2.sim,L2.frame,L2.arr⟩
      have ending:∀(h2:ae) (out:Res) (hh:ae) (st:LoopState) (pe:Option Code) (bb:Bool) (K2:aB) (w2:World),K.Le K2->jv P G w0 K2 h2 w2->pe.isNone=bb->(if pe.isNone then LoopState.ready else .done)=st->
       ((h2.loops[l]?).map fun r=>(Res.ret (.v (.bool bb)),{h2 with loops:=h2.loops.set l {r with state:=st,pending:=pe}}))=some (out,hh)->
       ∃v w3,(Instr.endRound lg pe).run P w2= .ok (.bool bb) w3/\jv P G w0 K2 hh w3/\out= .ret (.v (.bool bb))/\aI K2 (.v (.bool bb)) v/\v= .bool bb:=by
       intro h2 out hh st pe bb K2 w2 le2 s2 hbb hst hmap
       simp only[Option.map_eq_some_iff,Prod.mk.injEq] at hmap
       obtain⟨r2,hr2,rfl,rfl⟩:=hmap
       obtain⟨qq,q1,q2,q3,-,-,-,-,-,-,-,send⟩:=s2.bh (le2.γ _ _ hγ) hr2 st pe
       have hend:=run_endRound (P:=P) pe q1
       rw[hst,hbb] at hend
       exact⟨_,_,hend,send,rfl,.v _ rfl,rfl⟩
      have hnil:∀{K2:aB} {e2:Env} {a2:Act} {ms2:List Nat},ev P K2 e2 a2 b ms2->e2.round=some l->a2.defers=[]:=by
       intro K2 e2 a2 ms2 hf hr
       have:=hf.round
       rw[hr] at this
       obtain⟨_,_,_,_,h1,_⟩:=this
       exact h1
      refine⟨mm.fn,(mm.params.zip vargs).foldl (fun tmps (x:Tmp × Value)=>tmps.setIfInBounds x.1 x.2) mm.tmps,mm.assign,mm.body,?_⟩
      split at he
      ·rename_i e2 h2 hbody
       obtain⟨K2,w2,a2,ms2,le2,s2,f2,harr⟩:=body _ _ _ hbody
       obtain⟨v,w3,hend,s3,rfl,hvr,rfl⟩:=ending h2 r h' .ready none true K2 w2 le2 s2 rfl rfl he
       exact⟨K2,w3,hy,le2,s3,_,hvr,hmid.trans (Steps.trans harr (.one (stepR_round_end rfl rfl hend)))⟩
      ·rename_i e2 h2 hbody
       obtain⟨K2,w2,a2,ms2,le2,s2,f2,todo,harr⟩:=body _ _ _ hbody
       obtain⟨v,w3,hend,s3,rfl,hvr,rfl⟩:=ending h2 r h' .done (some .ret) false K2 w2 le2 s2 rfl rfl he
       exact⟨K2,w3,hy,le2,s3,_,hvr,hmid.trans (harr.trans (.one (stepR_round_ret rfl rfl hend)))⟩
      ·rename_i id e2 h2 hbody
       obtain⟨K2,w2,a2,ms2,le2,s2,f2,todo,hex,harr⟩:=body _ _ _ hbody
       obtain⟨v,w3,hend,s3,rfl,hvr,rfl⟩:=ending h2 r h' .done (some (.exit id)) false K2 w2 le2 s2 rfl rfl he
       exact⟨K2,w3,hy,le2,s3,_,hvr,hmid.trans (harr.trans (.one (stepR_round_exit rfl rfl (hex.trans rfl) hend)))⟩
      ·rename_i x e2 h2 hbody
       simp only[Option.some.injEq,Prod.mk.injEq] at he
       obtain⟨rfl,rfl⟩:=he
       obtain⟨K2,w2,a2,ms2,le2,s2,f2,todo,v,hx,harr⟩:=body _ _ _ hbody
       have hd:a2.defers=[]:=by
        have:=f2.round
        cases hq:e2.round with
        |none=>rw[hq] at this;cases this
        |some l'=>rw[hq] at this;obtain⟨_,_,_,_,h1,_⟩:=this;exact h1
       obtain⟨fnn,hfnn⟩:=Option.isSome_iff_exists.1 hfnok
       exact⟨K2,w2,hy,le2,s2,v,_,hx,hmid.trans harr,rfl,hd,fnn,hfnn⟩
      ·cases he
     ·cases he
    ·cases he
   ·cases he
  ·cases he
theorem qY(hp:Prog P){prims:FuncId->Option (List AV->ae->Option (AV × ae))}(hprim:∀g p,prims g=some p->jb P G w0 g p):∀n,mi P G w0 (fW P G prims n):=by
 intro n
 induction n with
 |zero=>
  refine⟨?_,?_,?_,?_⟩
  ·intro c e h out e' h' he;cases he
  ·intro g args h r h' he;cases he
  ·intro g args m h x m' h' he;cases he
  ·intro l args h r h' he;cases he
 |succ n ih=>exact⟨Ia hp.names hp.mixed ih,Ic hp hprim ih,Fw hp ih,Fx ih⟩
end
end Go.AE
end
